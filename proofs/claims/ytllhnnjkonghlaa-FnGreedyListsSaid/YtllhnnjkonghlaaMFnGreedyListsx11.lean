import Derived.Test.YtllhnnjkonghlaaMFnGreedyListsx0
import Derived.Test.YtllhnnjkonghlaaMFnGreedyListsx1
import Derived.Test.YtllhnnjkonghlaaMFnGreedyListsx2
import Derived.Test.YtllhnnjkonghlaaMFnGreedyListsx3
import Derived.Test.YtllhnnjkonghlaaMFnGreedyListsx5
import Derived.Test.YtllhnnjkonghlaaMFnGreedyListsx6
import Derived.Test.YtllhnnjkonghlaaMFnGreedyListsx7
import Derived.Test.YtllhnnjkonghlaaMFnGreedyListsx9
import Derived.Test.YtllhnnjkonghlaaMFnGreedyListsx10
namespace Go.Proofs.Ytllhnnjkonghlaa.MFnGreedyLists
open Go.RowKit Go.Proofs.YtllhnnjkonghlaaW.PrintWords Go.Proofs.YtllhnnjkonghlaaW.PrintLast Go.Proofs.YtllhnnjkonghlaaW.PrintMore
attribute [local go_sem] max2_int min2_int max_two min_two max_three min_three max_four min_four   
set_option linter.unusedVariables false
set_option linter.unusedSimpArgs false
mutual
def laws_FnGreedyLists.j0 : Nat → List Int → Int → List (S45) → List (List Int) → Bool → Bool → Option (Bool)
 | 0, _, _, _, _, _, _ => none
 | k + 1, x1, x5, x6, x7, x8, x71 => if x71 = true then (some false) else (if x8 = true then ((impl_MovesOf.f k x5 x7 x6).bind fun bt535 => ((impl_ReachCount.f k x5 x6).bind fun bt539 => ((impl_FollowMoves.f k x5 x6 bt535.1).bind fun bt541 => (if bt535.2 = true then (if bt539.2 = true then (if (x7.length : Int) > bt539.1 then (laws_FnGreedyLists.j1 k x1 x5 x6 x7 true) else (if bt541.2 = true then ((laws_uLists.f k bt541.1 x7).bind fun t545 => (laws_FnGreedyLists.j1 k x1 x5 x6 x7 (!t545))) else (laws_FnGreedyLists.j1 k x1 x5 x6 x7 true))) else (laws_FnGreedyLists.j1 k x1 x5 x6 x7 true)) else (laws_FnGreedyLists.j1 k x1 x5 x6 x7 true))))) else (laws_FnGreedyLists.j4 k x1))
def laws_FnGreedyLists.j4 : Nat → List Int → Option (Bool)
 | 0, _ => none
 | k + 1, x1 => (spec_DrawIsMoveList.f k x1).bind fun bt567 => ((impl_IsMoveList.f k bt567.1 bt567.2.1 bt567.2.2).bind fun bt574 => ((spec_IsMoveList.f k bt567.1 bt567.2.1 bt567.2.2).bind fun bt576 => ((impl_MovesOf.f k bt567.1 bt567.2.1 bt567.2.2).bind fun bt578 => ((spec_MovesOf.f k bt567.1 bt567.2.1 bt567.2.2).bind fun bt582 => (if (bt574.2 == bt576.2) = true then (if (bt574.1 == bt576.1) = true then (if (bt578.2 == bt582.2) = true then ((laws_uSame.f k bt578.1 bt582.1).bind fun t586 => (if t586 = true then (if bt574.1 = true then (some bt578.2) else (some true)) else (some false))) else (some false)) else (some false)) else (some false))))))
def laws_FnGreedyLists.j1 : Nat → List Int → Int → List (S45) → List (List Int) → Bool → Option (Bool)
 | 0, _, _, _, _, _ => none
 | k + 1, x1, x5, x6, x7, x114 => if x114 = true then (some false) else (laws_FnGreedyLists.l0 k x1 x5 x6 x7 ([] : List Int) x7 (x7.length : Int) 0)
def laws_FnGreedyLists.l0 : Nat → List Int → Int → List (S45) → List (List Int) → List Int → List (List Int) → Int → Int → Option (Bool)
 | 0, _, _, _, _, _, _, _, _ => none
 | k + 1, x1, x5, x6, x7, x17, x115, x116, x117 => if x117 < x116 then (if 0 ≤ x117 then (if x117 < (x115.length : Int) then ((impl_PermutationRank.f k (rd_L3 x115 x117)).bind fun bt547 => (if bt547.2 = true then ((laws_uHas.f k x17 bt547.1).bind fun t549 => (if t549 = true then (some false) else (if x17.length < 17592186044416 then (laws_FnGreedyLists.l0 k x1 x5 x6 x7 (x17 ++ [bt547.1]) x115 x116 (wrap64 (x117 + 1))) else (none)))) else (some false))) else (none)) else (none)) else (laws_FnGreedyLists.l1 k x1 x5 x6 x7 x17 x6 (x6.length : Int) 0)
def laws_FnGreedyLists.l1 : Nat → List Int → Int → List (S45) → List (List Int) → List Int → List (S45) → Int → Int → Option (Bool)
 | 0, _, _, _, _, _, _, _, _ => none
 | k + 1, x1, x5, x6, x7, x17, x138, x139, x140 => if x140 < x139 then (if 0 ≤ x140 then (if x140 < (x138.length : Int) then (if 0 ≤ (wrap64 ((x7.length : Int) - 1)) then (if (wrap64 ((x7.length : Int) - 1)) < (x7.length : Int) then ((impl_ApplyMove.f k (rd_L3 x7 (wrap64 ((x7.length : Int) - 1))) ((rd_T45 x138 x140).f0) ((rd_T45 x138 x140).f1) ((rd_T45 x138 x140).f2)).bind fun bt556 => ((impl_PermutationRank.f k bt556.1).bind fun bt560 => (if bt556.2 = true then (if bt560.2 = true then ((laws_uHas.f k x17 bt560.1).bind fun t562 => (if t562 = true then (laws_FnGreedyLists.l1 k x1 x5 x6 x7 x17 x138 x139 (wrap64 (x140 + 1))) else (some false))) else (some false)) else (some false)))) else (none)) else (none)) else (none)) else (none)) else ((impl_Factorial.f k x5).bind fun bt563 => ((impl_IsMoveList.f k x5 x7 x6).bind fun bt565 => (if bt563.2 = true then (if bt565.2 = true then (if (bt565.1 != ((x7.length : Int) == bt563.1)) = true then (some false) else (laws_FnGreedyLists.j4 k x1)) else (some false)) else (some false))))
end
def laws_FnGreedyLists.f (k : Nat) (l0 : List Int) (l1 : List Int) : Option (Bool) := (laws_big.f l0 l1).bind fun t521 => (if t521 = true then (some true) else ((spec_DrawGreedyList.f k l0).bind fun bt522 => ((impl_GreedyList.f k bt522.1 bt522.2).bind fun bt526 => ((spec_GreedyList.f k bt522.1 bt522.2).bind fun bt530 => (if (bt526.2 != bt530.2) = true then (laws_FnGreedyLists.j0 k l1 bt522.1 bt522.2 bt526.1 bt526.2 true) else ((laws_uLists.f k bt526.1 bt530.1).bind fun t534 => (laws_FnGreedyLists.j0 k l1 bt522.1 bt522.2 bt526.1 bt526.2 (!t534))))))))
theorem laws_FnGreedyLists.mono_l : ∀ k, (∀ y0 y1 y2 y3 y4 y5, LeO (laws_FnGreedyLists.j0 k y0 y1 y2 y3 y4 y5) (laws_FnGreedyLists.j0 (k + 1) y0 y1 y2 y3 y4 y5)) ∧ (∀ y0, LeO (laws_FnGreedyLists.j4 k y0) (laws_FnGreedyLists.j4 (k + 1) y0)) ∧ (∀ y0 y1 y2 y3 y4, LeO (laws_FnGreedyLists.j1 k y0 y1 y2 y3 y4) (laws_FnGreedyLists.j1 (k + 1) y0 y1 y2 y3 y4)) ∧ (∀ y0 y1 y2 y3 y4 y5 y6 y7, LeO (laws_FnGreedyLists.l0 k y0 y1 y2 y3 y4 y5 y6 y7) (laws_FnGreedyLists.l0 (k + 1) y0 y1 y2 y3 y4 y5 y6 y7)) ∧ (∀ y0 y1 y2 y3 y4 y5 y6 y7, LeO (laws_FnGreedyLists.l1 k y0 y1 y2 y3 y4 y5 y6 y7) (laws_FnGreedyLists.l1 (k + 1) y0 y1 y2 y3 y4 y5 y6 y7))
 | 0 => ⟨fun _ _ _ _ _ _ r h => by simp [laws_FnGreedyLists.j0] at h, fun _ r h => by simp [laws_FnGreedyLists.j4] at h, fun _ _ _ _ _ r h => by simp [laws_FnGreedyLists.j1] at h, fun _ _ _ _ _ _ _ _ r h => by simp [laws_FnGreedyLists.l0] at h, fun _ _ _ _ _ _ _ _ r h => by simp [laws_FnGreedyLists.l1] at h⟩
 | k + 1 => by
  obtain ⟨ih0, ih1, ih2, ih3, ih4⟩ := laws_FnGreedyLists.mono_l k
  refine ⟨?_, ?_, ?_, ?_, ?_⟩
  ·intro y0 y1 y2 y3 y4 y5
   unfold laws_FnGreedyLists.j0
   repeat' first
   | (with_reducible exact ih0 _ _ _ _ _ _)
   | (with_reducible exact ih1 _)
   | (with_reducible exact ih2 _ _ _ _ _)
   | (with_reducible exact ih3 _ _ _ _ _ _ _ _)
   | (with_reducible exact ih4 _ _ _ _ _ _ _ _)
   | (with_reducible exact impl_ApplyMove.mono _ _ _ _ _)
   | (with_reducible exact impl_Factorial.mono _ _)
   | (with_reducible exact impl_FollowMoves.mono _ _ _ _)
   | (with_reducible exact impl_GreedyList.mono _ _ _)
   | (with_reducible exact impl_IsMoveList.mono _ _ _ _)
   | (with_reducible exact impl_MovesOf.mono _ _ _ _)
   | (with_reducible exact impl_PermutationRank.mono _ _)
   | (with_reducible exact impl_ReachCount.mono _ _ _)
   | (with_reducible exact laws_uHas.mono _ _ _)
   | (with_reducible exact laws_uLists.mono _ _ _)
   | (with_reducible exact laws_uSame.mono _ _ _)
   | (with_reducible exact spec_DrawGreedyList.mono _ _)
   | (with_reducible exact spec_DrawIsMoveList.mono _ _)
   | (with_reducible exact spec_GreedyList.mono _ _ _)
   | (with_reducible exact spec_IsMoveList.mono _ _ _ _)
   | (with_reducible exact spec_MovesOf.mono _ _ _ _)
   | (with_reducible exact LeO.refl _)
   | (with_reducible exact LeO.none _)
   | (with_reducible refine LeO.ite ?_ ?_)
   | (with_reducible refine LeO.bind ?_ (fun _ => ?_))
   | exact ih0 _ _ _ _ _ _
   | exact ih1 _
   | exact ih2 _ _ _ _ _
   | exact ih3 _ _ _ _ _ _ _ _
   | exact ih4 _ _ _ _ _ _ _ _
   | exact impl_ApplyMove.mono _ _ _ _ _
   | exact impl_Factorial.mono _ _
   | exact impl_FollowMoves.mono _ _ _ _
   | exact impl_GreedyList.mono _ _ _
   | exact impl_IsMoveList.mono _ _ _ _
   | exact impl_MovesOf.mono _ _ _ _
   | exact impl_PermutationRank.mono _ _
   | exact impl_ReachCount.mono _ _ _
   | exact laws_uHas.mono _ _ _
   | exact laws_uLists.mono _ _ _
   | exact laws_uSame.mono _ _ _
   | exact spec_DrawGreedyList.mono _ _
   | exact spec_DrawIsMoveList.mono _ _
   | exact spec_GreedyList.mono _ _ _
   | exact spec_IsMoveList.mono _ _ _ _
   | exact spec_MovesOf.mono _ _ _ _
   | exact LeO.none _
   | refine LeO.ite ?_ ?_
   | refine LeO.bind ?_ (fun _ => ?_)
  ·intro y0
   unfold laws_FnGreedyLists.j4
   repeat' first
   | (with_reducible exact ih0 _ _ _ _ _ _)
   | (with_reducible exact ih1 _)
   | (with_reducible exact ih2 _ _ _ _ _)
   | (with_reducible exact ih3 _ _ _ _ _ _ _ _)
   | (with_reducible exact ih4 _ _ _ _ _ _ _ _)
   | (with_reducible exact impl_ApplyMove.mono _ _ _ _ _)
   | (with_reducible exact impl_Factorial.mono _ _)
   | (with_reducible exact impl_FollowMoves.mono _ _ _ _)
   | (with_reducible exact impl_GreedyList.mono _ _ _)
   | (with_reducible exact impl_IsMoveList.mono _ _ _ _)
   | (with_reducible exact impl_MovesOf.mono _ _ _ _)
   | (with_reducible exact impl_PermutationRank.mono _ _)
   | (with_reducible exact impl_ReachCount.mono _ _ _)
   | (with_reducible exact laws_uHas.mono _ _ _)
   | (with_reducible exact laws_uLists.mono _ _ _)
   | (with_reducible exact laws_uSame.mono _ _ _)
   | (with_reducible exact spec_DrawGreedyList.mono _ _)
   | (with_reducible exact spec_DrawIsMoveList.mono _ _)
   | (with_reducible exact spec_GreedyList.mono _ _ _)
   | (with_reducible exact spec_IsMoveList.mono _ _ _ _)
   | (with_reducible exact spec_MovesOf.mono _ _ _ _)
   | (with_reducible exact LeO.refl _)
   | (with_reducible exact LeO.none _)
   | (with_reducible refine LeO.ite ?_ ?_)
   | (with_reducible refine LeO.bind ?_ (fun _ => ?_))
   | exact ih0 _ _ _ _ _ _
   | exact ih1 _
   | exact ih2 _ _ _ _ _
   | exact ih3 _ _ _ _ _ _ _ _
   | exact ih4 _ _ _ _ _ _ _ _
   | exact impl_ApplyMove.mono _ _ _ _ _
   | exact impl_Factorial.mono _ _
   | exact impl_FollowMoves.mono _ _ _ _
   | exact impl_GreedyList.mono _ _ _
   | exact impl_IsMoveList.mono _ _ _ _
   | exact impl_MovesOf.mono _ _ _ _
   | exact impl_PermutationRank.mono _ _
   | exact impl_ReachCount.mono _ _ _
   | exact laws_uHas.mono _ _ _
   | exact laws_uLists.mono _ _ _
   | exact laws_uSame.mono _ _ _
   | exact spec_DrawGreedyList.mono _ _
   | exact spec_DrawIsMoveList.mono _ _
   | exact spec_GreedyList.mono _ _ _
   | exact spec_IsMoveList.mono _ _ _ _
   | exact spec_MovesOf.mono _ _ _ _
   | exact LeO.none _
   | refine LeO.ite ?_ ?_
   | refine LeO.bind ?_ (fun _ => ?_)
  ·intro y0 y1 y2 y3 y4
   unfold laws_FnGreedyLists.j1
   repeat' first
   | (with_reducible exact ih0 _ _ _ _ _ _)
   | (with_reducible exact ih1 _)
   | (with_reducible exact ih2 _ _ _ _ _)
   | (with_reducible exact ih3 _ _ _ _ _ _ _ _)
   | (with_reducible exact ih4 _ _ _ _ _ _ _ _)
   | (with_reducible exact impl_ApplyMove.mono _ _ _ _ _)
   | (with_reducible exact impl_Factorial.mono _ _)
   | (with_reducible exact impl_FollowMoves.mono _ _ _ _)
   | (with_reducible exact impl_GreedyList.mono _ _ _)
   | (with_reducible exact impl_IsMoveList.mono _ _ _ _)
   | (with_reducible exact impl_MovesOf.mono _ _ _ _)
   | (with_reducible exact impl_PermutationRank.mono _ _)
   | (with_reducible exact impl_ReachCount.mono _ _ _)
   | (with_reducible exact laws_uHas.mono _ _ _)
   | (with_reducible exact laws_uLists.mono _ _ _)
   | (with_reducible exact laws_uSame.mono _ _ _)
   | (with_reducible exact spec_DrawGreedyList.mono _ _)
   | (with_reducible exact spec_DrawIsMoveList.mono _ _)
   | (with_reducible exact spec_GreedyList.mono _ _ _)
   | (with_reducible exact spec_IsMoveList.mono _ _ _ _)
   | (with_reducible exact spec_MovesOf.mono _ _ _ _)
   | (with_reducible exact LeO.refl _)
   | (with_reducible exact LeO.none _)
   | (with_reducible refine LeO.ite ?_ ?_)
   | (with_reducible refine LeO.bind ?_ (fun _ => ?_))
   | exact ih0 _ _ _ _ _ _
   | exact ih1 _
   | exact ih2 _ _ _ _ _
   | exact ih3 _ _ _ _ _ _ _ _
   | exact ih4 _ _ _ _ _ _ _ _
   | exact impl_ApplyMove.mono _ _ _ _ _
   | exact impl_Factorial.mono _ _
   | exact impl_FollowMoves.mono _ _ _ _
   | exact impl_GreedyList.mono _ _ _
   | exact impl_IsMoveList.mono _ _ _ _
   | exact impl_MovesOf.mono _ _ _ _
   | exact impl_PermutationRank.mono _ _
   | exact impl_ReachCount.mono _ _ _
   | exact laws_uHas.mono _ _ _
   | exact laws_uLists.mono _ _ _
   | exact laws_uSame.mono _ _ _
   | exact spec_DrawGreedyList.mono _ _
   | exact spec_DrawIsMoveList.mono _ _
   | exact spec_GreedyList.mono _ _ _
   | exact spec_IsMoveList.mono _ _ _ _
   | exact spec_MovesOf.mono _ _ _ _
   | exact LeO.none _
   | refine LeO.ite ?_ ?_
   | refine LeO.bind ?_ (fun _ => ?_)
  ·intro y0 y1 y2 y3 y4 y5 y6 y7
   unfold laws_FnGreedyLists.l0
   repeat' first
   | (with_reducible exact ih0 _ _ _ _ _ _)
   | (with_reducible exact ih1 _)
   | (with_reducible exact ih2 _ _ _ _ _)
   | (with_reducible exact ih3 _ _ _ _ _ _ _ _)
   | (with_reducible exact ih4 _ _ _ _ _ _ _ _)
   | (with_reducible exact impl_ApplyMove.mono _ _ _ _ _)
   | (with_reducible exact impl_Factorial.mono _ _)
   | (with_reducible exact impl_FollowMoves.mono _ _ _ _)
   | (with_reducible exact impl_GreedyList.mono _ _ _)
   | (with_reducible exact impl_IsMoveList.mono _ _ _ _)
   | (with_reducible exact impl_MovesOf.mono _ _ _ _)
   | (with_reducible exact impl_PermutationRank.mono _ _)
   | (with_reducible exact impl_ReachCount.mono _ _ _)
   | (with_reducible exact laws_uHas.mono _ _ _)
   | (with_reducible exact laws_uLists.mono _ _ _)
   | (with_reducible exact laws_uSame.mono _ _ _)
   | (with_reducible exact spec_DrawGreedyList.mono _ _)
   | (with_reducible exact spec_DrawIsMoveList.mono _ _)
   | (with_reducible exact spec_GreedyList.mono _ _ _)
   | (with_reducible exact spec_IsMoveList.mono _ _ _ _)
   | (with_reducible exact spec_MovesOf.mono _ _ _ _)
   | (with_reducible exact LeO.refl _)
   | (with_reducible exact LeO.none _)
   | (with_reducible refine LeO.ite ?_ ?_)
   | (with_reducible refine LeO.bind ?_ (fun _ => ?_))
   | exact ih0 _ _ _ _ _ _
   | exact ih1 _
   | exact ih2 _ _ _ _ _
   | exact ih3 _ _ _ _ _ _ _ _
   | exact ih4 _ _ _ _ _ _ _ _
   | exact impl_ApplyMove.mono _ _ _ _ _
   | exact impl_Factorial.mono _ _
   | exact impl_FollowMoves.mono _ _ _ _
   | exact impl_GreedyList.mono _ _ _
   | exact impl_IsMoveList.mono _ _ _ _
   | exact impl_MovesOf.mono _ _ _ _
   | exact impl_PermutationRank.mono _ _
   | exact impl_ReachCount.mono _ _ _
   | exact laws_uHas.mono _ _ _
   | exact laws_uLists.mono _ _ _
   | exact laws_uSame.mono _ _ _
   | exact spec_DrawGreedyList.mono _ _
   | exact spec_DrawIsMoveList.mono _ _
   | exact spec_GreedyList.mono _ _ _
   | exact spec_IsMoveList.mono _ _ _ _
   | exact spec_MovesOf.mono _ _ _ _
   | exact LeO.none _
   | refine LeO.ite ?_ ?_
   | refine LeO.bind ?_ (fun _ => ?_)
  ·intro y0 y1 y2 y3 y4 y5 y6 y7
   unfold laws_FnGreedyLists.l1
   repeat' first
   | (with_reducible exact ih0 _ _ _ _ _ _)
   | (with_reducible exact ih1 _)
   | (with_reducible exact ih2 _ _ _ _ _)
   | (with_reducible exact ih3 _ _ _ _ _ _ _ _)
   | (with_reducible exact ih4 _ _ _ _ _ _ _ _)
   | (with_reducible exact impl_ApplyMove.mono _ _ _ _ _)
   | (with_reducible exact impl_Factorial.mono _ _)
   | (with_reducible exact impl_FollowMoves.mono _ _ _ _)
   | (with_reducible exact impl_GreedyList.mono _ _ _)
   | (with_reducible exact impl_IsMoveList.mono _ _ _ _)
   | (with_reducible exact impl_MovesOf.mono _ _ _ _)
   | (with_reducible exact impl_PermutationRank.mono _ _)
   | (with_reducible exact impl_ReachCount.mono _ _ _)
   | (with_reducible exact laws_uHas.mono _ _ _)
   | (with_reducible exact laws_uLists.mono _ _ _)
   | (with_reducible exact laws_uSame.mono _ _ _)
   | (with_reducible exact spec_DrawGreedyList.mono _ _)
   | (with_reducible exact spec_DrawIsMoveList.mono _ _)
   | (with_reducible exact spec_GreedyList.mono _ _ _)
   | (with_reducible exact spec_IsMoveList.mono _ _ _ _)
   | (with_reducible exact spec_MovesOf.mono _ _ _ _)
   | (with_reducible exact LeO.refl _)
   | (with_reducible exact LeO.none _)
   | (with_reducible refine LeO.ite ?_ ?_)
   | (with_reducible refine LeO.bind ?_ (fun _ => ?_))
   | exact ih0 _ _ _ _ _ _
   | exact ih1 _
   | exact ih2 _ _ _ _ _
   | exact ih3 _ _ _ _ _ _ _ _
   | exact ih4 _ _ _ _ _ _ _ _
   | exact impl_ApplyMove.mono _ _ _ _ _
   | exact impl_Factorial.mono _ _
   | exact impl_FollowMoves.mono _ _ _ _
   | exact impl_GreedyList.mono _ _ _
   | exact impl_IsMoveList.mono _ _ _ _
   | exact impl_MovesOf.mono _ _ _ _
   | exact impl_PermutationRank.mono _ _
   | exact impl_ReachCount.mono _ _ _
   | exact laws_uHas.mono _ _ _
   | exact laws_uLists.mono _ _ _
   | exact laws_uSame.mono _ _ _
   | exact spec_DrawGreedyList.mono _ _
   | exact spec_DrawIsMoveList.mono _ _
   | exact spec_GreedyList.mono _ _ _
   | exact spec_IsMoveList.mono _ _ _ _
   | exact spec_MovesOf.mono _ _ _ _
   | exact LeO.none _
   | refine LeO.ite ?_ ?_
   | refine LeO.bind ?_ (fun _ => ?_)
theorem laws_FnGreedyLists.mono : ∀ a0 a1 k, LeO (laws_FnGreedyLists.f k a0 a1) (laws_FnGreedyLists.f (k + 1) a0 a1) := by
 intro a0 a1 k
 obtain ⟨ih0, ih1, ih2, ih3, ih4⟩ := laws_FnGreedyLists.mono_l k
 unfold laws_FnGreedyLists.f
 repeat' first
   | (with_reducible exact ih0 _ _ _ _ _ _)
   | (with_reducible exact ih1 _)
   | (with_reducible exact ih2 _ _ _ _ _)
   | (with_reducible exact ih3 _ _ _ _ _ _ _ _)
   | (with_reducible exact ih4 _ _ _ _ _ _ _ _)
   | (with_reducible exact impl_ApplyMove.mono _ _ _ _ _)
   | (with_reducible exact impl_Factorial.mono _ _)
   | (with_reducible exact impl_FollowMoves.mono _ _ _ _)
   | (with_reducible exact impl_GreedyList.mono _ _ _)
   | (with_reducible exact impl_IsMoveList.mono _ _ _ _)
   | (with_reducible exact impl_MovesOf.mono _ _ _ _)
   | (with_reducible exact impl_PermutationRank.mono _ _)
   | (with_reducible exact impl_ReachCount.mono _ _ _)
   | (with_reducible exact laws_uHas.mono _ _ _)
   | (with_reducible exact laws_uLists.mono _ _ _)
   | (with_reducible exact laws_uSame.mono _ _ _)
   | (with_reducible exact spec_DrawGreedyList.mono _ _)
   | (with_reducible exact spec_DrawIsMoveList.mono _ _)
   | (with_reducible exact spec_GreedyList.mono _ _ _)
   | (with_reducible exact spec_IsMoveList.mono _ _ _ _)
   | (with_reducible exact spec_MovesOf.mono _ _ _ _)
   | (with_reducible exact LeO.refl _)
   | (with_reducible exact LeO.none _)
   | (with_reducible refine LeO.ite ?_ ?_)
   | (with_reducible refine LeO.bind ?_ (fun _ => ?_))
   | exact ih0 _ _ _ _ _ _
   | exact ih1 _
   | exact ih2 _ _ _ _ _
   | exact ih3 _ _ _ _ _ _ _ _
   | exact ih4 _ _ _ _ _ _ _ _
   | exact impl_ApplyMove.mono _ _ _ _ _
   | exact impl_Factorial.mono _ _
   | exact impl_FollowMoves.mono _ _ _ _
   | exact impl_GreedyList.mono _ _ _
   | exact impl_IsMoveList.mono _ _ _ _
   | exact impl_MovesOf.mono _ _ _ _
   | exact impl_PermutationRank.mono _ _
   | exact impl_ReachCount.mono _ _ _
   | exact laws_uHas.mono _ _ _
   | exact laws_uLists.mono _ _ _
   | exact laws_uSame.mono _ _ _
   | exact spec_DrawGreedyList.mono _ _
   | exact spec_DrawIsMoveList.mono _ _
   | exact spec_GreedyList.mono _ _ _
   | exact spec_IsMoveList.mono _ _ _ _
   | exact spec_MovesOf.mono _ _ _ _
   | exact LeO.none _
   | refine LeO.ite ?_ ?_
   | refine LeO.bind ?_ (fun _ => ?_)
def laws_FnGreedyLists.T26 : Bool × List (List Nat × List Nat) := (true, [([], []), ([], []), ([1], [1]), ([2], [2]), ([0, 3], [0, 3]), ([4], [4]), ([], []), ([5, 6], [5, 6]), ([7], [7]), ([8], [8]), ([8], [8]), ([9, 7, 0, 1, 2, 3, 4, 5, 6, 7, 8, 9], [9]), ([10, 11, 0, 1, 2, 3, 4, 5, 6, 7, 8, 9, 10, 11], [10])])
def laws_FnGreedyLists.B26 : List Nat := [0, 0, 2, 6, 15, 31, 0, 127, 255, 511, 511, 1023, 4095]
theorem laws_FnGreedyLists.tab26 : rtab .any (opsOf Try.f5 26) = laws_FnGreedyLists.T26 := by kernel_rfl
theorem laws_FnGreedyLists.bits26 : waitsOk laws_FnGreedyLists.T26.2 laws_FnGreedyLists.B26 = true := by kernel_rfl
set_option maxHeartbeats 8000000 in
set_option maxRecDepth 100000 in
theorem laws_FnGreedyLists.calls (k : Nat) (A0 : Option Addr) (c0 : Nat) (l0 : List Int) (A1 : Option Addr) (c1 : Nat) (l1 : List Int) (r : Bool) (w : World) (hr0 : Kd.C (Kd.int .u8) w A0 l0.length l0) (hc0 : l0.length ≤ c0) (hr1 : Kd.C (Kd.int .u8) w A1 l1.length l1) (hc1 : l1.length ≤ c1) (h : laws_FnGreedyLists.f k l0 l1 = some r) :
  Calls Try.prog 5 #[.slice A0 l0.length c0, .slice A1 l1.length c1] w fun e w' => e = .returned (.bool r) ∧ Below w.heap.size w w' := by
 have hu45 := Try.underlying45
 have HR0 := Ya hr0
 have HC0 := Ya hc0
 clear hr0 hc0
 have HR1 := Ya hr1
 have HC1 := Ya hc1
 clear hr1 hc1
 have HB := Ya (Below.refl w.heap.size w)
 have H : ((laws_big.f l0 l1).bind fun t521 => (if t521 = true then (some true) else ((spec_DrawGreedyList.f k l0).bind fun bt522 => ((impl_GreedyList.f k bt522.1 bt522.2).bind fun bt526 => ((spec_GreedyList.f k bt522.1 bt522.2).bind fun bt530 => (if (bt526.2 != bt530.2) = true then (laws_FnGreedyLists.j0 k l1 bt522.1 bt522.2 bt526.1 bt526.2 true) else ((laws_uLists.f k bt526.1 bt530.1).bind fun t534 => (laws_FnGreedyLists.j0 k l1 bt522.1 bt522.2 bt526.1 bt526.2 (!t534))))))))) = some r := h
 clear h
 replace H := Z35.mp H
 obtain ⟨t521, A30, H⟩ := H
 replace H : (if t521 = true then (some true) else ((spec_DrawGreedyList.f k l0).bind fun bt522 => ((impl_GreedyList.f k bt522.1 bt522.2).bind fun bt526 => ((spec_GreedyList.f k bt522.1 bt522.2).bind fun bt530 => (if (bt526.2 != bt530.2) = true then (laws_FnGreedyLists.j0 k l1 bt522.1 bt522.2 bt526.1 bt526.2 true) else ((laws_uLists.f k bt526.1 bt530.1).bind fun t534 => (laws_FnGreedyLists.j0 k l1 bt522.1 bt522.2 bt526.1 bt526.2 (!t534)))))))) = some r := H
 have A3 := Ya A30
 clear A30
 by_cases c4 : t521 = true
 ·subst c4
  have H1 : (some true) = some r := by rw [if_pos rfl] at H; exact H
  clear H
  have H := H1
  clear H1
  obtain rfl := Option.some.inj H
  go_enter Try.func5, Try.ntmps5
  go_wp2_with (first | ((with_reducible refine gate_callee (f := 15) rfl ?_); refine Yz 45 Try.func15 #[.slice A0 l0.length c0, .slice A1 l1.length c1] ?_; (with_reducible refine (laws_big.calls _ _ l0 _ _ l1 true _ (Yc HR0.out) HC0.out (Yc HR1.out) HC1.out A3.out).mono ?_); rintro e w' ⟨rfl, ⟨nd, rfl⟩⟩; refine ⟨_, rfl, ?_⟩))
  go_ret
  exact ⟨Q2, Q0⟩
 ·replace c4 := Bool.eq_false_iff.mpr c4
  subst c4
  have H1 : ((spec_DrawGreedyList.f k l0).bind fun bt522 => ((impl_GreedyList.f k bt522.1 bt522.2).bind fun bt526 => ((spec_GreedyList.f k bt522.1 bt522.2).bind fun bt530 => (if (bt526.2 != bt530.2) = true then (laws_FnGreedyLists.j0 k l1 bt522.1 bt522.2 bt526.1 bt526.2 true) else ((laws_uLists.f k bt526.1 bt530.1).bind fun t534 => (laws_FnGreedyLists.j0 k l1 bt522.1 bt522.2 bt526.1 bt526.2 (!t534))))))) = some r := by rw [if_neg (show ¬ (false = true) by decide)] at H; exact H
  clear H
  have H := H1
  clear H1
  replace H := Z35.mp H
  obtain ⟨⟨t522, t523⟩, A50, H⟩ := H
  replace H : ((impl_GreedyList.f k t522 t523).bind fun bt526 => ((spec_GreedyList.f k t522 t523).bind fun bt530 => (if (bt526.2 != bt530.2) = true then (laws_FnGreedyLists.j0 k l1 t522 t523 bt526.1 bt526.2 true) else ((laws_uLists.f k bt526.1 bt530.1).bind fun t534 => (laws_FnGreedyLists.j0 k l1 t522 t523 bt526.1 bt526.2 (!t534)))))) = some r := H
  have A5 := Ya A50
  clear A50
  replace H := Z35.mp H
  obtain ⟨⟨t526, t527⟩, A60, H⟩ := H
  replace H : ((spec_GreedyList.f k t522 t523).bind fun bt530 => (if (t527 != bt530.2) = true then (laws_FnGreedyLists.j0 k l1 t522 t523 t526 t527 true) else ((laws_uLists.f k t526 bt530.1).bind fun t534 => (laws_FnGreedyLists.j0 k l1 t522 t523 t526 t527 (!t534))))) = some r := H
  have A6 := Ya A60
  clear A60
  replace H := Z35.mp H
  obtain ⟨⟨t530, t533⟩, A70, H⟩ := H
  replace H : (if (t527 != t533) = true then (laws_FnGreedyLists.j0 k l1 t522 t523 t526 t527 true) else ((laws_uLists.f k t526 t530).bind fun t534 => (laws_FnGreedyLists.j0 k l1 t522 t523 t526 t527 (!t534)))) = some r := H
  have A7 := Ya A70
  clear A70
  have HC8 := Ya H
  clear H
  go_enter Try.func5, Try.ntmps5
  go_upto_region 6 with (first | ((with_reducible refine gate_callee (f := 15) rfl ?_); refine Yz 45 Try.func15 #[.slice A0 l0.length c0, .slice A1 l1.length c1] ?_; (with_reducible refine (laws_big.calls _ _ l0 _ _ l1 false _ (Yc HR0.out) HC0.out (Yc HR1.out) HC1.out A3.out).mono ?_); rintro e w' ⟨rfl, ⟨nd, rfl⟩⟩; refine ⟨_, rfl, ?_⟩) | ((with_reducible refine gate_callee (f := 32) rfl ?_); refine Yz 48 Try.func32 #[.slice A0 l0.length c0] ?_; (with_reducible refine (spec_DrawGreedyList.calls k _ _ l0 t522 t523 _ (Yc HR0.out) HC0.out A5.out).mono ?_); rintro e w9 ⟨v524, rfl, ho0, hb⟩; refine ⟨_, rfl, ?_⟩; have HO525 := Yl ho0; replace HB := Yh hb; (try clear hb ho0); obtain ⟨Ao10, co10, rfl⟩ := Z17 HO525.out) | ((with_reducible refine gate_callee (f := 33) rfl ?_); refine Yz 54 Try.func33 #[.int .i64 t522, .slice Ao10 t523.length co10] ?_; (with_reducible refine (impl_GreedyList.calls k t522 _ _ t523 t526 t527 _ (Yc (Kd.R_reads' HO525.out).2.2) ((Kd.R_reads' HO525.out).2.1) A6.out).mono ?_); rintro e w11 ⟨v528, rfl, ho0, hb⟩; refine ⟨_, rfl, ?_⟩; have HO529 := Ya (Kd.N_lower (Kd.N_mono (ok' := fun k_ => some k_ ≠ (.slice Ao10 t523.length co10 : Value).ownBlock) (Kd.S_N (Kd.S_bound ho0)) (fun k_ hk_ => (Kd.fresh' (Z16 (Yr HO525.out)) k_ hk_.2.1))) (Z7 Q12)); replace HO525 := Yw HO525 hb; replace HB := Yh hb; (try clear hb ho0)) | ((with_reducible refine gate_callee (f := 34) rfl ?_); refine Yz 60 Try.func34 #[.int .i64 t522, .slice Ao10 t523.length co10] ?_; (with_reducible refine (spec_GreedyList.calls k t522 _ _ t523 t530 t533 _ (Yc (Kd.R_reads' HO525.out).2.2) ((Kd.R_reads' HO525.out).2.1) A7.out).mono ?_); rintro e w12 ⟨v531, rfl, ho0, hb⟩; refine ⟨_, rfl, ?_⟩; have HO532 := Ya (Kd.N_lower (Kd.N_mono (ok' := fun k_ => some k_ ≠ (.slice Ao10 t523.length co10 : Value).ownBlock ∧ some k_ ≠ (v528 : Value).ownBlock) ho0 (fun k_ hk_ => ⟨(Kd.fresh' (Z16 (Yr HO525.out)) k_ hk_), (Kd.fresh' (Kd.N_lt (Qm0 HO529.out)) k_ hk_)⟩)) (Z7 Q12)); replace HO525 := Yw HO525 hb; replace HO529 := Ya (Kd.N_elder' (Qm0 HO529.out) (Kd.N_base ho0) hb); replace HB := Yh hb; (try clear hb ho0)))
  (try simp only [Act.put, Z0, Z1, Z2])
  go_cut [71] (fun v71 wc => ∃ (kq : Nat) (x71_7 : Bool), v71 = .bool x71_7 ∧ Aside0 (laws_FnGreedyLists.j0 kq l1 t522 t523 t526 t527 x71_7 = some r) ∧ Aside0 (kq ≤ k) ∧ Aside0 (Kd.R k45 45 wc w.heap.size (fun _ => True) (.slice Ao10 t523.length co10) t523) ∧ Aside0 (Kd.N (Kd.slice 3 (Kd.int .i64)) 24 wc w.heap.size (fun k_ => some k_ ≠ ((.slice Ao10 t523.length co10) : Value).ownBlock) v528 t526) ∧ Aside0 (Below w.heap.size w wc))
  case first =>
   have H := HC8.out
   clear HC8
   by_cases c13 : (t527 != t533) = true
   ·rw [if_pos c13] at H
    have c13b0 : (t527 != t533) = true := c13
    (try (have c13b1 : decide (t527 = t533) = false := by simpa using c13))
    (try (have c13b2 : (t527 == t533) = false := by simpa using c13))
    (try (have c13b3 : ¬ (t527 = t533) := by simpa using c13))
    clear c13
    (first | rw [c13b0] | (simp only [i64_w, i32_w]; rw [c13b0]) | skip)
    have H' := Ya H
    clear H
    go_wp2
    go_meet
    case rel => exact ⟨_, (true), Q5, H', ⟨Q46⟩, ⟨by (with_reducible repeat (first | apply Z9 | apply Z10 | apply Z11)); exact HO525.out⟩, ⟨Q55⟩, ⟨Q0⟩⟩
   ·rw [if_neg c13] at H
    have c13b0 : (t527 != t533) = false := by simpa using c13
    (try (have c13b1 : decide (t527 = t533) = true := by simpa using c13))
    (try (have c13b2 : (t527 == t533) = true := by simpa using c13))
    clear c13
    (first | rw [c13b0] | (simp only [i64_w, i32_w]; rw [c13b0]) | skip)
    replace H := Z35.mp H
    obtain ⟨t534, A140, H⟩ := H
    replace H : (laws_FnGreedyLists.j0 k l1 t522 t523 t526 t527 (!t534)) = some r := H
    have A14 := Ya A140
    clear A140
    have H' := Ya H
    clear H
    obtain ⟨Ao15, co15, eo15⟩ := Kd.N_slice HO529.out
    subst eo15
    obtain ⟨Ao16, co16, eo16⟩ := Kd.N_slice HO532.out
    subst eo16
    go_wp2_with (first | (go_at_call 31; (with_reducible refine (laws_uLists.calls k _ _ t526 _ _ t530 t534 _ (Yc (Kd.N_reads' HO529.out).2.2) ?side2 (Yc (Kd.N_reads' HO532.out).2.2) ?side4 A14.out).mono ?_); (case side2 => exact (Kd.N_reads' HO529.out).2.1); (case side4 => exact (Kd.N_reads' HO532.out).2.1); rintro e w' ⟨rfl, ⟨nd, rfl⟩⟩))
    go_meet
    case rel => exact ⟨_, (!t534), Q5, H', ⟨Q46⟩, ⟨by (with_reducible repeat (first | apply Z9 | apply Z10 | apply Z11)); exact HO525.out⟩, ⟨Q55⟩, ⟨Q0⟩⟩
  case rest => as_aux_lemma =>
   clear HC8
   try clear c1
   try clear p2
   try clear c3
   try clear c4
   try clear c5
   try clear c13
   try clear c13b0
   try clear c13b1
   try clear c13b2
   try clear c15
   obtain ⟨kq, x71_7, rfl, HA, HJ7, HO_6, HO_7, HB⟩ := hcut
   cases kq with
   | zero => exact absurd HA.out (by simp [laws_FnGreedyLists.j0])
   | succ kj7 =>
    have H := HA.out
    clear HA
    simp only [laws_FnGreedyLists.j0] at H
    by_cases c17 : x71_7 = true
    ·subst c17
     have H1 : (some false) = some r := by rw [if_pos rfl] at H; exact H
     clear H
     have H := H1
     clear H1
     obtain rfl := Option.some.inj H
     go_wp2
     go_ret
     exact ⟨Q2, Q0⟩
    ·replace c17 := Bool.eq_false_iff.mpr c17
     subst c17
     have H1 : (if t527 = true then ((impl_MovesOf.f kj7 t522 t526 t523).bind fun bt535 => ((impl_ReachCount.f kj7 t522 t523).bind fun bt539 => ((impl_FollowMoves.f kj7 t522 t523 bt535.1).bind fun bt541 => (if bt535.2 = true then (if bt539.2 = true then (if (t526.length : Int) > bt539.1 then (laws_FnGreedyLists.j1 kj7 l1 t522 t523 t526 true) else (if bt541.2 = true then ((laws_uLists.f kj7 bt541.1 t526).bind fun t545 => (laws_FnGreedyLists.j1 kj7 l1 t522 t523 t526 (!t545))) else (laws_FnGreedyLists.j1 kj7 l1 t522 t523 t526 true))) else (laws_FnGreedyLists.j1 kj7 l1 t522 t523 t526 true)) else (laws_FnGreedyLists.j1 kj7 l1 t522 t523 t526 true))))) else (laws_FnGreedyLists.j4 kj7 l1)) = some r := by rw [if_neg (show ¬ (false = true) by decide)] at H; exact H
     clear H
     have H := H1
     clear H1
     have HC18 := Ya H
     clear H
     go_upto_if 72 with (fail)
     go_cut [] (fun wc => ∃ (kq : Nat), Aside0 (laws_FnGreedyLists.j4 kq l1 = some r) ∧ Aside0 (kq ≤ kj7) ∧ Aside0 (Below w.heap.size w wc))
     case first =>
      have H := HC18.out
      clear HC18
      by_cases c19 : t527 = true
      ·subst c19
       have H1 : ((impl_MovesOf.f kj7 t522 t526 t523).bind fun bt535 => ((impl_ReachCount.f kj7 t522 t523).bind fun bt539 => ((impl_FollowMoves.f kj7 t522 t523 bt535.1).bind fun bt541 => (if bt535.2 = true then (if bt539.2 = true then (if (t526.length : Int) > bt539.1 then (laws_FnGreedyLists.j1 kj7 l1 t522 t523 t526 true) else (if bt541.2 = true then ((laws_uLists.f kj7 bt541.1 t526).bind fun t545 => (laws_FnGreedyLists.j1 kj7 l1 t522 t523 t526 (!t545))) else (laws_FnGreedyLists.j1 kj7 l1 t522 t523 t526 true))) else (laws_FnGreedyLists.j1 kj7 l1 t522 t523 t526 true)) else (laws_FnGreedyLists.j1 kj7 l1 t522 t523 t526 true))))) = some r := by rw [if_pos rfl] at H; exact H
       clear H
       have H := H1
       clear H1
       replace H := Z35.mp H
       obtain ⟨⟨t535, t536⟩, A200, H⟩ := H
       replace H : ((impl_ReachCount.f kj7 t522 t523).bind fun bt539 => ((impl_FollowMoves.f kj7 t522 t523 t535).bind fun bt541 => (if t536 = true then (if bt539.2 = true then (if (t526.length : Int) > bt539.1 then (laws_FnGreedyLists.j1 kj7 l1 t522 t523 t526 true) else (if bt541.2 = true then ((laws_uLists.f kj7 bt541.1 t526).bind fun t545 => (laws_FnGreedyLists.j1 kj7 l1 t522 t523 t526 (!t545))) else (laws_FnGreedyLists.j1 kj7 l1 t522 t523 t526 true))) else (laws_FnGreedyLists.j1 kj7 l1 t522 t523 t526 true)) else (laws_FnGreedyLists.j1 kj7 l1 t522 t523 t526 true)))) = some r := H
       have A20 := Ya A200
       clear A200
       replace H := Z35.mp H
       obtain ⟨⟨t539, t540⟩, A210, H⟩ := H
       replace H : ((impl_FollowMoves.f kj7 t522 t523 t535).bind fun bt541 => (if t536 = true then (if t540 = true then (if (t526.length : Int) > t539 then (laws_FnGreedyLists.j1 kj7 l1 t522 t523 t526 true) else (if bt541.2 = true then ((laws_uLists.f kj7 bt541.1 t526).bind fun t545 => (laws_FnGreedyLists.j1 kj7 l1 t522 t523 t526 (!t545))) else (laws_FnGreedyLists.j1 kj7 l1 t522 t523 t526 true))) else (laws_FnGreedyLists.j1 kj7 l1 t522 t523 t526 true)) else (laws_FnGreedyLists.j1 kj7 l1 t522 t523 t526 true))) = some r := H
       have A21 := Ya A210
       clear A210
       replace H := Z35.mp H
       obtain ⟨⟨t541, t542⟩, A220, H⟩ := H
       replace H : (if t536 = true then (if t540 = true then (if (t526.length : Int) > t539 then (laws_FnGreedyLists.j1 kj7 l1 t522 t523 t526 true) else (if t542 = true then ((laws_uLists.f kj7 t541 t526).bind fun t545 => (laws_FnGreedyLists.j1 kj7 l1 t522 t523 t526 (!t545))) else (laws_FnGreedyLists.j1 kj7 l1 t522 t523 t526 true))) else (laws_FnGreedyLists.j1 kj7 l1 t522 t523 t526 true)) else (laws_FnGreedyLists.j1 kj7 l1 t522 t523 t526 true)) = some r := H
       have A22 := Ya A220
       clear A220
       have HC23 := Ya H
       clear H
       obtain ⟨Ao24, co24, eo24⟩ := Kd.N_slice HO_7.out
       subst eo24
       go_upto_region 12 with (first | ((with_reducible refine gate_callee (f := 35) rfl ?_); refine Yz 77 Try.func35 #[.int .i64 t522, .slice Ao24 t526.length co24, .slice Ao10 t523.length co10] ?_; (with_reducible refine (impl_MovesOf.calls kj7 t522 _ _ t526 _ _ t523 t535 t536 _ (Yc (Kd.N_reads' HO_7.out).2.2) ?side2 (Yc (Kd.R_reads' HO_6.out).2.2) ((Kd.R_reads' HO_6.out).2.1) A20.out).mono ?_); (case side2 => exact (Kd.N_reads' HO_7.out).2.1); rintro e w25 ⟨v537, rfl, ho0, hb⟩; refine ⟨_, rfl, ?_⟩; replace HO_6 := Yw HO_6 hb; replace HO_7 := Ya (Kd.N_elder' (Qm0 HO_7.out) (Kd.R_base ho0) hb); have HO538 := Yl ho0; replace HB := Yh hb; (try clear hb ho0)) | ((with_reducible refine gate_callee (f := 19) rfl ?_); refine Yz 83 Try.func19 #[.int .i64 t522, .slice Ao10 t523.length co10] ?_; (with_reducible refine (impl_ReachCount.calls kj7 t522 _ _ t523 t539 t540 _ (Yc (Kd.R_reads' HO_6.out).2.2) ((Kd.R_reads' HO_6.out).2.1) A21.out).mono ?_); rintro e w26 ⟨rfl, hb⟩; refine ⟨_, rfl, ?_⟩; replace HO_6 := Yw HO_6 hb; replace HO_7 := Ya (Kd.N_below (Qm0 HO_7.out) hb); replace HO538 := Yw HO538 hb; replace HB := Yh hb; (try clear hb); obtain ⟨Ao27, co27, rfl⟩ := Z17 HO538.out) | ((with_reducible refine gate_callee (f := 27) rfl ?_); refine Yz 90 Try.func27 #[.int .i64 t522, .slice Ao10 t523.length co10, .slice Ao27 t535.length co27] ?_; (with_reducible refine (impl_FollowMoves.calls kj7 t522 _ _ t523 _ _ t535 t541 t542 _ (Yc (Kd.R_reads' HO_6.out).2.2) ((Kd.R_reads' HO_6.out).2.1) (Yc (Kd.R_reads' HO538.out).2.2) ((Kd.R_reads' HO538.out).2.1) A22.out).mono ?_); rintro e w28 ⟨v543, rfl, ho0, hb⟩; refine ⟨_, rfl, ?_⟩; have HO544 := Ya (Kd.N_lower (Kd.N_mono (ok' := fun k_ => some k_ ≠ (.slice Ao10 t523.length co10 : Value).ownBlock ∧ some k_ ≠ (.slice Ao24 t526.length co24 : Value).ownBlock ∧ some k_ ≠ (.slice Ao27 t535.length co27 : Value).ownBlock) (Kd.S_N (Kd.S_bound ho0)) (fun k_ hk_ => ⟨(Kd.fresh' (Z16 (Yr HO_6.out)) k_ hk_.2.1), (Kd.fresh' (Kd.N_lt (Qm0 HO_7.out)) k_ hk_.2.1), (Kd.fresh' (Z16 (Yr HO538.out)) k_ hk_.2.1)⟩)) (Z7 Q12)); replace HO_6 := Yw HO_6 hb; replace HO_7 := Ya (Kd.N_elder' (Qm0 HO_7.out) (Kd.S_base ho0) hb); replace HO538 := Yw HO538 hb; replace HB := Yh hb; (try clear hb ho0)))
       (try simp only [Act.put, Z0, Z1, Z2])
       go_cut [114] (fun v114 wc => ∃ (kq : Nat) (x114_22 : Bool), v114 = .bool x114_22 ∧ Aside0 (laws_FnGreedyLists.j1 kq l1 t522 t523 t526 x114_22 = some r) ∧ Aside0 (kq ≤ kj7) ∧ Aside0 (Kd.R k45 45 wc w.heap.size (fun _ => True) (.slice Ao10 t523.length co10) t523) ∧ Aside0 (Kd.N (Kd.slice 3 (Kd.int .i64)) 24 wc w.heap.size (fun k_ => some k_ ≠ ((.slice Ao10 t523.length co10) : Value).ownBlock) (.slice Ao24 t526.length co24) t526) ∧ Aside0 (Below w.heap.size w wc))
       case first =>
        have H := HC23.out
        clear HC23
        by_cases c29 : t536 = true
        ·subst c29
         have H1 : (if t540 = true then (if (t526.length : Int) > t539 then (laws_FnGreedyLists.j1 kj7 l1 t522 t523 t526 true) else (if t542 = true then ((laws_uLists.f kj7 t541 t526).bind fun t545 => (laws_FnGreedyLists.j1 kj7 l1 t522 t523 t526 (!t545))) else (laws_FnGreedyLists.j1 kj7 l1 t522 t523 t526 true))) else (laws_FnGreedyLists.j1 kj7 l1 t522 t523 t526 true)) = some r := by rw [if_pos rfl] at H; exact H
         clear H
         have H := H1
         clear H1
         by_cases c30 : t540 = true
         ·subst c30
          have H1 : (if (t526.length : Int) > t539 then (laws_FnGreedyLists.j1 kj7 l1 t522 t523 t526 true) else (if t542 = true then ((laws_uLists.f kj7 t541 t526).bind fun t545 => (laws_FnGreedyLists.j1 kj7 l1 t522 t523 t526 (!t545))) else (laws_FnGreedyLists.j1 kj7 l1 t522 t523 t526 true))) = some r := by rw [if_pos rfl] at H; exact H
          clear H
          have H := H1
          clear H1
          by_cases c31 : (t526.length : Int) > t539
          ·rw [if_pos c31] at H
           have c31b0 : decide (t539 < (t526.length : Int)) = true := Z37 c31
           clear c31
           (first | rw [c31b0] | (simp only [i64_w, i32_w]; rw [c31b0]) | skip)
           have H' := Ya H
           clear H
           go_wp2
           go_meet
           case rel => exact ⟨_, (true), Q5, H', ⟨Q47⟩, ⟨Q30⟩, ⟨Q33⟩, ⟨Q0⟩⟩
          ·rw [if_neg c31] at H
           have c31b0 : decide (t539 < (t526.length : Int)) = false := Z36 c31
           clear c31
           (first | rw [c31b0] | (simp only [i64_w, i32_w]; rw [c31b0]) | skip)
           by_cases c32 : t542 = true
           ·subst c32
            have H1 : ((laws_uLists.f kj7 t541 t526).bind fun t545 => (laws_FnGreedyLists.j1 kj7 l1 t522 t523 t526 (!t545))) = some r := by rw [if_pos rfl] at H; exact H
            clear H
            have H := H1
            clear H1
            replace H := Z35.mp H
            obtain ⟨t545, A330, H⟩ := H
            replace H : (laws_FnGreedyLists.j1 kj7 l1 t522 t523 t526 (!t545)) = some r := H
            have A33 := Ya A330
            clear A330
            have H' := Ya H
            clear H
            obtain ⟨Ao34, co34, eo34⟩ := Kd.N_slice HO544.out
            subst eo34
            go_wp2_with (first | (go_at_call 31; (with_reducible refine (laws_uLists.calls kj7 _ _ t541 _ _ t526 t545 _ (Yc (Kd.N_reads' HO544.out).2.2) ?side2 (Yc (Kd.N_reads' HO_7.out).2.2) ?side4 A33.out).mono ?_); (case side2 => exact (Kd.N_reads' HO544.out).2.1); (case side4 => exact (Kd.N_reads' HO_7.out).2.1); rintro e w' ⟨rfl, ⟨nd, rfl⟩⟩))
            go_meet
            case rel => exact ⟨_, (!t545), Q5, H', ⟨Q47⟩, ⟨Q30⟩, ⟨Q33⟩, ⟨Q0⟩⟩
           ·replace c32 := Bool.eq_false_iff.mpr c32
            subst c32
            have H1 : (laws_FnGreedyLists.j1 kj7 l1 t522 t523 t526 true) = some r := by rw [if_neg (show ¬ (false = true) by decide)] at H; exact H
            clear H
            have H := H1
            clear H1
            have H' := Ya H
            clear H
            go_wp2
            go_meet
            case rel => exact ⟨_, (true), Q5, H', ⟨Q47⟩, ⟨Q30⟩, ⟨Q33⟩, ⟨Q0⟩⟩
         ·replace c30 := Bool.eq_false_iff.mpr c30
          subst c30
          have H1 : (laws_FnGreedyLists.j1 kj7 l1 t522 t523 t526 true) = some r := by rw [if_neg (show ¬ (false = true) by decide)] at H; exact H
          clear H
          have H := H1
          clear H1
          have H' := Ya H
          clear H
          go_wp2
          go_meet
          case rel => exact ⟨_, (true), Q5, H', ⟨Q47⟩, ⟨Q30⟩, ⟨Q33⟩, ⟨Q0⟩⟩
        ·replace c29 := Bool.eq_false_iff.mpr c29
         subst c29
         have H1 : (laws_FnGreedyLists.j1 kj7 l1 t522 t523 t526 true) = some r := by rw [if_neg (show ¬ (false = true) by decide)] at H; exact H
         clear H
         have H := H1
         clear H1
         have H' := Ya H
         clear H
         go_wp2
         go_meet
         case rel => exact ⟨_, (true), Q5, H', ⟨Q47⟩, ⟨Q30⟩, ⟨Q33⟩, ⟨Q0⟩⟩
       case rest => as_aux_lemma =>
        clear HC23
        try clear c1
        try clear c2
        try clear p2
        try clear c3
        try clear c4
        try clear c5
        try clear c13
        try clear c13b0
        try clear c13b1
        try clear c13b2
        try clear c15
        try clear c17
        try clear c19
        try clear c27
        try clear c29
        try clear c30
        try clear c31
        try clear c31b0
        try clear c32
        try clear c33
        try clear c34
        try clear p2
        obtain ⟨kq, x114_22, rfl, HA, HJ22, HO_6, HO_7, HB⟩ := hcut
        cases kq with
        | zero => exact absurd HA.out (by simp [laws_FnGreedyLists.j1])
        | succ kj22 =>
         have H := HA.out
         clear HA
         simp only [laws_FnGreedyLists.j1] at H
         by_cases c35 : x114_22 = true
         ·subst c35
          have H1 : (some false) = some r := by rw [if_pos rfl] at H; exact H
          clear H
          have H := H1
          clear H1
          obtain rfl := Option.some.inj H
          go_wp2
          go_ret
          exact ⟨Q2, Q0⟩
         ·replace c35 := Bool.eq_false_iff.mpr c35
          subst c35
          have H1 : (laws_FnGreedyLists.l0 kj22 l1 t522 t523 t526 ([] : List Int) t526 (t526.length : Int) 0) = some r := by rw [if_neg (show ¬ (false = true) by decide)] at H; exact H
          clear H
          have H := H1
          clear H1
          have H' := Ya H
          clear H
          go_wp2
          go_loopg [17, 117] kj22 (fun kq v17 v117 w' => ∃ (x17_3 : List Int) (x117_3 : Int), v117 = .int .i64 x117_3 ∧ Aside0 (laws_FnGreedyLists.l0 kq l1 t522 t523 t526 x17_3 t526 (t526.length : Int) x117_3 = some r) ∧ Aside0 (kq ≤ kj22) ∧ Aside0 (Kd.R k45 45 w' w.heap.size (fun _ => True) (.slice Ao10 t523.length co10) t523) ∧ Aside0 (Kd.N (Kd.slice 3 (Kd.int .i64)) 24 w' w.heap.size (fun k_ => some k_ ≠ ((.slice Ao10 t523.length co10) : Value).ownBlock ∧ some k_ ≠ (v17 : Value).ownBlock) (.slice Ao24 t526.length co24) t526) ∧ Aside0 (Kd.R (Kd.int .i64) 3 w' w.heap.size (fun _ => True) v17 x17_3) ∧ Aside0 (Kd.N (Kd.slice 3 (Kd.int .i64)) 24 w' w.heap.size (fun k_ => some k_ ≠ ((.slice Ao10 t523.length co10) : Value).ownBlock ∧ some k_ ≠ (v17 : Value).ownBlock) (.slice Ao24 t526.length co24) t526) ∧ Aside0 (Below w.heap.size w w'))
          case atStart => exact ⟨(([] : List Int)), (0), Q5, H', ⟨Nat.le_refl _⟩, ⟨Q30⟩, ⟨Q54⟩, ⟨Q11⟩, ⟨Q54⟩, ⟨Q0⟩⟩
          case round => as_aux_lemma =>
           clear H'
           try clear c1
           try clear c2
           try clear p2
           try clear c3
           try clear c4
           try clear c5
           try clear c13
           try clear c13b0
           try clear c13b1
           try clear c13b2
           try clear c15
           try clear c17
           try clear c19
           try clear c27
           try clear c29
           try clear c30
           try clear c31
           try clear c31b0
           try clear c32
           try clear c33
           try clear c34
           try clear c35
           try clear p2
           obtain ⟨x17_3, x117_3, rfl, HA, HK3, HO_6, HO_7, HO_17, HO_115, HB⟩ := hrel
           cases gk with
           | zero => exact absurd HA.out (by simp [laws_FnGreedyLists.l0])
           | succ k3 =>
            have H := HA.out
            clear HA
            simp only [laws_FnGreedyLists.l0] at H
            by_cases c36 : x117_3 < (t526.length : Int)
            ·rw [if_pos c36] at H
             have c36b0 := Z37 c36
             clear c36
             by_cases c37 : 0 ≤ x117_3
             ·rw [if_pos c37] at H
              have c37b0 := Z37 c37
              clear c37
              by_cases c38 : x117_3 < (t526.length : Int)
              ·rw [if_pos c38] at H
               have c38b0 := Z37 c38
               clear c38
               replace H := Z35.mp H
               obtain ⟨⟨t547, t548⟩, A390, H⟩ := H
               replace H : (if t548 = true then ((laws_uHas.f k3 x17_3 t547).bind fun t549 => (if t549 = true then (some false) else (if x17_3.length < 17592186044416 then (laws_FnGreedyLists.l0 k3 l1 t522 t523 t526 (x17_3 ++ [t547]) t526 (t526.length : Int) (wrap64 (x117_3 + 1))) else (none)))) else (some false)) = some r := H
               have A39 := Ya A390
               clear A390
               by_cases c40 : t548 = true
               ·subst c40
                have H1 : ((laws_uHas.f k3 x17_3 t547).bind fun t549 => (if t549 = true then (some false) else (if x17_3.length < 17592186044416 then (laws_FnGreedyLists.l0 k3 l1 t522 t523 t526 (x17_3 ++ [t547]) t526 (t526.length : Int) (wrap64 (x117_3 + 1))) else (none)))) = some r := by rw [if_pos rfl] at H; exact H
                clear H
                have H := H1
                clear H1
                replace H := Z35.mp H
                obtain ⟨t549, A410, H⟩ := H
                replace H : (if t549 = true then (some false) else (if x17_3.length < 17592186044416 then (laws_FnGreedyLists.l0 k3 l1 t522 t523 t526 (x17_3 ++ [t547]) t526 (t526.length : Int) (wrap64 (x117_3 + 1))) else (none))) = some r := H
                have A41 := Ya A410
                clear A410
                by_cases c42 : t549 = true
                ·subst c42
                 have H1 : (some false) = some r := by rw [if_pos rfl] at H; exact H
                 clear H
                 have H := H1
                 clear H1
                 obtain rfl := Option.some.inj H
                 have p546 : 0 ≤ (x117_3 : Int) := Z29 Q1
                 have q546 : x117_3 < (t526.length : Int) := Z29 Q1
                 obtain ⟨ad546, A546_0, c546_0, e546, hx546_0, hl546_0, hi546_0⟩ := at_L3 (Kd.N_reads' HO_115.out).2.2 x117_3 p546 q546
                 cases e546
                 obtain ⟨ce546, hce546, hMe546, hcc546⟩ := Kd.N_get HO_115.out [] x117_3 p546 Q53
                 obtain ⟨ua546_0, uc546_0, rfl, ul546_0, ge546_0⟩ := Kd.FK_slice_open hMe546
                 have hv546_0 := hcc546 0 _ rfl
                 rw [Nat.add_zero, show ((Kd.slice 3 (Kd.int .i64))).sz = 1 from rfl, Nat.mul_one] at hv546_0
                 replace hv546_0 := Option.some.inj (hv546_0.symm.trans hx546_0)
                 injection hv546_0 with hva_ hvn_ hvc_
                 rw [hva_] at ge546_0
                 rw [hvc_] at ul546_0
                 have HL546_0 := Ya (show Kd.V (Kd.int .i64) 3 _ w.heap.size _ _ (rd_L3 t526 x117_3) from Kd.V_mk ul546_0 ge546_0)
                 clear hva_ hvn_ hvc_ ge546_0 ul546_0
                 clear hcc546 hce546
                 have HR546_0 := Ya hi546_0
                 have HC546_0 := Ya hl546_0
                 clear hi546_0 hl546_0
                 replace p546 := eq_true p546
                 replace q546 := eq_true q546
                 go_wp2_with (first | ((with_reducible refine gate_callee (f := 25) rfl ?_); refine Yz 123 Try.func25 #[.slice A546_0 (rd_L3 t526 x117_3).length c546_0] ?_; (with_reducible refine (impl_PermutationRank.calls k3 _ _ (rd_L3 t526 x117_3) t547 true _ ?side1 HC546_0.out A39.out).mono ?_); (case side1 => exact Yc Q38); rintro e w43 ⟨rfl, hb⟩; refine ⟨_, rfl, ?_⟩; replace HO_6 := Yw HO_6 hb; replace HO_7 := Ya (Kd.N_below (Qm0 HO_7.out) hb); replace HO_17 := Yw HO_17 hb; replace HO_115 := Ya (Kd.N_below (Qm0 HO_115.out) hb); replace HL546_0 := Ya (Kd.V_below (Qm1 HL546_0.out) hb); replace HR546_0 := Ya (Z21 Q31 hb); replace HB := Yh hb; (try clear hb); obtain ⟨Ao44, co44, rfl⟩ := Z17 HO_17.out) | (go_at_call 36; (with_reducible refine (laws_uHas.calls k3 _ _ x17_3 t547 true _ (Yc (Kd.R_reads' HO_17.out).2.2) ((Kd.R_reads' HO_17.out).2.1) A41.out).mono ?_); rintro e w' ⟨rfl, ⟨nd, rfl⟩⟩))
                 go_ret
                 exact ⟨Q2, Q0⟩
                ·replace c42 := Bool.eq_false_iff.mpr c42
                 subst c42
                 have H1 : (if x17_3.length < 17592186044416 then (laws_FnGreedyLists.l0 k3 l1 t522 t523 t526 (x17_3 ++ [t547]) t526 (t526.length : Int) (wrap64 (x117_3 + 1))) else (none)) = some r := by rw [if_neg (show ¬ (false = true) by decide)] at H; exact H
                 clear H
                 have H := H1
                 clear H1
                 by_cases c45 : x17_3.length < 17592186044416
                 ·rw [if_pos c45] at H
                  have LMc45 := Ya c45
                  clear c45
                  obtain ⟨y550, hy550⟩ : ∃ y_ : List Int, y_ = (x17_3 ++ [t547]) := ⟨_, rfl⟩
                  replace H : (laws_FnGreedyLists.l0 k3 l1 t522 t523 t526 y550 t526 (t526.length : Int) (wrap64 (x117_3 + 1))) = some r := by first | (rw [hy550]; with_reducible exact H) | (have H2_ := (Option.bind_some _ _).symm.trans H; rw [hy550]; with_reducible exact H2_) | (have H2_ := (Option.bind_some _ _).symm.trans H; with_reducible exact H2_) | with_reducible exact H | (rw [hy550]; exact H) | exact H
                  have Ny550 := Ya hy550
                  clear hy550
                  have H' := Ya H
                  clear H
                  have p546 : 0 ≤ (x117_3 : Int) := Z29 Q1
                  have q546 : x117_3 < (t526.length : Int) := Z29 Q1
                  obtain ⟨ad546, A546_0, c546_0, e546, hx546_0, hl546_0, hi546_0⟩ := at_L3 (Kd.N_reads' HO_115.out).2.2 x117_3 p546 q546
                  cases e546
                  obtain ⟨ce546, hce546, hMe546, hcc546⟩ := Kd.N_get HO_115.out [] x117_3 p546 Q53
                  obtain ⟨ua546_0, uc546_0, rfl, ul546_0, ge546_0⟩ := Kd.FK_slice_open hMe546
                  have hv546_0 := hcc546 0 _ rfl
                  rw [Nat.add_zero, show ((Kd.slice 3 (Kd.int .i64))).sz = 1 from rfl, Nat.mul_one] at hv546_0
                  replace hv546_0 := Option.some.inj (hv546_0.symm.trans hx546_0)
                  injection hv546_0 with hva_ hvn_ hvc_
                  rw [hva_] at ge546_0
                  rw [hvc_] at ul546_0
                  have HL546_0 := Ya (show Kd.V (Kd.int .i64) 3 _ w.heap.size _ _ (rd_L3 t526 x117_3) from Kd.V_mk ul546_0 ge546_0)
                  clear hva_ hvn_ hvc_ ge546_0 ul546_0
                  clear hcc546 hce546
                  have HR546_0 := Ya hi546_0
                  have HC546_0 := Ya hl546_0
                  clear hi546_0 hl546_0
                  replace p546 := eq_true p546
                  replace q546 := eq_true q546
                  go_wp2_with (first | ((with_reducible refine gate_callee (f := 25) rfl ?_); refine Yz 123 Try.func25 #[.slice A546_0 (rd_L3 t526 x117_3).length c546_0] ?_; (with_reducible refine (impl_PermutationRank.calls k3 _ _ (rd_L3 t526 x117_3) t547 true _ ?side1 HC546_0.out A39.out).mono ?_); (case side1 => exact Yc Q38); rintro e w46 ⟨rfl, hb⟩; refine ⟨_, rfl, ?_⟩; replace HO_6 := Yw HO_6 hb; replace HO_7 := Ya (Kd.N_below (Qm0 HO_7.out) hb); replace HO_17 := Yw HO_17 hb; replace HO_115 := Ya (Kd.N_below (Qm0 HO_115.out) hb); replace HL546_0 := Ya (Kd.V_below (Qm1 HL546_0.out) hb); replace HR546_0 := Ya (Z21 Q31 hb); replace HB := Yh hb; (try clear hb); obtain ⟨Ao47, co47, rfl⟩ := Z17 HO_17.out) | (go_at_call 36; (with_reducible refine (laws_uHas.calls k3 _ _ x17_3 t547 false _ (Yc (Kd.R_reads' HO_17.out).2.2) ((Kd.R_reads' HO_17.out).2.1) A41.out).mono ?_); rintro e w' ⟨rfl, ⟨nd, rfl⟩⟩) | ((with_reducible refine gate_builtin (b := .append) (xs := #[.tmp 133, .tmp 135]) rfl ?_); (try (refine gate_guard (by rfl) ?_; dsimp only)); at_builtin; refine Kd.R_append (Kd.int .i64) (w0 := w) w.heap.size rfl (.tmp 133) (.tmp 135) 24 3 (.int .i64 0) 8 rfl Try.underlying24 info3 rfl (by decide) (by omega) (.slice Ao47 x17_3.length co47) x17_3 t547 [.int .i64 t547] (fun _ => True) (fun _ => False) rfl rfl ?aP (fun _ hk => hk.elim) ?aF ?aO ?aB ?aS ?aL ?_; (case aP => exact rfl); (case aB => exact Q12); (case aF => exact (fun _ _ => trivial)); (case aO => exact (Yr HO_17.out)); (case aS => exact (Z7 Q12)); (case aL => have := LMc45.out; omega); intro v551 w48 ho hb hg hat; rw [← Ny550.out] at ho; replace HO_6 := Ya (Kd.R_over' (Yr HO_6.out) (Kd.R_typed (Yr HO_17.out)) (by decide) hg); replace HO_7 := Ya (Kd.N_afterv (ok := (fun k_ => some k_ ≠ (.slice Ao10 t523.length co10 : Value).ownBlock)) (Qm0 HO_7.out) hg hat); replace HO_115 := Ya (Kd.N_afterv (ok := (fun k_ => some k_ ≠ (.slice Ao10 t523.length co10 : Value).ownBlock)) (Qm0 HO_115.out) hg hat); replace HL546_0 := Ya (Kd.V_afterv (ok := (fun k_ => some k_ ≠ (.slice Ao10 t523.length co10 : Value).ownBlock ∧ some k_ ≠ (.slice (some ad546) t526.length co24 : Value).ownBlock)) (by (with_reducible repeat (first | apply Kd.V_alloc | apply Kd.V_drewN | apply Kd.V_drew)); exact Kd.V_mono HL546_0.out (fun _ hk => ⟨⟨hk.1.1, hk.2⟩, hk.1.2⟩)) hg hat); replace HB := Ya hb; have HO552 := Ya ho; clear HO_17; clear ho hb hg hat))
                  go_roundg k3
                  case measure => have := HJ7.out; have := HJ22.out; have := HK3.out; omega
                  case rel => exact ⟨(y550), (wrap64 (x117_3 + 1)), Q5, H', ⟨by have := HJ7.out; have := HJ22.out; have := HK3.out; omega⟩, ⟨Q30⟩, ⟨by (with_reducible repeat (first | apply Kd.N_alloc | apply Kd.N_drewN | apply Kd.N_drew)); exact HO_7.out⟩, ⟨by (with_reducible repeat (first | apply Z9 | apply Z10 | apply Z11)); exact HO552.out⟩, ⟨by (with_reducible repeat (first | apply Kd.N_alloc | apply Kd.N_drewN | apply Kd.N_drew)); exact HO_115.out⟩, ⟨Q0⟩⟩
                 ·rw [if_neg c45] at H
                  exact absurd H (by simp)
               ·replace c40 := Bool.eq_false_iff.mpr c40
                subst c40
                have H1 : (some false) = some r := by rw [if_neg (show ¬ (false = true) by decide)] at H; exact H
                clear H
                have H := H1
                clear H1
                obtain rfl := Option.some.inj H
                have p546 : 0 ≤ (x117_3 : Int) := Z29 Q1
                have q546 : x117_3 < (t526.length : Int) := Z29 Q1
                obtain ⟨ad546, A546_0, c546_0, e546, hx546_0, hl546_0, hi546_0⟩ := at_L3 (Kd.N_reads' HO_115.out).2.2 x117_3 p546 q546
                cases e546
                obtain ⟨ce546, hce546, hMe546, hcc546⟩ := Kd.N_get HO_115.out [] x117_3 p546 Q53
                obtain ⟨ua546_0, uc546_0, rfl, ul546_0, ge546_0⟩ := Kd.FK_slice_open hMe546
                have hv546_0 := hcc546 0 _ rfl
                rw [Nat.add_zero, show ((Kd.slice 3 (Kd.int .i64))).sz = 1 from rfl, Nat.mul_one] at hv546_0
                replace hv546_0 := Option.some.inj (hv546_0.symm.trans hx546_0)
                injection hv546_0 with hva_ hvn_ hvc_
                rw [hva_] at ge546_0
                rw [hvc_] at ul546_0
                have HL546_0 := Ya (show Kd.V (Kd.int .i64) 3 _ w.heap.size _ _ (rd_L3 t526 x117_3) from Kd.V_mk ul546_0 ge546_0)
                clear hva_ hvn_ hvc_ ge546_0 ul546_0
                clear hcc546 hce546
                have HR546_0 := Ya hi546_0
                have HC546_0 := Ya hl546_0
                clear hi546_0 hl546_0
                replace p546 := eq_true p546
                replace q546 := eq_true q546
                go_wp2_with (first | ((with_reducible refine gate_callee (f := 25) rfl ?_); refine Yz 123 Try.func25 #[.slice A546_0 (rd_L3 t526 x117_3).length c546_0] ?_; (with_reducible refine (impl_PermutationRank.calls k3 _ _ (rd_L3 t526 x117_3) t547 false _ ?side1 HC546_0.out A39.out).mono ?_); (case side1 => exact Yc Q38); rintro e w49 ⟨rfl, hb⟩; refine ⟨_, rfl, ?_⟩; replace HO_6 := Yw HO_6 hb; replace HO_7 := Ya (Kd.N_below (Qm0 HO_7.out) hb); replace HO_17 := Yw HO_17 hb; replace HO_115 := Ya (Kd.N_below (Qm0 HO_115.out) hb); replace HL546_0 := Ya (Kd.V_below (Qm1 HL546_0.out) hb); replace HR546_0 := Ya (Z21 Q31 hb); replace HB := Yh hb; (try clear hb)))
                go_ret
                exact ⟨Q2, Q0⟩
              ·rw [if_neg c38] at H
               exact absurd H (by simp)
             ·rw [if_neg c37] at H
              exact absurd H (by simp)
            ·rw [if_neg c36] at H
             have c36b0 := Z36 c36
             clear c36
             have H' := Ya H
             clear H
             go_wp2
             go_loopg [140] k3 (fun kq v140 w' => ∃ (x140_4 : Int), v140 = .int .i64 x140_4 ∧ Aside0 (laws_FnGreedyLists.l1 kq l1 t522 t523 t526 x17_3 t523 (t523.length : Int) x140_4 = some r) ∧ Aside0 (kq ≤ k3) ∧ Aside0 (Kd.R k45 45 w' w.heap.size (fun _ => True) (.slice Ao10 t523.length co10) t523) ∧ Aside0 (Kd.N (Kd.slice 3 (Kd.int .i64)) 24 w' w.heap.size (fun k_ => some k_ ≠ ((.slice Ao10 t523.length co10) : Value).ownBlock ∧ some k_ ≠ (u17 : Value).ownBlock ∧ some k_ ≠ ((.slice Ao10 t523.length co10) : Value).ownBlock) (.slice Ao24 t526.length co24) t526) ∧ Aside0 (Kd.R (Kd.int .i64) 3 w' w.heap.size (fun _ => True) u17 x17_3) ∧ Aside0 (Kd.R k45 45 w' w.heap.size (fun _ => True) (.slice Ao10 t523.length co10) t523) ∧ Aside0 (Below w.heap.size w w'))
             case atStart => exact ⟨(0), Q5, H', ⟨Nat.le_refl _⟩, ⟨Q30⟩, ⟨by (with_reducible repeat (first | apply Kd.N_alloc | apply Kd.N_drewN | apply Kd.N_drew)); exact Kd.N_mono HO_7.out (fun _ hk => ⟨hk.1, ⟨hk.2, hk.1⟩⟩)⟩, ⟨by (with_reducible repeat (first | apply Z9 | apply Z10 | apply Z11)); exact HO_17.out⟩, ⟨Q30⟩, ⟨Q0⟩⟩
             case round => as_aux_lemma =>
              clear H'
              try clear c1
              try clear c2
              try clear p2
              try clear c3
              try clear c4
              try clear c5
              try clear p5
              try clear q5
              try clear hx5
              try clear p6
              try clear c13
              try clear c13b0
              try clear c13b1
              try clear c13b2
              try clear c15
              try clear c17
              try clear c19
              try clear c25
              try clear c27
              try clear c29
              try clear c30
              try clear c31
              try clear c31b0
              try clear c32
              try clear c33
              try clear c34
              try clear c35
              try clear c36
              try clear c36b0
              try clear c37
              try clear c37b0
              try clear c38
              try clear c38b0
              try clear c40
              try clear c42
              try clear c45
              try clear hx546_0
              try clear p2
              try clear p546
              try clear q546
              obtain ⟨x140_4, rfl, HA, HK4, HO_6, HO_7, HO_17, HO_138, HB⟩ := hrel
              cases gk with
              | zero => exact absurd HA.out (by simp [laws_FnGreedyLists.l1])
              | succ k4 =>
               have H := HA.out
               clear HA
               simp only [laws_FnGreedyLists.l1] at H
               by_cases c50 : x140_4 < (t523.length : Int)
               ·rw [if_pos c50] at H
                have c50b0 := Z37 c50
                clear c50
                by_cases c51 : 0 ≤ x140_4
                ·rw [if_pos c51] at H
                 have c51b0 := Z37 c51
                 clear c51
                 by_cases c52 : x140_4 < (t523.length : Int)
                 ·rw [if_pos c52] at H
                  have c52b0 := Z37 c52
                  clear c52
                  obtain ⟨ji53, hji53⟩ : ∃ j_ : Int, (wrap64 ((t526.length : Int) - 1)) = j_ := ⟨_, rfl⟩
                  replace H : (if 0 ≤ (ji53) then (if (ji53) < (t526.length : Int) then ((impl_ApplyMove.f k4 (rd_L3 t526 (ji53)) ((rd_T45 t523 x140_4).f0) ((rd_T45 t523 x140_4).f1) ((rd_T45 t523 x140_4).f2)).bind fun bt556 => ((impl_PermutationRank.f k4 bt556.1).bind fun bt560 => (if bt556.2 = true then (if bt560.2 = true then ((laws_uHas.f k4 x17_3 bt560.1).bind fun t562 => (if t562 = true then (laws_FnGreedyLists.l1 k4 l1 t522 t523 t526 x17_3 t523 (t523.length : Int) (wrap64 (x140_4 + 1))) else (some false))) else (some false)) else (some false)))) else (none)) else (none)) = some r := by first | (rw [hji53] at H; exact H) | (simp only [hji53] at H ⊢; exact H)
                  have hji53w : (IntKind.i64.wrap ((t526.length : Int) - 1)) = ji53 := (i64_w _).trans hji53
                  by_cases c54 : 0 ≤ (ji53)
                  ·rw [if_pos c54] at H
                   have c54b0 := Z37 c54
                   clear c54
                   by_cases c55 : (ji53) < (t526.length : Int)
                   ·rw [if_pos c55] at H
                    have c55b0 := Z37 c55
                    clear c55
                    replace H := Z35.mp H
                    obtain ⟨⟨t556, t559⟩, A560, H⟩ := H
                    replace H : ((impl_PermutationRank.f k4 t556).bind fun bt560 => (if t559 = true then (if bt560.2 = true then ((laws_uHas.f k4 x17_3 bt560.1).bind fun t562 => (if t562 = true then (laws_FnGreedyLists.l1 k4 l1 t522 t523 t526 x17_3 t523 (t523.length : Int) (wrap64 (x140_4 + 1))) else (some false))) else (some false)) else (some false))) = some r := H
                    have A56 := Ya A560
                    clear A560
                    replace H := Z35.mp H
                    obtain ⟨⟨t560, t561⟩, A570, H⟩ := H
                    replace H : (if t559 = true then (if t561 = true then ((laws_uHas.f k4 x17_3 t560).bind fun t562 => (if t562 = true then (laws_FnGreedyLists.l1 k4 l1 t522 t523 t526 x17_3 t523 (t523.length : Int) (wrap64 (x140_4 + 1))) else (some false))) else (some false)) else (some false)) = some r := H
                    have A57 := Ya A570
                    clear A570
                    by_cases c58 : t559 = true
                    ·subst c58
                     have H1 : (if t561 = true then ((laws_uHas.f k4 x17_3 t560).bind fun t562 => (if t562 = true then (laws_FnGreedyLists.l1 k4 l1 t522 t523 t526 x17_3 t523 (t523.length : Int) (wrap64 (x140_4 + 1))) else (some false))) else (some false)) = some r := by rw [if_pos rfl] at H; exact H
                     clear H
                     have H := H1
                     clear H1
                     by_cases c59 : t561 = true
                     ·subst c59
                      have H1 : ((laws_uHas.f k4 x17_3 t560).bind fun t562 => (if t562 = true then (laws_FnGreedyLists.l1 k4 l1 t522 t523 t526 x17_3 t523 (t523.length : Int) (wrap64 (x140_4 + 1))) else (some false))) = some r := by rw [if_pos rfl] at H; exact H
                      clear H
                      have H := H1
                      clear H1
                      replace H := Z35.mp H
                      obtain ⟨t562, A600, H⟩ := H
                      replace H : (if t562 = true then (laws_FnGreedyLists.l1 k4 l1 t522 t523 t526 x17_3 t523 (t523.length : Int) (wrap64 (x140_4 + 1))) else (some false)) = some r := H
                      have A60 := Ya A600
                      clear A600
                      by_cases c61 : t562 = true
                      ·subst c61
                       have H1 : (laws_FnGreedyLists.l1 k4 l1 t522 t523 t526 x17_3 t523 (t523.length : Int) (wrap64 (x140_4 + 1))) = some r := by rw [if_pos rfl] at H; exact H
                       clear H
                       have H := H1
                       clear H1
                       have H' := Ya H
                       clear H
                       have p553 : 0 ≤ (x140_4 : Int) := Z29 Q1
                       have q553 : x140_4 < (t523.length : Int) := Z29 Q1
                       obtain ⟨ad553, e553, hx553_0, hx553_1, hx553_2⟩ := at_T45 (Kd.R_reads' HO_138.out).2.2 x140_4 p553 q553
                       cases e553
                       replace p553 := eq_true p553
                       replace q553 := eq_true q553
                       try go_wp2_with (first | ((with_reducible refine gate_dst (N := 23) rfl ?_); (try (refine gate_guard (by rfl) ?_; dsimp only)); refine Yx 23 #[.int .i64 0, .int .i64 0, .int .i64 0] 45 ?_; intro gb554 hg w62 hbox hb; replace HO_6 := Ya (Z14 (Kd.R_elderB (Yr HO_6.out) gb554 (Nat.le_of_eq hg.symm)) hb); replace HO_7 := Ya (Kd.N_below (Kd.N_elderB (Qm0 HO_7.out) gb554 (Nat.le_of_eq hg.symm)) hb); replace HO_17 := Yw HO_17 hb; replace HO_138 := Ya (Z14 (Kd.R_elderB (Yr HO_138.out) gb554 (Nat.le_of_eq hg.symm)) hb); have BK554 := Ya hbox; have GE554 := Yg hg; replace HB := Yh hb; clear hb hbox hg; have hcz63_0 : w62.cell? ⟨gb554, 0, none⟩ = some (.int .i64 0) := (Z22 BK554.out 0).trans rfl; have hcz63_1 : w62.cell? ⟨gb554, 1, none⟩ = some (.int .i64 0) := (Z22 BK554.out 1).trans rfl; have hcz63_2 : w62.cell? ⟨gb554, 2, none⟩ = some (.int .i64 0) := (Z22 BK554.out 2).trans rfl; have hfz63_0 := Z23 BK554.out 0; have hfz63_1 := Z23 BK554.out 1; have hfz63_2 := Z23 BK554.out 2))
                       replace HO_6 : Aside0 (Kd.R k45 45 (((w62.setCell ⟨gb554, 0, none⟩ (.int .i64 ((rd_T45 t523 x140_4).f0))).setCell ⟨gb554, 1, none⟩ (.int .i64 ((rd_T45 t523 x140_4).f1))).setCell ⟨gb554, 2, none⟩ (.int .i64 ((rd_T45 t523 x140_4).f2))) w.heap.size (fun k_ => k_ ≠ gb554) (.slice (some ad553) t523.length co10) t523) := ⟨Yj (Z13 (p := ⟨gb554, 2, none⟩) (Z13 (p := ⟨gb554, 1, none⟩) (Z13 (p := ⟨gb554, 0, none⟩) (Z12 HO_6.out (fun k_ hk => (⟨hk, hk.2⟩ : _ ∧ k_ ≠ gb554))) (fun _ hk => hk.2) (.int .i64 ((rd_T45 t523 x140_4).f0))) (fun _ hk => hk.2) (.int .i64 ((rd_T45 t523 x140_4).f1))) (fun _ hk => hk.2) (.int .i64 ((rd_T45 t523 x140_4).f2))) (fun _ hk => hk.1.2)⟩
                       replace HO_7 : Aside0 (Kd.N (Kd.slice 3 (Kd.int .i64)) 24 (((w62.setCell ⟨gb554, 0, none⟩ (.int .i64 ((rd_T45 t523 x140_4).f0))).setCell ⟨gb554, 1, none⟩ (.int .i64 ((rd_T45 t523 x140_4).f1))).setCell ⟨gb554, 2, none⟩ (.int .i64 ((rd_T45 t523 x140_4).f2))) w.heap.size (fun k_ => some k_ ≠ (.slice (some ad553) t523.length co10 : Value).ownBlock ∧ some k_ ≠ (u17 : Value).ownBlock ∧ some k_ ≠ (.slice (some ad553) t523.length co10 : Value).ownBlock ∧ k_ ≠ gb554) (.slice Ao24 t526.length co24) t526) := ⟨Q22⟩
                       replace HO_17 : Aside0 (Kd.R (Kd.int .i64) 3 (((w62.setCell ⟨gb554, 0, none⟩ (.int .i64 ((rd_T45 t523 x140_4).f0))).setCell ⟨gb554, 1, none⟩ (.int .i64 ((rd_T45 t523 x140_4).f1))).setCell ⟨gb554, 2, none⟩ (.int .i64 ((rd_T45 t523 x140_4).f2))) w.heap.size (fun _ => True) u17 x17_3) := ⟨Yj (Z13 (p := ⟨gb554, 2, none⟩) (Z13 (p := ⟨gb554, 1, none⟩) (Z13 (p := ⟨gb554, 0, none⟩) (Z15 HO_17.out BK554.out (by decide)) (fun _ hk => hk.2) (.int .i64 ((rd_T45 t523 x140_4).f0))) (fun _ hk => hk.2) (.int .i64 ((rd_T45 t523 x140_4).f1))) (fun _ hk => hk.2) (.int .i64 ((rd_T45 t523 x140_4).f2))) (fun _ hk => trivial)⟩
                       replace HO_138 : Aside0 (Kd.R k45 45 (((w62.setCell ⟨gb554, 0, none⟩ (.int .i64 ((rd_T45 t523 x140_4).f0))).setCell ⟨gb554, 1, none⟩ (.int .i64 ((rd_T45 t523 x140_4).f1))).setCell ⟨gb554, 2, none⟩ (.int .i64 ((rd_T45 t523 x140_4).f2))) w.heap.size (fun k_ => k_ ≠ gb554) (.slice (some ad553) t523.length co10) t523) := ⟨Yj (Z13 (p := ⟨gb554, 2, none⟩) (Z13 (p := ⟨gb554, 1, none⟩) (Z13 (p := ⟨gb554, 0, none⟩) (Z12 HO_138.out (fun k_ hk => (⟨hk, hk.2⟩ : _ ∧ k_ ≠ gb554))) (fun _ hk => hk.2) (.int .i64 ((rd_T45 t523 x140_4).f0))) (fun _ hk => hk.2) (.int .i64 ((rd_T45 t523 x140_4).f1))) (fun _ hk => hk.2) (.int .i64 ((rd_T45 t523 x140_4).f2))) (fun _ hk => hk.1.2)⟩
                       replace BK554 : Aside0 ((((w62.setCell ⟨gb554, 0, none⟩ (.int .i64 ((rd_T45 t523 x140_4).f0))).setCell ⟨gb554, 1, none⟩ (.int .i64 ((rd_T45 t523 x140_4).f1))).setCell ⟨gb554, 2, none⟩ (.int .i64 ((rd_T45 t523 x140_4).f2))).heap[gb554]? = some (.cells #[.int .i64 ((rd_T45 t523 x140_4).f0), .int .i64 ((rd_T45 t523 x140_4).f1), .int .i64 ((rd_T45 t523 x140_4).f2)] 45 (0, 0))) := ⟨Q15⟩
                       replace HB : Aside0 (Below w.heap.size w (((w62.setCell ⟨gb554, 0, none⟩ (.int .i64 ((rd_T45 t523 x140_4).f0))).setCell ⟨gb554, 1, none⟩ (.int .i64 ((rd_T45 t523 x140_4).f1))).setCell ⟨gb554, 2, none⟩ (.int .i64 ((rd_T45 t523 x140_4).f2)))) := ⟨Q0⟩
                       generalize (((w62.setCell ⟨gb554, 0, none⟩ (.int .i64 ((rd_T45 t523 x140_4).f0))).setCell ⟨gb554, 1, none⟩ (.int .i64 ((rd_T45 t523 x140_4).f1))).setCell ⟨gb554, 2, none⟩ (.int .i64 ((rd_T45 t523 x140_4).f2))) = w64 at HO_6 HO_7 HO_17 HO_138 BK554 HB ⊢
                       replace HO_6 := Ya (Z11 HO_6.out)
                       replace HO_7 := Ya (Kd.N_drew HO_7.out)
                       replace HO_17 := Ya (Z11 HO_17.out)
                       replace HO_138 := Ya (Z11 HO_138.out)
                       replace BK554 := Ya (Z25 BK554.out)
                       replace HB := Ya (Z4 HB.out)
                       have p555 : 0 ≤ ((ji53) : Int) := Z29 Q1
                       have q555 : (ji53) < (t526.length : Int) := Z29 Q1
                       obtain ⟨ad555, A555_0, c555_0, e555, hx555_0, hl555_0, hi555_0⟩ := at_L3 (Kd.N_reads' HO_7.out).2.2 (ji53) p555 q555
                       cases e555
                       obtain ⟨ce555, hce555, hMe555, hcc555⟩ := Kd.N_get HO_7.out [] (ji53) p555 Q48
                       obtain ⟨ua555_0, uc555_0, rfl, ul555_0, ge555_0⟩ := Kd.FK_slice_open hMe555
                       have hv555_0 := hcc555 0 _ rfl
                       rw [Nat.add_zero, show ((Kd.slice 3 (Kd.int .i64))).sz = 1 from rfl, Nat.mul_one] at hv555_0
                       replace hv555_0 := Option.some.inj (hv555_0.symm.trans hx555_0)
                       injection hv555_0 with hva_ hvn_ hvc_
                       rw [hva_] at ge555_0
                       rw [hvc_] at ul555_0
                       have HL555_0 := Ya (show Kd.V (Kd.int .i64) 3 _ w.heap.size _ _ (rd_L3 t526 (ji53)) from Kd.V_mk ul555_0 ge555_0)
                       clear hva_ hvn_ hvc_ ge555_0 ul555_0
                       clear hcc555 hce555
                       have HR555_0 := Ya hi555_0
                       have HC555_0 := Ya hl555_0
                       clear hi555_0 hl555_0
                       replace p555 := eq_true p555
                       replace q555 := eq_true q555
                       refine start_ (n := 13) (S := fun w' => w'.cell? ⟨gb554, 0, none⟩ = some (.int .i64 ((rd_T45 t523 x140_4).f0)) ∧ w'.cell? ⟨gb554, 1, none⟩ = some (.int .i64 ((rd_T45 t523 x140_4).f1)) ∧ w'.cell? ⟨gb554, 2, none⟩ = some (.int .i64 ((rd_T45 t523 x140_4).f2)) ∧ w'.cell? (ad555.add ((ji53)).toNat) = some (.slice A555_0 (rd_L3 t526 (ji53)).length c555_0)) (ds := []) (YA 13 0) (by kernel_rfl) rfl rfl ⟨(Z22 BK554.out 0).trans rfl, (Z22 BK554.out 1).trans rfl, (Z22 BK554.out 2).trans rfl, hx555_0⟩ (fun hHeld => ?_); refine with_tabW laws_FnGreedyLists.tab26 laws_FnGreedyLists.bits26 (fun HT_ HW_ => ?_)
                       generalize w64.drew = w65 at HO_6 HO_7 HO_17 HO_138 BK554 HB HL555_0 HR555_0 hx555_0 hHeld ⊢
                       refine Yp 0 (some 145) (YA 13 1) rfl HT_.out ?_
                       refine Yp 1 (some 146) (YA 13 3) rfl HT_.out ?_
                       refine Yp 2 (some 147) (YA 13 7) rfl HT_.out ?_
                       refine Yp 3 (some 148) (YA 13 15) rfl HT_.out ?_
                       refine Yp 4 (some 149) (YA 13 31) rfl HT_.out ?_
                       refine Yt 5 (some 150) (YA 13 63) rfl HT_.out HW_.out hHeld Q17 ?_
                       refine Yt 6 (some 151) (YA 13 127) rfl HT_.out HW_.out hHeld Q17 ?_
                       refine one_ (i := 7) (N := some 152) (YA 13 255) rfl rfl (one_of HT_.out (by kernel_rfl)) (by decide) (fun K hK => ?_)
                       refine goes_ Try.func24 (by kernel_rfl) rfl #[.slice A555_0 (rd_L3 t526 (ji53)).length c555_0, .agg #[.int .i64 ((rd_T45 t523 x140_4).f0), .int .i64 ((rd_T45 t523 x140_4).f1), .int .i64 ((rd_T45 t523 x140_4).f2)]] (by rfl) rfl rfl Q40 ?_
                       with_reducible refine (impl_ApplyMove.calls k4 _ _ (rd_L3 t526 (ji53)) ((rd_T45 t523 x140_4).f0) ((rd_T45 t523 x140_4).f1) ((rd_T45 t523 x140_4).f2) t556 true _ ?side1 ?side2 A56.out).mono ?_
                       (case side1 => exact Yc Q34)
                       (case side2 => exact HC555_0.out)
                       rintro e w66 ⟨v557, rfl, ho0, hb⟩
                       have HS3_ := (hb.cell (World.block_lt_of_cell? _ _ (hHeld.2.2.2))).trans (hHeld.2.2.2)
                       refine ⟨_, rfl, ?_⟩
                       replace HO_6 := Yw HO_6 hb
                       replace HO_7 := Ya (Kd.N_elder' (Qm0 HO_7.out) (Kd.R_base ho0) hb)
                       replace HO_138 := Yw HO_138 hb
                       replace HL555_0 := Ya (Kd.V_elder' (Qm1 HL555_0.out) (Kd.R_base ho0) hb)
                       have HO558 := Yl (Kd.R_new' ho0 (Z16 (Yr HO_17.out)))
                       replace HO_17 := Ya (Kd.R_elder' (Yr HO_17.out) (Kd.R_base ho0) hb)
                       replace BK554 := Yb BK554 hb
                       replace HR555_0 := Ya (Z21 Q10 hb)
                       replace HB := Yh hb
                       (try clear hb ho0)
                       refine hK.out _ _ ⟨(Z22 BK554.out 0).trans rfl, (Z22 BK554.out 1).trans rfl, (Z22 BK554.out 2).trans rfl, HS3_⟩ (fun hHeld => ?_)
                       clear hK K
                       refine norm_ (a' := ?_) ?_ ?_
                       rotate_left
                       ·show Act.put _ (some 152) _ = _
                        simp only [Act.put, Z0, Z1, Z2, i64_w, i32_w]
                        rfl
                       refine Yp 8 (some 144) (YA 13 511) rfl HT_.out ?_
                       refine Yp 9 (some 153) (YA 13 1023) rfl HT_.out ?_
                       refine Yp 10 (some 154) (YA 13 2047) rfl HT_.out ?_
                       refine Yp 11 (some 24) (YA 13 4095) rfl HT_.out ?_
                       refine Yp 12 (some 25) (YA 13 8191) rfl HT_.out ?_
                       refine done_ (done_of HT_.out (by kernel_rfl)) ?_
                       obtain ⟨Ao67, co67, rfl⟩ := Z17 HO558.out
                       try go_wp2_with (first | ((with_reducible refine gate_callee (f := 25) rfl ?_); refine Yz 157 Try.func25 #[.slice Ao67 t556.length co67] ?_; (with_reducible refine (impl_PermutationRank.calls k4 _ _ t556 t560 true _ (Yc (Kd.R_reads' HO558.out).2.2) ((Kd.R_reads' HO558.out).2.1) A57.out).mono ?_); rintro e w68 ⟨rfl, hb⟩; refine ⟨_, rfl, ?_⟩; replace HO_6 := Yw HO_6 hb; replace HO_7 := Ya (Kd.N_below (Qm0 HO_7.out) hb); replace HO_17 := Yw HO_17 hb; replace HO_138 := Yw HO_138 hb; replace HL555_0 := Ya (Kd.V_below (Qm1 HL555_0.out) hb); replace HO558 := Yw HO558 hb; replace BK554 := Yb BK554 hb; replace HR555_0 := Ya (Z21 Q10 hb); replace HB := Yh hb; (try clear hb); obtain ⟨Ao69, co69, rfl⟩ := Z17 HO_17.out) | (go_at_call 36; (with_reducible refine (laws_uHas.calls k4 _ _ x17_3 t560 true _ (Yc (Kd.R_reads' HO_17.out).2.2) ((Kd.R_reads' HO_17.out).2.1) A60.out).mono ?_); rintro e w' ⟨rfl, ⟨nd, rfl⟩⟩))
                       go_roundg k4
                       case measure => have := HJ7.out; have := HJ22.out; have := HK3.out; have := HK4.out; omega
                       case rel => exact ⟨(wrap64 (x140_4 + 1)), Q5, H', ⟨by have := HJ7.out; have := HJ22.out; have := HK3.out; have := HK4.out; omega⟩, ⟨Yj HO_6.out (fun _ hk => trivial)⟩, ⟨by (with_reducible repeat (first | apply Kd.N_alloc | apply Kd.N_drewN | apply Kd.N_drew)); exact Kd.N_mono HO_7.out (fun _ hk => ⟨hk.1.1, ⟨hk.1.2.1, hk.1.2.2.1⟩⟩)⟩, ⟨Yj HO_17.out (fun _ hk => trivial)⟩, ⟨Yj HO_138.out (fun _ hk => trivial)⟩, ⟨Q0⟩⟩
                      ·replace c61 := Bool.eq_false_iff.mpr c61
                       subst c61
                       have H1 : (some false) = some r := by rw [if_neg (show ¬ (false = true) by decide)] at H; exact H
                       clear H
                       have H := H1
                       clear H1
                       obtain rfl := Option.some.inj H
                       have p553 : 0 ≤ (x140_4 : Int) := Z29 Q1
                       have q553 : x140_4 < (t523.length : Int) := Z29 Q1
                       obtain ⟨ad553, e553, hx553_0, hx553_1, hx553_2⟩ := at_T45 (Kd.R_reads' HO_138.out).2.2 x140_4 p553 q553
                       cases e553
                       replace p553 := eq_true p553
                       replace q553 := eq_true q553
                       try go_wp2_with (first | ((with_reducible refine gate_dst (N := 23) rfl ?_); (try (refine gate_guard (by rfl) ?_; dsimp only)); refine Yx 23 #[.int .i64 0, .int .i64 0, .int .i64 0] 45 ?_; intro gb554 hg w70 hbox hb; replace HO_6 := Ya (Z14 (Kd.R_elderB (Yr HO_6.out) gb554 (Nat.le_of_eq hg.symm)) hb); replace HO_7 := Ya (Kd.N_below (Kd.N_elderB (Qm0 HO_7.out) gb554 (Nat.le_of_eq hg.symm)) hb); replace HO_17 := Yw HO_17 hb; replace HO_138 := Ya (Z14 (Kd.R_elderB (Yr HO_138.out) gb554 (Nat.le_of_eq hg.symm)) hb); have BK554 := Ya hbox; have GE554 := Yg hg; replace HB := Yh hb; clear hb hbox hg; have hcz71_0 : w70.cell? ⟨gb554, 0, none⟩ = some (.int .i64 0) := (Z22 BK554.out 0).trans rfl; have hcz71_1 : w70.cell? ⟨gb554, 1, none⟩ = some (.int .i64 0) := (Z22 BK554.out 1).trans rfl; have hcz71_2 : w70.cell? ⟨gb554, 2, none⟩ = some (.int .i64 0) := (Z22 BK554.out 2).trans rfl; have hfz71_0 := Z23 BK554.out 0; have hfz71_1 := Z23 BK554.out 1; have hfz71_2 := Z23 BK554.out 2))
                       replace HO_6 : Aside0 (Kd.R k45 45 (((w70.setCell ⟨gb554, 0, none⟩ (.int .i64 ((rd_T45 t523 x140_4).f0))).setCell ⟨gb554, 1, none⟩ (.int .i64 ((rd_T45 t523 x140_4).f1))).setCell ⟨gb554, 2, none⟩ (.int .i64 ((rd_T45 t523 x140_4).f2))) w.heap.size (fun k_ => k_ ≠ gb554) (.slice (some ad553) t523.length co10) t523) := ⟨Yj (Z13 (p := ⟨gb554, 2, none⟩) (Z13 (p := ⟨gb554, 1, none⟩) (Z13 (p := ⟨gb554, 0, none⟩) (Z12 HO_6.out (fun k_ hk => (⟨hk, hk.2⟩ : _ ∧ k_ ≠ gb554))) (fun _ hk => hk.2) (.int .i64 ((rd_T45 t523 x140_4).f0))) (fun _ hk => hk.2) (.int .i64 ((rd_T45 t523 x140_4).f1))) (fun _ hk => hk.2) (.int .i64 ((rd_T45 t523 x140_4).f2))) (fun _ hk => hk.1.2)⟩
                       replace HO_7 : Aside0 (Kd.N (Kd.slice 3 (Kd.int .i64)) 24 (((w70.setCell ⟨gb554, 0, none⟩ (.int .i64 ((rd_T45 t523 x140_4).f0))).setCell ⟨gb554, 1, none⟩ (.int .i64 ((rd_T45 t523 x140_4).f1))).setCell ⟨gb554, 2, none⟩ (.int .i64 ((rd_T45 t523 x140_4).f2))) w.heap.size (fun k_ => some k_ ≠ (.slice (some ad553) t523.length co10 : Value).ownBlock ∧ some k_ ≠ (u17 : Value).ownBlock ∧ some k_ ≠ (.slice (some ad553) t523.length co10 : Value).ownBlock ∧ k_ ≠ gb554) (.slice Ao24 t526.length co24) t526) := ⟨Q22⟩
                       replace HO_17 : Aside0 (Kd.R (Kd.int .i64) 3 (((w70.setCell ⟨gb554, 0, none⟩ (.int .i64 ((rd_T45 t523 x140_4).f0))).setCell ⟨gb554, 1, none⟩ (.int .i64 ((rd_T45 t523 x140_4).f1))).setCell ⟨gb554, 2, none⟩ (.int .i64 ((rd_T45 t523 x140_4).f2))) w.heap.size (fun _ => True) u17 x17_3) := ⟨Yj (Z13 (p := ⟨gb554, 2, none⟩) (Z13 (p := ⟨gb554, 1, none⟩) (Z13 (p := ⟨gb554, 0, none⟩) (Z15 HO_17.out BK554.out (by decide)) (fun _ hk => hk.2) (.int .i64 ((rd_T45 t523 x140_4).f0))) (fun _ hk => hk.2) (.int .i64 ((rd_T45 t523 x140_4).f1))) (fun _ hk => hk.2) (.int .i64 ((rd_T45 t523 x140_4).f2))) (fun _ hk => trivial)⟩
                       replace HO_138 : Aside0 (Kd.R k45 45 (((w70.setCell ⟨gb554, 0, none⟩ (.int .i64 ((rd_T45 t523 x140_4).f0))).setCell ⟨gb554, 1, none⟩ (.int .i64 ((rd_T45 t523 x140_4).f1))).setCell ⟨gb554, 2, none⟩ (.int .i64 ((rd_T45 t523 x140_4).f2))) w.heap.size (fun k_ => k_ ≠ gb554) (.slice (some ad553) t523.length co10) t523) := ⟨Yj (Z13 (p := ⟨gb554, 2, none⟩) (Z13 (p := ⟨gb554, 1, none⟩) (Z13 (p := ⟨gb554, 0, none⟩) (Z12 HO_138.out (fun k_ hk => (⟨hk, hk.2⟩ : _ ∧ k_ ≠ gb554))) (fun _ hk => hk.2) (.int .i64 ((rd_T45 t523 x140_4).f0))) (fun _ hk => hk.2) (.int .i64 ((rd_T45 t523 x140_4).f1))) (fun _ hk => hk.2) (.int .i64 ((rd_T45 t523 x140_4).f2))) (fun _ hk => hk.1.2)⟩
                       replace BK554 : Aside0 ((((w70.setCell ⟨gb554, 0, none⟩ (.int .i64 ((rd_T45 t523 x140_4).f0))).setCell ⟨gb554, 1, none⟩ (.int .i64 ((rd_T45 t523 x140_4).f1))).setCell ⟨gb554, 2, none⟩ (.int .i64 ((rd_T45 t523 x140_4).f2))).heap[gb554]? = some (.cells #[.int .i64 ((rd_T45 t523 x140_4).f0), .int .i64 ((rd_T45 t523 x140_4).f1), .int .i64 ((rd_T45 t523 x140_4).f2)] 45 (0, 0))) := ⟨Q15⟩
                       replace HB : Aside0 (Below w.heap.size w (((w70.setCell ⟨gb554, 0, none⟩ (.int .i64 ((rd_T45 t523 x140_4).f0))).setCell ⟨gb554, 1, none⟩ (.int .i64 ((rd_T45 t523 x140_4).f1))).setCell ⟨gb554, 2, none⟩ (.int .i64 ((rd_T45 t523 x140_4).f2)))) := ⟨Q0⟩
                       generalize (((w70.setCell ⟨gb554, 0, none⟩ (.int .i64 ((rd_T45 t523 x140_4).f0))).setCell ⟨gb554, 1, none⟩ (.int .i64 ((rd_T45 t523 x140_4).f1))).setCell ⟨gb554, 2, none⟩ (.int .i64 ((rd_T45 t523 x140_4).f2))) = w72 at HO_6 HO_7 HO_17 HO_138 BK554 HB ⊢
                       replace HO_6 := Ya (Z11 HO_6.out)
                       replace HO_7 := Ya (Kd.N_drew HO_7.out)
                       replace HO_17 := Ya (Z11 HO_17.out)
                       replace HO_138 := Ya (Z11 HO_138.out)
                       replace BK554 := Ya (Z25 BK554.out)
                       replace HB := Ya (Z4 HB.out)
                       have p555 : 0 ≤ ((ji53) : Int) := Z29 Q1
                       have q555 : (ji53) < (t526.length : Int) := Z29 Q1
                       obtain ⟨ad555, A555_0, c555_0, e555, hx555_0, hl555_0, hi555_0⟩ := at_L3 (Kd.N_reads' HO_7.out).2.2 (ji53) p555 q555
                       cases e555
                       obtain ⟨ce555, hce555, hMe555, hcc555⟩ := Kd.N_get HO_7.out [] (ji53) p555 Q48
                       obtain ⟨ua555_0, uc555_0, rfl, ul555_0, ge555_0⟩ := Kd.FK_slice_open hMe555
                       have hv555_0 := hcc555 0 _ rfl
                       rw [Nat.add_zero, show ((Kd.slice 3 (Kd.int .i64))).sz = 1 from rfl, Nat.mul_one] at hv555_0
                       replace hv555_0 := Option.some.inj (hv555_0.symm.trans hx555_0)
                       injection hv555_0 with hva_ hvn_ hvc_
                       rw [hva_] at ge555_0
                       rw [hvc_] at ul555_0
                       have HL555_0 := Ya (show Kd.V (Kd.int .i64) 3 _ w.heap.size _ _ (rd_L3 t526 (ji53)) from Kd.V_mk ul555_0 ge555_0)
                       clear hva_ hvn_ hvc_ ge555_0 ul555_0
                       clear hcc555 hce555
                       have HR555_0 := Ya hi555_0
                       have HC555_0 := Ya hl555_0
                       clear hi555_0 hl555_0
                       replace p555 := eq_true p555
                       replace q555 := eq_true q555
                       refine start_ (n := 13) (S := fun w' => w'.cell? ⟨gb554, 0, none⟩ = some (.int .i64 ((rd_T45 t523 x140_4).f0)) ∧ w'.cell? ⟨gb554, 1, none⟩ = some (.int .i64 ((rd_T45 t523 x140_4).f1)) ∧ w'.cell? ⟨gb554, 2, none⟩ = some (.int .i64 ((rd_T45 t523 x140_4).f2)) ∧ w'.cell? (ad555.add ((ji53)).toNat) = some (.slice A555_0 (rd_L3 t526 (ji53)).length c555_0)) (ds := []) (YA 13 0) (by kernel_rfl) rfl rfl ⟨(Z22 BK554.out 0).trans rfl, (Z22 BK554.out 1).trans rfl, (Z22 BK554.out 2).trans rfl, hx555_0⟩ (fun hHeld => ?_); refine with_tabW laws_FnGreedyLists.tab26 laws_FnGreedyLists.bits26 (fun HT_ HW_ => ?_)
                       generalize w72.drew = w73 at HO_6 HO_7 HO_17 HO_138 BK554 HB HL555_0 HR555_0 hx555_0 hHeld ⊢
                       refine Yp 0 (some 145) (YA 13 1) rfl HT_.out ?_
                       refine Yp 1 (some 146) (YA 13 3) rfl HT_.out ?_
                       refine Yp 2 (some 147) (YA 13 7) rfl HT_.out ?_
                       refine Yp 3 (some 148) (YA 13 15) rfl HT_.out ?_
                       refine Yp 4 (some 149) (YA 13 31) rfl HT_.out ?_
                       refine Yt 5 (some 150) (YA 13 63) rfl HT_.out HW_.out hHeld Q17 ?_
                       refine Yt 6 (some 151) (YA 13 127) rfl HT_.out HW_.out hHeld Q17 ?_
                       refine one_ (i := 7) (N := some 152) (YA 13 255) rfl rfl (one_of HT_.out (by kernel_rfl)) (by decide) (fun K hK => ?_)
                       refine goes_ Try.func24 (by kernel_rfl) rfl #[.slice A555_0 (rd_L3 t526 (ji53)).length c555_0, .agg #[.int .i64 ((rd_T45 t523 x140_4).f0), .int .i64 ((rd_T45 t523 x140_4).f1), .int .i64 ((rd_T45 t523 x140_4).f2)]] (by rfl) rfl rfl Q40 ?_
                       with_reducible refine (impl_ApplyMove.calls k4 _ _ (rd_L3 t526 (ji53)) ((rd_T45 t523 x140_4).f0) ((rd_T45 t523 x140_4).f1) ((rd_T45 t523 x140_4).f2) t556 true _ ?side1 ?side2 A56.out).mono ?_
                       (case side1 => exact Yc Q34)
                       (case side2 => exact HC555_0.out)
                       rintro e w74 ⟨v557, rfl, ho0, hb⟩
                       have HS3_ := (hb.cell (World.block_lt_of_cell? _ _ (hHeld.2.2.2))).trans (hHeld.2.2.2)
                       refine ⟨_, rfl, ?_⟩
                       replace HO_6 := Yw HO_6 hb
                       replace HO_7 := Ya (Kd.N_elder' (Qm0 HO_7.out) (Kd.R_base ho0) hb)
                       replace HO_138 := Yw HO_138 hb
                       replace HL555_0 := Ya (Kd.V_elder' (Qm1 HL555_0.out) (Kd.R_base ho0) hb)
                       have HO558 := Yl (Kd.R_new' ho0 (Z16 (Yr HO_17.out)))
                       replace HO_17 := Ya (Kd.R_elder' (Yr HO_17.out) (Kd.R_base ho0) hb)
                       replace BK554 := Yb BK554 hb
                       replace HR555_0 := Ya (Z21 Q10 hb)
                       replace HB := Yh hb
                       (try clear hb ho0)
                       refine hK.out _ _ ⟨(Z22 BK554.out 0).trans rfl, (Z22 BK554.out 1).trans rfl, (Z22 BK554.out 2).trans rfl, HS3_⟩ (fun hHeld => ?_)
                       clear hK K
                       refine norm_ (a' := ?_) ?_ ?_
                       rotate_left
                       ·show Act.put _ (some 152) _ = _
                        simp only [Act.put, Z0, Z1, Z2, i64_w, i32_w]
                        rfl
                       refine Yp 8 (some 144) (YA 13 511) rfl HT_.out ?_
                       refine Yp 9 (some 153) (YA 13 1023) rfl HT_.out ?_
                       refine Yp 10 (some 154) (YA 13 2047) rfl HT_.out ?_
                       refine Yp 11 (some 24) (YA 13 4095) rfl HT_.out ?_
                       refine Yp 12 (some 25) (YA 13 8191) rfl HT_.out ?_
                       refine done_ (done_of HT_.out (by kernel_rfl)) ?_
                       obtain ⟨Ao75, co75, rfl⟩ := Z17 HO558.out
                       try go_wp2_with (first | ((with_reducible refine gate_callee (f := 25) rfl ?_); refine Yz 157 Try.func25 #[.slice Ao75 t556.length co75] ?_; (with_reducible refine (impl_PermutationRank.calls k4 _ _ t556 t560 true _ (Yc (Kd.R_reads' HO558.out).2.2) ((Kd.R_reads' HO558.out).2.1) A57.out).mono ?_); rintro e w76 ⟨rfl, hb⟩; refine ⟨_, rfl, ?_⟩; replace HO_6 := Yw HO_6 hb; replace HO_7 := Ya (Kd.N_below (Qm0 HO_7.out) hb); replace HO_17 := Yw HO_17 hb; replace HO_138 := Yw HO_138 hb; replace HL555_0 := Ya (Kd.V_below (Qm1 HL555_0.out) hb); replace HO558 := Yw HO558 hb; replace BK554 := Yb BK554 hb; replace HR555_0 := Ya (Z21 Q10 hb); replace HB := Yh hb; (try clear hb); obtain ⟨Ao77, co77, rfl⟩ := Z17 HO_17.out) | (go_at_call 36; (with_reducible refine (laws_uHas.calls k4 _ _ x17_3 t560 false _ (Yc (Kd.R_reads' HO_17.out).2.2) ((Kd.R_reads' HO_17.out).2.1) A60.out).mono ?_); rintro e w' ⟨rfl, ⟨nd, rfl⟩⟩))
                       go_ret
                       exact ⟨Q39, Q0⟩
                     ·replace c59 := Bool.eq_false_iff.mpr c59
                      subst c59
                      have H1 : (some false) = some r := by rw [if_neg (show ¬ (false = true) by decide)] at H; exact H
                      clear H
                      have H := H1
                      clear H1
                      obtain rfl := Option.some.inj H
                      have p553 : 0 ≤ (x140_4 : Int) := Z29 Q1
                      have q553 : x140_4 < (t523.length : Int) := Z29 Q1
                      obtain ⟨ad553, e553, hx553_0, hx553_1, hx553_2⟩ := at_T45 (Kd.R_reads' HO_138.out).2.2 x140_4 p553 q553
                      cases e553
                      replace p553 := eq_true p553
                      replace q553 := eq_true q553
                      try go_wp2_with (first | ((with_reducible refine gate_dst (N := 23) rfl ?_); (try (refine gate_guard (by rfl) ?_; dsimp only)); refine Yx 23 #[.int .i64 0, .int .i64 0, .int .i64 0] 45 ?_; intro gb554 hg w78 hbox hb; replace HO_6 := Ya (Z14 (Kd.R_elderB (Yr HO_6.out) gb554 (Nat.le_of_eq hg.symm)) hb); replace HO_7 := Ya (Kd.N_below (Kd.N_elderB (Qm0 HO_7.out) gb554 (Nat.le_of_eq hg.symm)) hb); replace HO_17 := Yw HO_17 hb; replace HO_138 := Ya (Z14 (Kd.R_elderB (Yr HO_138.out) gb554 (Nat.le_of_eq hg.symm)) hb); have BK554 := Ya hbox; have GE554 := Yg hg; replace HB := Yh hb; clear hb hbox hg; have hcz79_0 : w78.cell? ⟨gb554, 0, none⟩ = some (.int .i64 0) := (Z22 BK554.out 0).trans rfl; have hcz79_1 : w78.cell? ⟨gb554, 1, none⟩ = some (.int .i64 0) := (Z22 BK554.out 1).trans rfl; have hcz79_2 : w78.cell? ⟨gb554, 2, none⟩ = some (.int .i64 0) := (Z22 BK554.out 2).trans rfl; have hfz79_0 := Z23 BK554.out 0; have hfz79_1 := Z23 BK554.out 1; have hfz79_2 := Z23 BK554.out 2))
                      replace HO_6 : Aside0 (Kd.R k45 45 (((w78.setCell ⟨gb554, 0, none⟩ (.int .i64 ((rd_T45 t523 x140_4).f0))).setCell ⟨gb554, 1, none⟩ (.int .i64 ((rd_T45 t523 x140_4).f1))).setCell ⟨gb554, 2, none⟩ (.int .i64 ((rd_T45 t523 x140_4).f2))) w.heap.size (fun k_ => k_ ≠ gb554) (.slice (some ad553) t523.length co10) t523) := ⟨Yj (Z13 (p := ⟨gb554, 2, none⟩) (Z13 (p := ⟨gb554, 1, none⟩) (Z13 (p := ⟨gb554, 0, none⟩) (Z12 HO_6.out (fun k_ hk => (⟨hk, hk.2⟩ : _ ∧ k_ ≠ gb554))) (fun _ hk => hk.2) (.int .i64 ((rd_T45 t523 x140_4).f0))) (fun _ hk => hk.2) (.int .i64 ((rd_T45 t523 x140_4).f1))) (fun _ hk => hk.2) (.int .i64 ((rd_T45 t523 x140_4).f2))) (fun _ hk => hk.1.2)⟩
                      replace HO_7 : Aside0 (Kd.N (Kd.slice 3 (Kd.int .i64)) 24 (((w78.setCell ⟨gb554, 0, none⟩ (.int .i64 ((rd_T45 t523 x140_4).f0))).setCell ⟨gb554, 1, none⟩ (.int .i64 ((rd_T45 t523 x140_4).f1))).setCell ⟨gb554, 2, none⟩ (.int .i64 ((rd_T45 t523 x140_4).f2))) w.heap.size (fun k_ => some k_ ≠ (.slice (some ad553) t523.length co10 : Value).ownBlock ∧ some k_ ≠ (u17 : Value).ownBlock ∧ some k_ ≠ (.slice (some ad553) t523.length co10 : Value).ownBlock ∧ k_ ≠ gb554) (.slice Ao24 t526.length co24) t526) := ⟨Q22⟩
                      replace HO_17 : Aside0 (Kd.R (Kd.int .i64) 3 (((w78.setCell ⟨gb554, 0, none⟩ (.int .i64 ((rd_T45 t523 x140_4).f0))).setCell ⟨gb554, 1, none⟩ (.int .i64 ((rd_T45 t523 x140_4).f1))).setCell ⟨gb554, 2, none⟩ (.int .i64 ((rd_T45 t523 x140_4).f2))) w.heap.size (fun _ => True) u17 x17_3) := ⟨Yj (Z13 (p := ⟨gb554, 2, none⟩) (Z13 (p := ⟨gb554, 1, none⟩) (Z13 (p := ⟨gb554, 0, none⟩) (Z15 HO_17.out BK554.out (by decide)) (fun _ hk => hk.2) (.int .i64 ((rd_T45 t523 x140_4).f0))) (fun _ hk => hk.2) (.int .i64 ((rd_T45 t523 x140_4).f1))) (fun _ hk => hk.2) (.int .i64 ((rd_T45 t523 x140_4).f2))) (fun _ hk => trivial)⟩
                      replace HO_138 : Aside0 (Kd.R k45 45 (((w78.setCell ⟨gb554, 0, none⟩ (.int .i64 ((rd_T45 t523 x140_4).f0))).setCell ⟨gb554, 1, none⟩ (.int .i64 ((rd_T45 t523 x140_4).f1))).setCell ⟨gb554, 2, none⟩ (.int .i64 ((rd_T45 t523 x140_4).f2))) w.heap.size (fun k_ => k_ ≠ gb554) (.slice (some ad553) t523.length co10) t523) := ⟨Yj (Z13 (p := ⟨gb554, 2, none⟩) (Z13 (p := ⟨gb554, 1, none⟩) (Z13 (p := ⟨gb554, 0, none⟩) (Z12 HO_138.out (fun k_ hk => (⟨hk, hk.2⟩ : _ ∧ k_ ≠ gb554))) (fun _ hk => hk.2) (.int .i64 ((rd_T45 t523 x140_4).f0))) (fun _ hk => hk.2) (.int .i64 ((rd_T45 t523 x140_4).f1))) (fun _ hk => hk.2) (.int .i64 ((rd_T45 t523 x140_4).f2))) (fun _ hk => hk.1.2)⟩
                      replace BK554 : Aside0 ((((w78.setCell ⟨gb554, 0, none⟩ (.int .i64 ((rd_T45 t523 x140_4).f0))).setCell ⟨gb554, 1, none⟩ (.int .i64 ((rd_T45 t523 x140_4).f1))).setCell ⟨gb554, 2, none⟩ (.int .i64 ((rd_T45 t523 x140_4).f2))).heap[gb554]? = some (.cells #[.int .i64 ((rd_T45 t523 x140_4).f0), .int .i64 ((rd_T45 t523 x140_4).f1), .int .i64 ((rd_T45 t523 x140_4).f2)] 45 (0, 0))) := ⟨Q15⟩
                      replace HB : Aside0 (Below w.heap.size w (((w78.setCell ⟨gb554, 0, none⟩ (.int .i64 ((rd_T45 t523 x140_4).f0))).setCell ⟨gb554, 1, none⟩ (.int .i64 ((rd_T45 t523 x140_4).f1))).setCell ⟨gb554, 2, none⟩ (.int .i64 ((rd_T45 t523 x140_4).f2)))) := ⟨Q0⟩
                      generalize (((w78.setCell ⟨gb554, 0, none⟩ (.int .i64 ((rd_T45 t523 x140_4).f0))).setCell ⟨gb554, 1, none⟩ (.int .i64 ((rd_T45 t523 x140_4).f1))).setCell ⟨gb554, 2, none⟩ (.int .i64 ((rd_T45 t523 x140_4).f2))) = w80 at HO_6 HO_7 HO_17 HO_138 BK554 HB ⊢
                      replace HO_6 := Ya (Z11 HO_6.out)
                      replace HO_7 := Ya (Kd.N_drew HO_7.out)
                      replace HO_17 := Ya (Z11 HO_17.out)
                      replace HO_138 := Ya (Z11 HO_138.out)
                      replace BK554 := Ya (Z25 BK554.out)
                      replace HB := Ya (Z4 HB.out)
                      have p555 : 0 ≤ ((ji53) : Int) := Z29 Q1
                      have q555 : (ji53) < (t526.length : Int) := Z29 Q1
                      obtain ⟨ad555, A555_0, c555_0, e555, hx555_0, hl555_0, hi555_0⟩ := at_L3 (Kd.N_reads' HO_7.out).2.2 (ji53) p555 q555
                      cases e555
                      obtain ⟨ce555, hce555, hMe555, hcc555⟩ := Kd.N_get HO_7.out [] (ji53) p555 Q48
                      obtain ⟨ua555_0, uc555_0, rfl, ul555_0, ge555_0⟩ := Kd.FK_slice_open hMe555
                      have hv555_0 := hcc555 0 _ rfl
                      rw [Nat.add_zero, show ((Kd.slice 3 (Kd.int .i64))).sz = 1 from rfl, Nat.mul_one] at hv555_0
                      replace hv555_0 := Option.some.inj (hv555_0.symm.trans hx555_0)
                      injection hv555_0 with hva_ hvn_ hvc_
                      rw [hva_] at ge555_0
                      rw [hvc_] at ul555_0
                      have HL555_0 := Ya (show Kd.V (Kd.int .i64) 3 _ w.heap.size _ _ (rd_L3 t526 (ji53)) from Kd.V_mk ul555_0 ge555_0)
                      clear hva_ hvn_ hvc_ ge555_0 ul555_0
                      clear hcc555 hce555
                      have HR555_0 := Ya hi555_0
                      have HC555_0 := Ya hl555_0
                      clear hi555_0 hl555_0
                      replace p555 := eq_true p555
                      replace q555 := eq_true q555
                      refine start_ (n := 13) (S := fun w' => w'.cell? ⟨gb554, 0, none⟩ = some (.int .i64 ((rd_T45 t523 x140_4).f0)) ∧ w'.cell? ⟨gb554, 1, none⟩ = some (.int .i64 ((rd_T45 t523 x140_4).f1)) ∧ w'.cell? ⟨gb554, 2, none⟩ = some (.int .i64 ((rd_T45 t523 x140_4).f2)) ∧ w'.cell? (ad555.add ((ji53)).toNat) = some (.slice A555_0 (rd_L3 t526 (ji53)).length c555_0)) (ds := []) (YA 13 0) (by kernel_rfl) rfl rfl ⟨(Z22 BK554.out 0).trans rfl, (Z22 BK554.out 1).trans rfl, (Z22 BK554.out 2).trans rfl, hx555_0⟩ (fun hHeld => ?_); refine with_tabW laws_FnGreedyLists.tab26 laws_FnGreedyLists.bits26 (fun HT_ HW_ => ?_)
                      generalize w80.drew = w81 at HO_6 HO_7 HO_17 HO_138 BK554 HB HL555_0 HR555_0 hx555_0 hHeld ⊢
                      refine Yp 0 (some 145) (YA 13 1) rfl HT_.out ?_
                      refine Yp 1 (some 146) (YA 13 3) rfl HT_.out ?_
                      refine Yp 2 (some 147) (YA 13 7) rfl HT_.out ?_
                      refine Yp 3 (some 148) (YA 13 15) rfl HT_.out ?_
                      refine Yp 4 (some 149) (YA 13 31) rfl HT_.out ?_
                      refine Yt 5 (some 150) (YA 13 63) rfl HT_.out HW_.out hHeld Q17 ?_
                      refine Yt 6 (some 151) (YA 13 127) rfl HT_.out HW_.out hHeld Q17 ?_
                      refine one_ (i := 7) (N := some 152) (YA 13 255) rfl rfl (one_of HT_.out (by kernel_rfl)) (by decide) (fun K hK => ?_)
                      refine goes_ Try.func24 (by kernel_rfl) rfl #[.slice A555_0 (rd_L3 t526 (ji53)).length c555_0, .agg #[.int .i64 ((rd_T45 t523 x140_4).f0), .int .i64 ((rd_T45 t523 x140_4).f1), .int .i64 ((rd_T45 t523 x140_4).f2)]] (by rfl) rfl rfl Q40 ?_
                      with_reducible refine (impl_ApplyMove.calls k4 _ _ (rd_L3 t526 (ji53)) ((rd_T45 t523 x140_4).f0) ((rd_T45 t523 x140_4).f1) ((rd_T45 t523 x140_4).f2) t556 true _ ?side1 ?side2 A56.out).mono ?_
                      (case side1 => exact Yc Q34)
                      (case side2 => exact HC555_0.out)
                      rintro e w82 ⟨v557, rfl, ho0, hb⟩
                      have HS3_ := (hb.cell (World.block_lt_of_cell? _ _ (hHeld.2.2.2))).trans (hHeld.2.2.2)
                      refine ⟨_, rfl, ?_⟩
                      replace HO_6 := Yw HO_6 hb
                      replace HO_7 := Ya (Kd.N_elder' (Qm0 HO_7.out) (Kd.R_base ho0) hb)
                      replace HO_138 := Yw HO_138 hb
                      replace HL555_0 := Ya (Kd.V_elder' (Qm1 HL555_0.out) (Kd.R_base ho0) hb)
                      have HO558 := Yl (Kd.R_new' ho0 (Z16 (Yr HO_17.out)))
                      replace HO_17 := Ya (Kd.R_elder' (Yr HO_17.out) (Kd.R_base ho0) hb)
                      replace BK554 := Yb BK554 hb
                      replace HR555_0 := Ya (Z21 Q10 hb)
                      replace HB := Yh hb
                      (try clear hb ho0)
                      refine hK.out _ _ ⟨(Z22 BK554.out 0).trans rfl, (Z22 BK554.out 1).trans rfl, (Z22 BK554.out 2).trans rfl, HS3_⟩ (fun hHeld => ?_)
                      clear hK K
                      refine norm_ (a' := ?_) ?_ ?_
                      rotate_left
                      ·show Act.put _ (some 152) _ = _
                       simp only [Act.put, Z0, Z1, Z2, i64_w, i32_w]
                       rfl
                      refine Yp 8 (some 144) (YA 13 511) rfl HT_.out ?_
                      refine Yp 9 (some 153) (YA 13 1023) rfl HT_.out ?_
                      refine Yp 10 (some 154) (YA 13 2047) rfl HT_.out ?_
                      refine Yp 11 (some 24) (YA 13 4095) rfl HT_.out ?_
                      refine Yp 12 (some 25) (YA 13 8191) rfl HT_.out ?_
                      refine done_ (done_of HT_.out (by kernel_rfl)) ?_
                      obtain ⟨Ao83, co83, rfl⟩ := Z17 HO558.out
                      try go_wp2_with (first | ((with_reducible refine gate_callee (f := 25) rfl ?_); refine Yz 157 Try.func25 #[.slice Ao83 t556.length co83] ?_; (with_reducible refine (impl_PermutationRank.calls k4 _ _ t556 t560 false _ (Yc (Kd.R_reads' HO558.out).2.2) ((Kd.R_reads' HO558.out).2.1) A57.out).mono ?_); rintro e w84 ⟨rfl, hb⟩; refine ⟨_, rfl, ?_⟩; replace HO_6 := Yw HO_6 hb; replace HO_7 := Ya (Kd.N_below (Qm0 HO_7.out) hb); replace HO_17 := Yw HO_17 hb; replace HO_138 := Yw HO_138 hb; replace HL555_0 := Ya (Kd.V_below (Qm1 HL555_0.out) hb); replace HO558 := Yw HO558 hb; replace BK554 := Yb BK554 hb; replace HR555_0 := Ya (Z21 Q10 hb); replace HB := Yh hb; (try clear hb)))
                      go_ret
                      exact ⟨Q39, Q0⟩
                    ·replace c58 := Bool.eq_false_iff.mpr c58
                     subst c58
                     have H1 : (some false) = some r := by rw [if_neg (show ¬ (false = true) by decide)] at H; exact H
                     clear H
                     have H := H1
                     clear H1
                     obtain rfl := Option.some.inj H
                     have p553 : 0 ≤ (x140_4 : Int) := Z29 Q1
                     have q553 : x140_4 < (t523.length : Int) := Z29 Q1
                     obtain ⟨ad553, e553, hx553_0, hx553_1, hx553_2⟩ := at_T45 (Kd.R_reads' HO_138.out).2.2 x140_4 p553 q553
                     cases e553
                     replace p553 := eq_true p553
                     replace q553 := eq_true q553
                     try go_wp2_with (first | ((with_reducible refine gate_dst (N := 23) rfl ?_); (try (refine gate_guard (by rfl) ?_; dsimp only)); refine Yx 23 #[.int .i64 0, .int .i64 0, .int .i64 0] 45 ?_; intro gb554 hg w85 hbox hb; replace HO_6 := Ya (Z14 (Kd.R_elderB (Yr HO_6.out) gb554 (Nat.le_of_eq hg.symm)) hb); replace HO_7 := Ya (Kd.N_below (Kd.N_elderB (Qm0 HO_7.out) gb554 (Nat.le_of_eq hg.symm)) hb); replace HO_17 := Yw HO_17 hb; replace HO_138 := Ya (Z14 (Kd.R_elderB (Yr HO_138.out) gb554 (Nat.le_of_eq hg.symm)) hb); have BK554 := Ya hbox; have GE554 := Yg hg; replace HB := Yh hb; clear hb hbox hg; have hcz86_0 : w85.cell? ⟨gb554, 0, none⟩ = some (.int .i64 0) := (Z22 BK554.out 0).trans rfl; have hcz86_1 : w85.cell? ⟨gb554, 1, none⟩ = some (.int .i64 0) := (Z22 BK554.out 1).trans rfl; have hcz86_2 : w85.cell? ⟨gb554, 2, none⟩ = some (.int .i64 0) := (Z22 BK554.out 2).trans rfl; have hfz86_0 := Z23 BK554.out 0; have hfz86_1 := Z23 BK554.out 1; have hfz86_2 := Z23 BK554.out 2))
                     replace HO_6 : Aside0 (Kd.R k45 45 (((w85.setCell ⟨gb554, 0, none⟩ (.int .i64 ((rd_T45 t523 x140_4).f0))).setCell ⟨gb554, 1, none⟩ (.int .i64 ((rd_T45 t523 x140_4).f1))).setCell ⟨gb554, 2, none⟩ (.int .i64 ((rd_T45 t523 x140_4).f2))) w.heap.size (fun k_ => k_ ≠ gb554) (.slice (some ad553) t523.length co10) t523) := ⟨Yj (Z13 (p := ⟨gb554, 2, none⟩) (Z13 (p := ⟨gb554, 1, none⟩) (Z13 (p := ⟨gb554, 0, none⟩) (Z12 HO_6.out (fun k_ hk => (⟨hk, hk.2⟩ : _ ∧ k_ ≠ gb554))) (fun _ hk => hk.2) (.int .i64 ((rd_T45 t523 x140_4).f0))) (fun _ hk => hk.2) (.int .i64 ((rd_T45 t523 x140_4).f1))) (fun _ hk => hk.2) (.int .i64 ((rd_T45 t523 x140_4).f2))) (fun _ hk => hk.1.2)⟩
                     replace HO_7 : Aside0 (Kd.N (Kd.slice 3 (Kd.int .i64)) 24 (((w85.setCell ⟨gb554, 0, none⟩ (.int .i64 ((rd_T45 t523 x140_4).f0))).setCell ⟨gb554, 1, none⟩ (.int .i64 ((rd_T45 t523 x140_4).f1))).setCell ⟨gb554, 2, none⟩ (.int .i64 ((rd_T45 t523 x140_4).f2))) w.heap.size (fun k_ => some k_ ≠ (.slice (some ad553) t523.length co10 : Value).ownBlock ∧ some k_ ≠ (u17 : Value).ownBlock ∧ some k_ ≠ (.slice (some ad553) t523.length co10 : Value).ownBlock ∧ k_ ≠ gb554) (.slice Ao24 t526.length co24) t526) := ⟨Q22⟩
                     replace HO_17 : Aside0 (Kd.R (Kd.int .i64) 3 (((w85.setCell ⟨gb554, 0, none⟩ (.int .i64 ((rd_T45 t523 x140_4).f0))).setCell ⟨gb554, 1, none⟩ (.int .i64 ((rd_T45 t523 x140_4).f1))).setCell ⟨gb554, 2, none⟩ (.int .i64 ((rd_T45 t523 x140_4).f2))) w.heap.size (fun _ => True) u17 x17_3) := ⟨Yj (Z13 (p := ⟨gb554, 2, none⟩) (Z13 (p := ⟨gb554, 1, none⟩) (Z13 (p := ⟨gb554, 0, none⟩) (Z15 HO_17.out BK554.out (by decide)) (fun _ hk => hk.2) (.int .i64 ((rd_T45 t523 x140_4).f0))) (fun _ hk => hk.2) (.int .i64 ((rd_T45 t523 x140_4).f1))) (fun _ hk => hk.2) (.int .i64 ((rd_T45 t523 x140_4).f2))) (fun _ hk => trivial)⟩
                     replace HO_138 : Aside0 (Kd.R k45 45 (((w85.setCell ⟨gb554, 0, none⟩ (.int .i64 ((rd_T45 t523 x140_4).f0))).setCell ⟨gb554, 1, none⟩ (.int .i64 ((rd_T45 t523 x140_4).f1))).setCell ⟨gb554, 2, none⟩ (.int .i64 ((rd_T45 t523 x140_4).f2))) w.heap.size (fun k_ => k_ ≠ gb554) (.slice (some ad553) t523.length co10) t523) := ⟨Yj (Z13 (p := ⟨gb554, 2, none⟩) (Z13 (p := ⟨gb554, 1, none⟩) (Z13 (p := ⟨gb554, 0, none⟩) (Z12 HO_138.out (fun k_ hk => (⟨hk, hk.2⟩ : _ ∧ k_ ≠ gb554))) (fun _ hk => hk.2) (.int .i64 ((rd_T45 t523 x140_4).f0))) (fun _ hk => hk.2) (.int .i64 ((rd_T45 t523 x140_4).f1))) (fun _ hk => hk.2) (.int .i64 ((rd_T45 t523 x140_4).f2))) (fun _ hk => hk.1.2)⟩
                     replace BK554 : Aside0 ((((w85.setCell ⟨gb554, 0, none⟩ (.int .i64 ((rd_T45 t523 x140_4).f0))).setCell ⟨gb554, 1, none⟩ (.int .i64 ((rd_T45 t523 x140_4).f1))).setCell ⟨gb554, 2, none⟩ (.int .i64 ((rd_T45 t523 x140_4).f2))).heap[gb554]? = some (.cells #[.int .i64 ((rd_T45 t523 x140_4).f0), .int .i64 ((rd_T45 t523 x140_4).f1), .int .i64 ((rd_T45 t523 x140_4).f2)] 45 (0, 0))) := ⟨Q15⟩
                     replace HB : Aside0 (Below w.heap.size w (((w85.setCell ⟨gb554, 0, none⟩ (.int .i64 ((rd_T45 t523 x140_4).f0))).setCell ⟨gb554, 1, none⟩ (.int .i64 ((rd_T45 t523 x140_4).f1))).setCell ⟨gb554, 2, none⟩ (.int .i64 ((rd_T45 t523 x140_4).f2)))) := ⟨Q0⟩
                     generalize (((w85.setCell ⟨gb554, 0, none⟩ (.int .i64 ((rd_T45 t523 x140_4).f0))).setCell ⟨gb554, 1, none⟩ (.int .i64 ((rd_T45 t523 x140_4).f1))).setCell ⟨gb554, 2, none⟩ (.int .i64 ((rd_T45 t523 x140_4).f2))) = w87 at HO_6 HO_7 HO_17 HO_138 BK554 HB ⊢
                     replace HO_6 := Ya (Z11 HO_6.out)
                     replace HO_7 := Ya (Kd.N_drew HO_7.out)
                     replace HO_17 := Ya (Z11 HO_17.out)
                     replace HO_138 := Ya (Z11 HO_138.out)
                     replace BK554 := Ya (Z25 BK554.out)
                     replace HB := Ya (Z4 HB.out)
                     have p555 : 0 ≤ ((ji53) : Int) := Z29 Q1
                     have q555 : (ji53) < (t526.length : Int) := Z29 Q1
                     obtain ⟨ad555, A555_0, c555_0, e555, hx555_0, hl555_0, hi555_0⟩ := at_L3 (Kd.N_reads' HO_7.out).2.2 (ji53) p555 q555
                     cases e555
                     obtain ⟨ce555, hce555, hMe555, hcc555⟩ := Kd.N_get HO_7.out [] (ji53) p555 Q48
                     obtain ⟨ua555_0, uc555_0, rfl, ul555_0, ge555_0⟩ := Kd.FK_slice_open hMe555
                     have hv555_0 := hcc555 0 _ rfl
                     rw [Nat.add_zero, show ((Kd.slice 3 (Kd.int .i64))).sz = 1 from rfl, Nat.mul_one] at hv555_0
                     replace hv555_0 := Option.some.inj (hv555_0.symm.trans hx555_0)
                     injection hv555_0 with hva_ hvn_ hvc_
                     rw [hva_] at ge555_0
                     rw [hvc_] at ul555_0
                     have HL555_0 := Ya (show Kd.V (Kd.int .i64) 3 _ w.heap.size _ _ (rd_L3 t526 (ji53)) from Kd.V_mk ul555_0 ge555_0)
                     clear hva_ hvn_ hvc_ ge555_0 ul555_0
                     clear hcc555 hce555
                     have HR555_0 := Ya hi555_0
                     have HC555_0 := Ya hl555_0
                     clear hi555_0 hl555_0
                     replace p555 := eq_true p555
                     replace q555 := eq_true q555
                     refine start_ (n := 13) (S := fun w' => w'.cell? ⟨gb554, 0, none⟩ = some (.int .i64 ((rd_T45 t523 x140_4).f0)) ∧ w'.cell? ⟨gb554, 1, none⟩ = some (.int .i64 ((rd_T45 t523 x140_4).f1)) ∧ w'.cell? ⟨gb554, 2, none⟩ = some (.int .i64 ((rd_T45 t523 x140_4).f2)) ∧ w'.cell? (ad555.add ((ji53)).toNat) = some (.slice A555_0 (rd_L3 t526 (ji53)).length c555_0)) (ds := []) (YA 13 0) (by kernel_rfl) rfl rfl ⟨(Z22 BK554.out 0).trans rfl, (Z22 BK554.out 1).trans rfl, (Z22 BK554.out 2).trans rfl, hx555_0⟩ (fun hHeld => ?_); refine with_tabW laws_FnGreedyLists.tab26 laws_FnGreedyLists.bits26 (fun HT_ HW_ => ?_)
                     generalize w87.drew = w88 at HO_6 HO_7 HO_17 HO_138 BK554 HB HL555_0 HR555_0 hx555_0 hHeld ⊢
                     refine Yp 0 (some 145) (YA 13 1) rfl HT_.out ?_
                     refine Yp 1 (some 146) (YA 13 3) rfl HT_.out ?_
                     refine Yp 2 (some 147) (YA 13 7) rfl HT_.out ?_
                     refine Yp 3 (some 148) (YA 13 15) rfl HT_.out ?_
                     refine Yp 4 (some 149) (YA 13 31) rfl HT_.out ?_
                     refine Yt 5 (some 150) (YA 13 63) rfl HT_.out HW_.out hHeld Q17 ?_
                     refine Yt 6 (some 151) (YA 13 127) rfl HT_.out HW_.out hHeld Q17 ?_
                     refine one_ (i := 7) (N := some 152) (YA 13 255) rfl rfl (one_of HT_.out (by kernel_rfl)) (by decide) (fun K hK => ?_)
                     refine goes_ Try.func24 (by kernel_rfl) rfl #[.slice A555_0 (rd_L3 t526 (ji53)).length c555_0, .agg #[.int .i64 ((rd_T45 t523 x140_4).f0), .int .i64 ((rd_T45 t523 x140_4).f1), .int .i64 ((rd_T45 t523 x140_4).f2)]] (by rfl) rfl rfl Q40 ?_
                     with_reducible refine (impl_ApplyMove.calls k4 _ _ (rd_L3 t526 (ji53)) ((rd_T45 t523 x140_4).f0) ((rd_T45 t523 x140_4).f1) ((rd_T45 t523 x140_4).f2) t556 false _ ?side1 ?side2 A56.out).mono ?_
                     (case side1 => exact Yc Q34)
                     (case side2 => exact HC555_0.out)
                     rintro e w89 ⟨v557, rfl, ho0, hb⟩
                     have HS3_ := (hb.cell (World.block_lt_of_cell? _ _ (hHeld.2.2.2))).trans (hHeld.2.2.2)
                     refine ⟨_, rfl, ?_⟩
                     replace HO_6 := Yw HO_6 hb
                     replace HO_7 := Ya (Kd.N_elder' (Qm0 HO_7.out) (Kd.R_base ho0) hb)
                     replace HO_138 := Yw HO_138 hb
                     replace HL555_0 := Ya (Kd.V_elder' (Qm1 HL555_0.out) (Kd.R_base ho0) hb)
                     have HO558 := Yl (Kd.R_new' ho0 (Z16 (Yr HO_17.out)))
                     replace HO_17 := Ya (Kd.R_elder' (Yr HO_17.out) (Kd.R_base ho0) hb)
                     replace BK554 := Yb BK554 hb
                     replace HR555_0 := Ya (Z21 Q10 hb)
                     replace HB := Yh hb
                     (try clear hb ho0)
                     refine hK.out _ _ ⟨(Z22 BK554.out 0).trans rfl, (Z22 BK554.out 1).trans rfl, (Z22 BK554.out 2).trans rfl, HS3_⟩ (fun hHeld => ?_)
                     clear hK K
                     refine norm_ (a' := ?_) ?_ ?_
                     rotate_left
                     ·show Act.put _ (some 152) _ = _
                      simp only [Act.put, Z0, Z1, Z2, i64_w, i32_w]
                      rfl
                     refine Yp 8 (some 144) (YA 13 511) rfl HT_.out ?_
                     refine Yp 9 (some 153) (YA 13 1023) rfl HT_.out ?_
                     refine Yp 10 (some 154) (YA 13 2047) rfl HT_.out ?_
                     refine Yp 11 (some 24) (YA 13 4095) rfl HT_.out ?_
                     refine Yp 12 (some 25) (YA 13 8191) rfl HT_.out ?_
                     refine done_ (done_of HT_.out (by kernel_rfl)) ?_
                     obtain ⟨Ao90, co90, rfl⟩ := Z17 HO558.out
                     try go_wp2_with (first | ((with_reducible refine gate_callee (f := 25) rfl ?_); refine Yz 157 Try.func25 #[.slice Ao90 t556.length co90] ?_; (with_reducible refine (impl_PermutationRank.calls k4 _ _ t556 t560 t561 _ (Yc (Kd.R_reads' HO558.out).2.2) ((Kd.R_reads' HO558.out).2.1) A57.out).mono ?_); rintro e w91 ⟨rfl, hb⟩; refine ⟨_, rfl, ?_⟩; replace HO_6 := Yw HO_6 hb; replace HO_7 := Ya (Kd.N_below (Qm0 HO_7.out) hb); replace HO_17 := Yw HO_17 hb; replace HO_138 := Yw HO_138 hb; replace HL555_0 := Ya (Kd.V_below (Qm1 HL555_0.out) hb); replace HO558 := Yw HO558 hb; replace BK554 := Yb BK554 hb; replace HR555_0 := Ya (Z21 Q10 hb); replace HB := Yh hb; (try clear hb)))
                     go_ret
                     exact ⟨Q39, Q0⟩
                   ·rw [if_neg c55] at H
                    exact absurd H (by simp)
                  ·rw [if_neg c54] at H
                   exact absurd H (by simp)
                 ·rw [if_neg c52] at H
                  exact absurd H (by simp)
                ·rw [if_neg c51] at H
                 exact absurd H (by simp)
               ·rw [if_neg c50] at H
                have c50b0 := Z36 c50
                clear c50
                replace H := Z35.mp H
                obtain ⟨⟨t563, t564⟩, A920, H⟩ := H
                replace H : ((impl_IsMoveList.f k4 t522 t526 t523).bind fun bt565 => (if t564 = true then (if bt565.2 = true then (if (bt565.1 != ((t526.length : Int) == t563)) = true then (some false) else (laws_FnGreedyLists.j4 k4 l1)) else (some false)) else (some false))) = some r := H
                have A92 := Ya A920
                clear A920
                replace H := Z35.mp H
                obtain ⟨⟨t565, t566⟩, A930, H⟩ := H
                replace H : (if t564 = true then (if t566 = true then (if (t565 != ((t526.length : Int) == t563)) = true then (some false) else (laws_FnGreedyLists.j4 k4 l1)) else (some false)) else (some false)) = some r := H
                have A93 := Ya A930
                clear A930
                by_cases c94 : t564 = true
                ·subst c94
                 have H1 : (if t566 = true then (if (t565 != ((t526.length : Int) == t563)) = true then (some false) else (laws_FnGreedyLists.j4 k4 l1)) else (some false)) = some r := by rw [if_pos rfl] at H; exact H
                 clear H
                 have H := H1
                 clear H1
                 by_cases c95 : t566 = true
                 ·subst c95
                  have H1 : (if (t565 != ((t526.length : Int) == t563)) = true then (some false) else (laws_FnGreedyLists.j4 k4 l1)) = some r := by rw [if_pos rfl] at H; exact H
                  clear H
                  have H := H1
                  clear H1
                  by_cases c96 : (t565 != ((t526.length : Int) == t563)) = true
                  ·rw [if_pos c96] at H
                   have c96b0 : (t565 != ((t526.length : Int) == t563)) = true := c96
                   (try (have c96b1 : decide (t565 = ((t526.length : Int) == t563)) = false := by simpa using c96))
                   (try (have c96b2 : (t565 == ((t526.length : Int) == t563)) = false := by simpa using c96))
                   (try (have c96b3 : ¬ (t565 = ((t526.length : Int) == t563)) := by simpa using c96))
                   clear c96
                   obtain rfl := Option.some.inj H
                   go_wp2_with (first | ((with_reducible refine gate_callee (f := 37) rfl ?_); refine Yz 175 Try.func37 #[.int .i64 t522] ?_; (with_reducible refine (impl_Factorial.calls k4 t522 t563 true _ A92.out).mono ?_); rintro e w' ⟨rfl, ⟨nd, rfl⟩⟩; refine ⟨_, rfl, ?_⟩) | ((with_reducible refine gate_callee (f := 28) rfl ?_); refine Yz 182 Try.func28 #[.int .i64 t522, .slice Ao24 t526.length co24, .slice Ao10 t523.length co10] ?_; (with_reducible refine (impl_IsMoveList.calls k4 t522 _ _ t526 _ _ t523 t565 true _ (Yc (Kd.N_reads' HO_7.out).2.2) ?side2 (Yc (Kd.R_reads' HO_6.out).2.2) ((Kd.R_reads' HO_6.out).2.1) A93.out).mono ?_); (case side2 => exact (Kd.N_reads' HO_7.out).2.1); rintro e w97 ⟨rfl, hb⟩; refine ⟨_, rfl, ?_⟩; replace HO_6 := Yw HO_6 hb; replace HO_7 := Ya (Kd.N_below (Qm0 HO_7.out) hb); replace HO_17 := Yw HO_17 hb; replace HO_138 := Yw HO_138 hb; replace HB := Yh hb; (try clear hb)))
                   go_ret
                   exact ⟨Q2, Q0⟩
                  ·rw [if_neg c96] at H
                   have c96b0 : (t565 != ((t526.length : Int) == t563)) = false := by simpa using c96
                   (try (have c96b1 : decide (t565 = ((t526.length : Int) == t563)) = true := by simpa using c96))
                   (try (have c96b2 : (t565 == ((t526.length : Int) == t563)) = true := by simpa using c96))
                   clear c96
                   have H' := Ya H
                   clear H
                   go_wp2_with (first | ((with_reducible refine gate_callee (f := 37) rfl ?_); refine Yz 175 Try.func37 #[.int .i64 t522] ?_; (with_reducible refine (impl_Factorial.calls k4 t522 t563 true _ A92.out).mono ?_); rintro e w' ⟨rfl, ⟨nd, rfl⟩⟩; refine ⟨_, rfl, ?_⟩) | ((with_reducible refine gate_callee (f := 28) rfl ?_); refine Yz 182 Try.func28 #[.int .i64 t522, .slice Ao24 t526.length co24, .slice Ao10 t523.length co10] ?_; (with_reducible refine (impl_IsMoveList.calls k4 t522 _ _ t526 _ _ t523 t565 true _ (Yc (Kd.N_reads' HO_7.out).2.2) ?side2 (Yc (Kd.R_reads' HO_6.out).2.2) ((Kd.R_reads' HO_6.out).2.1) A93.out).mono ?_); (case side2 => exact (Kd.N_reads' HO_7.out).2.1); rintro e w98 ⟨rfl, hb⟩; refine ⟨_, rfl, ?_⟩; replace HO_6 := Yw HO_6 hb; replace HO_7 := Ya (Kd.N_below (Qm0 HO_7.out) hb); replace HO_17 := Yw HO_17 hb; replace HO_138 := Yw HO_138 hb; replace HB := Yh hb; (try clear hb)))
                   go_meet
                   case rel => exact ⟨_, H', ⟨by have := HJ7.out; have := HJ22.out; have := HK3.out; have := HK4.out; first | omega | exact Nat.le_refl _⟩, ⟨Q0⟩⟩
                 ·replace c95 := Bool.eq_false_iff.mpr c95
                  subst c95
                  have H1 : (some false) = some r := by rw [if_neg (show ¬ (false = true) by decide)] at H; exact H
                  clear H
                  have H := H1
                  clear H1
                  obtain rfl := Option.some.inj H
                  go_wp2_with (first | ((with_reducible refine gate_callee (f := 37) rfl ?_); refine Yz 175 Try.func37 #[.int .i64 t522] ?_; (with_reducible refine (impl_Factorial.calls k4 t522 t563 true _ A92.out).mono ?_); rintro e w' ⟨rfl, ⟨nd, rfl⟩⟩; refine ⟨_, rfl, ?_⟩) | ((with_reducible refine gate_callee (f := 28) rfl ?_); refine Yz 182 Try.func28 #[.int .i64 t522, .slice Ao24 t526.length co24, .slice Ao10 t523.length co10] ?_; (with_reducible refine (impl_IsMoveList.calls k4 t522 _ _ t526 _ _ t523 t565 false _ (Yc (Kd.N_reads' HO_7.out).2.2) ?side2 (Yc (Kd.R_reads' HO_6.out).2.2) ((Kd.R_reads' HO_6.out).2.1) A93.out).mono ?_); (case side2 => exact (Kd.N_reads' HO_7.out).2.1); rintro e w99 ⟨rfl, hb⟩; refine ⟨_, rfl, ?_⟩; replace HO_6 := Yw HO_6 hb; replace HO_7 := Ya (Kd.N_below (Qm0 HO_7.out) hb); replace HO_17 := Yw HO_17 hb; replace HO_138 := Yw HO_138 hb; replace HB := Yh hb; (try clear hb)))
                  go_ret
                  exact ⟨Q2, Q0⟩
                ·replace c94 := Bool.eq_false_iff.mpr c94
                 subst c94
                 have H1 : (some false) = some r := by rw [if_neg (show ¬ (false = true) by decide)] at H; exact H
                 clear H
                 have H := H1
                 clear H1
                 obtain rfl := Option.some.inj H
                 go_wp2_with (first | ((with_reducible refine gate_callee (f := 37) rfl ?_); refine Yz 175 Try.func37 #[.int .i64 t522] ?_; (with_reducible refine (impl_Factorial.calls k4 t522 t563 false _ A92.out).mono ?_); rintro e w' ⟨rfl, ⟨nd, rfl⟩⟩; refine ⟨_, rfl, ?_⟩) | ((with_reducible refine gate_callee (f := 28) rfl ?_); refine Yz 182 Try.func28 #[.int .i64 t522, .slice Ao24 t526.length co24, .slice Ao10 t523.length co10] ?_; (with_reducible refine (impl_IsMoveList.calls k4 t522 _ _ t526 _ _ t523 t565 t566 _ (Yc (Kd.N_reads' HO_7.out).2.2) ?side2 (Yc (Kd.R_reads' HO_6.out).2.2) ((Kd.R_reads' HO_6.out).2.1) A93.out).mono ?_); (case side2 => exact (Kd.N_reads' HO_7.out).2.1); rintro e w100 ⟨rfl, hb⟩; refine ⟨_, rfl, ?_⟩; replace HO_6 := Yw HO_6 hb; replace HO_7 := Ya (Kd.N_below (Qm0 HO_7.out) hb); replace HO_17 := Yw HO_17 hb; replace HO_138 := Yw HO_138 hb; replace HB := Yh hb; (try clear hb)))
                 go_ret
                 exact ⟨Q2, Q0⟩
      ·replace c19 := Bool.eq_false_iff.mpr c19
       subst c19
       have H1 : (laws_FnGreedyLists.j4 kj7 l1) = some r := by rw [if_neg (show ¬ (false = true) by decide)] at H; exact H
       clear H
       have H := H1
       clear H1
       have H' := Ya H
       clear H
       go_wp2
       go_meet
       case rel => exact ⟨_, H', ⟨Q47⟩, ⟨Q0⟩⟩
     case rest => as_aux_lemma =>
      clear HC18
      try clear c1
      try clear c2
      try clear p2
      try clear c3
      try clear c5
      try clear p5
      try clear q5
      try clear hx5
      try clear c9
      try clear c19
      try clear c24
      try clear c25
      try clear c28
      try clear c37
      try clear c50
      try clear c50b0
      try clear c51
      try clear c52
      try clear c54
      try clear c55
      try clear p55
      try clear q55
      try clear hx55
      try clear c58
      try clear c59
      try clear c94
      try clear c95
      try clear c96
      try clear c96b0
      try clear c96b1
      try clear c96b2
      try clear hcz79_0
      try clear hcz79_1
      try clear hcz79_2
      try clear hcz86_0
      try clear hcz86_1
      try clear hcz86_2
      try clear hfz79_0
      try clear hfz79_1
      try clear hfz79_2
      try clear hfz86_0
      try clear hfz86_1
      try clear hfz86_2
      try clear hx553_0
      try clear hx553_1
      try clear hx553_2
      try clear hx555_0
      try clear p553
      try clear p555
      try clear q553
      try clear q555
      obtain ⟨kq, HA, HJ17, HB⟩ := hcut
      cases kq with
      | zero => exact absurd HA.out (by simp [laws_FnGreedyLists.j4])
      | succ kj17 =>
       have H := HA.out
       clear HA
       simp only [laws_FnGreedyLists.j4] at H
       replace H := Z35.mp H
       obtain ⟨⟨t567, t568, t571⟩, A1010, H⟩ := H
       replace H : ((impl_IsMoveList.f kj17 t567 t568 t571).bind fun bt574 => ((spec_IsMoveList.f kj17 t567 t568 t571).bind fun bt576 => ((impl_MovesOf.f kj17 t567 t568 t571).bind fun bt578 => ((spec_MovesOf.f kj17 t567 t568 t571).bind fun bt582 => (if (bt574.2 == bt576.2) = true then (if (bt574.1 == bt576.1) = true then (if (bt578.2 == bt582.2) = true then ((laws_uSame.f kj17 bt578.1 bt582.1).bind fun t586 => (if t586 = true then (if bt574.1 = true then (some bt578.2) else (some true)) else (some false))) else (some false)) else (some false)) else (some false)))))) = some r := H
       have A101 := Ya A1010
       clear A1010
       replace H := Z35.mp H
       obtain ⟨⟨t574, t575⟩, A1020, H⟩ := H
       replace H : ((spec_IsMoveList.f kj17 t567 t568 t571).bind fun bt576 => ((impl_MovesOf.f kj17 t567 t568 t571).bind fun bt578 => ((spec_MovesOf.f kj17 t567 t568 t571).bind fun bt582 => (if (t575 == bt576.2) = true then (if (t574 == bt576.1) = true then (if (bt578.2 == bt582.2) = true then ((laws_uSame.f kj17 bt578.1 bt582.1).bind fun t586 => (if t586 = true then (if t574 = true then (some bt578.2) else (some true)) else (some false))) else (some false)) else (some false)) else (some false))))) = some r := H
       have A102 := Ya A1020
       clear A1020
       replace H := Z35.mp H
       obtain ⟨⟨t576, t577⟩, A1030, H⟩ := H
       replace H : ((impl_MovesOf.f kj17 t567 t568 t571).bind fun bt578 => ((spec_MovesOf.f kj17 t567 t568 t571).bind fun bt582 => (if (t575 == t577) = true then (if (t574 == t576) = true then (if (bt578.2 == bt582.2) = true then ((laws_uSame.f kj17 bt578.1 bt582.1).bind fun t586 => (if t586 = true then (if t574 = true then (some bt578.2) else (some true)) else (some false))) else (some false)) else (some false)) else (some false)))) = some r := H
       have A103 := Ya A1030
       clear A1030
       replace H := Z35.mp H
       obtain ⟨⟨t578, t579⟩, A1040, H⟩ := H
       replace H : ((spec_MovesOf.f kj17 t567 t568 t571).bind fun bt582 => (if (t575 == t577) = true then (if (t574 == t576) = true then (if (t579 == bt582.2) = true then ((laws_uSame.f kj17 t578 bt582.1).bind fun t586 => (if t586 = true then (if t574 = true then (some t579) else (some true)) else (some false))) else (some false)) else (some false)) else (some false))) = some r := H
       have A104 := Ya A1040
       clear A1040
       replace H := Z35.mp H
       obtain ⟨⟨t582, t583⟩, A1050, H⟩ := H
       replace H : (if (t575 == t577) = true then (if (t574 == t576) = true then (if (t579 == t583) = true then ((laws_uSame.f kj17 t578 t582).bind fun t586 => (if t586 = true then (if t574 = true then (some t579) else (some true)) else (some false))) else (some false)) else (some false)) else (some false)) = some r := H
       have A105 := Ya A1050
       clear A1050
       by_cases c106 : (t575 == t577) = true
       ·rw [if_pos c106] at H
        have c106b0 : (t575 == t577) = true := c106
        (try (have c106b1 : decide (t575 = t577) = true := by simpa using c106))
        (try (have c106b2 : (t575 == t577) = true := by simpa using c106))
        clear c106
        by_cases c107 : (t574 == t576) = true
        ·rw [if_pos c107] at H
         have c107b0 : (t574 == t576) = true := c107
         (try (have c107b1 : decide (t574 = t576) = true := by simpa using c107))
         (try (have c107b2 : (t574 == t576) = true := by simpa using c107))
         clear c107
         by_cases c108 : (t579 == t583) = true
         ·rw [if_pos c108] at H
          have c108b0 : (t579 == t583) = true := c108
          (try (have c108b1 : decide (t579 = t583) = true := by simpa using c108))
          (try (have c108b2 : (t579 == t583) = true := by simpa using c108))
          clear c108
          replace H := Z35.mp H
          obtain ⟨t586, A1090, H⟩ := H
          replace H : (if t586 = true then (if t574 = true then (some t579) else (some true)) else (some false)) = some r := H
          have A109 := Ya A1090
          clear A1090
          by_cases c110 : t586 = true
          ·subst c110
           have H1 : (if t574 = true then (some t579) else (some true)) = some r := by rw [if_pos rfl] at H; exact H
           clear H
           have H := H1
           clear H1
           by_cases c111 : t574 = true
           ·subst c111
            have H1 : (some t579) = some r := by rw [if_pos rfl] at H; exact H
            clear H
            have H := H1
            clear H1
            obtain rfl := Option.some.inj H
            go_wp2_with (first | ((with_reducible refine gate_callee (f := 38) rfl ?_); refine Yz 201 Try.func38 #[.slice A1 l1.length c1] ?_; (with_reducible refine (spec_DrawIsMoveList.calls kj17 _ _ l1 t567 t568 t571 _ (Yc (Z21 HR1.out HB.out)) HC1.out A101.out).mono ?_); rintro e w112 ⟨v569, v572, rfl, ho0, ho1, hb⟩; refine ⟨_, rfl, ?_⟩; have HO570 := Ya (Kd.N_lower (Kd.N_mono (ok' := fun k_ => some k_ ≠ (v572 : Value).ownBlock) ho0 (fun k_ hk_ => hk_.2)) (Z7 Q12)); have HO573 := Yl (Z12 (ok' := fun k_ => True) ho1 (fun _ hk_ => trivial)); replace HB := Yh hb; (try clear hb ho0 ho1); obtain ⟨Ao113, co113, eo113⟩ := Kd.N_slice HO570.out; subst eo113; obtain ⟨Ao114, co114, rfl⟩ := Z17 HO573.out) | ((with_reducible refine gate_callee (f := 28) rfl ?_); refine Yz 209 Try.func28 #[.int .i64 t567, .slice Ao113 t568.length co113, .slice Ao114 t571.length co114] ?_; (with_reducible refine (impl_IsMoveList.calls kj17 t567 _ _ t568 _ _ t571 true t575 _ (Yc (Kd.N_reads' HO570.out).2.2) ?side2 (Yc (Kd.R_reads' HO573.out).2.2) ((Kd.R_reads' HO573.out).2.1) A102.out).mono ?_); (case side2 => exact (Kd.N_reads' HO570.out).2.1); rintro e w115 ⟨rfl, hb⟩; refine ⟨_, rfl, ?_⟩; replace HO570 := Ya (Kd.N_below (Qm0 HO570.out) hb); replace HO573 := Yw HO573 hb; replace HB := Yh hb; (try clear hb)) | ((with_reducible refine gate_callee (f := 39) rfl ?_); refine Yz 216 Try.func39 #[.int .i64 t567, .slice Ao113 t568.length co113, .slice Ao114 t571.length co114] ?_; (with_reducible refine (spec_IsMoveList.calls kj17 t567 _ _ t568 _ _ t571 t576 t577 _ (Yc (Kd.N_reads' HO570.out).2.2) ?side2 (Yc (Kd.R_reads' HO573.out).2.2) ((Kd.R_reads' HO573.out).2.1) A103.out).mono ?_); (case side2 => exact (Kd.N_reads' HO570.out).2.1); rintro e w116 ⟨rfl, hb⟩; refine ⟨_, rfl, ?_⟩; replace HO570 := Ya (Kd.N_below (Qm0 HO570.out) hb); replace HO573 := Yw HO573 hb; replace HB := Yh hb; (try clear hb)) | ((with_reducible refine gate_callee (f := 35) rfl ?_); refine Yz 223 Try.func35 #[.int .i64 t567, .slice Ao113 t568.length co113, .slice Ao114 t571.length co114] ?_; (with_reducible refine (impl_MovesOf.calls kj17 t567 _ _ t568 _ _ t571 t578 t579 _ (Yc (Kd.N_reads' HO570.out).2.2) ?side2 (Yc (Kd.R_reads' HO573.out).2.2) ((Kd.R_reads' HO573.out).2.1) A104.out).mono ?_); (case side2 => exact (Kd.N_reads' HO570.out).2.1); rintro e w117 ⟨v580, rfl, ho0, hb⟩; refine ⟨_, rfl, ?_⟩; replace HO570 := Ya (Kd.N_elder' (Qm0 HO570.out) (Kd.R_base ho0) hb); replace HO573 := Yw HO573 hb; have HO581 := Yl ho0; replace HB := Yh hb; (try clear hb ho0)) | ((with_reducible refine gate_callee (f := 40) rfl ?_); refine Yz 230 Try.func40 #[.int .i64 t567, .slice Ao113 t568.length co113, .slice Ao114 t571.length co114] ?_; (with_reducible refine (spec_MovesOf.calls kj17 t567 _ _ t568 _ _ t571 t582 t583 _ (Yc (Kd.N_reads' HO570.out).2.2) ?side2 (Yc (Kd.R_reads' HO573.out).2.2) ((Kd.R_reads' HO573.out).2.1) A105.out).mono ?_); (case side2 => exact (Kd.N_reads' HO570.out).2.1); rintro e w118 ⟨v584, rfl, ho0, hb⟩; refine ⟨_, rfl, ?_⟩; replace HO570 := Ya (Kd.N_elder' (Qm0 HO570.out) (Kd.R_base ho0) hb); replace HO573 := Yw HO573 hb; have HO585 := Yl (Kd.R_new' ho0 (Z16 (Yr HO581.out))); replace HO581 := Ya (Kd.R_elder' (Yr HO581.out) (Kd.R_base ho0) hb); replace HB := Yh hb; (try clear hb ho0); obtain ⟨Ao119, co119, rfl⟩ := Z17 HO581.out; obtain ⟨Ao120, co120, rfl⟩ := Z17 HO585.out) | (go_at_call 22; (with_reducible refine (laws_uSame.calls kj17 _ _ t578 _ _ t582 true _ (Yc (Kd.R_reads' HO581.out).2.2) ((Kd.R_reads' HO581.out).2.1) (Yc (Kd.R_reads' HO585.out).2.2) ((Kd.R_reads' HO585.out).2.1) A109.out).mono ?_); rintro e w' ⟨rfl, ⟨nd, rfl⟩⟩))
            go_ret
            exact ⟨Q2, Q0⟩
           ·replace c111 := Bool.eq_false_iff.mpr c111
            subst c111
            have H1 : (some true) = some r := by rw [if_neg (show ¬ (false = true) by decide)] at H; exact H
            clear H
            have H := H1
            clear H1
            obtain rfl := Option.some.inj H
            go_wp2_with (first | ((with_reducible refine gate_callee (f := 38) rfl ?_); refine Yz 201 Try.func38 #[.slice A1 l1.length c1] ?_; (with_reducible refine (spec_DrawIsMoveList.calls kj17 _ _ l1 t567 t568 t571 _ (Yc (Z21 HR1.out HB.out)) HC1.out A101.out).mono ?_); rintro e w121 ⟨v569, v572, rfl, ho0, ho1, hb⟩; refine ⟨_, rfl, ?_⟩; have HO570 := Ya (Kd.N_lower (Kd.N_mono (ok' := fun k_ => some k_ ≠ (v572 : Value).ownBlock) ho0 (fun k_ hk_ => hk_.2)) (Z7 Q12)); have HO573 := Yl (Z12 (ok' := fun k_ => True) ho1 (fun _ hk_ => trivial)); replace HB := Yh hb; (try clear hb ho0 ho1); obtain ⟨Ao122, co122, eo122⟩ := Kd.N_slice HO570.out; subst eo122; obtain ⟨Ao123, co123, rfl⟩ := Z17 HO573.out) | ((with_reducible refine gate_callee (f := 28) rfl ?_); refine Yz 209 Try.func28 #[.int .i64 t567, .slice Ao122 t568.length co122, .slice Ao123 t571.length co123] ?_; (with_reducible refine (impl_IsMoveList.calls kj17 t567 _ _ t568 _ _ t571 false t575 _ (Yc (Kd.N_reads' HO570.out).2.2) ?side2 (Yc (Kd.R_reads' HO573.out).2.2) ((Kd.R_reads' HO573.out).2.1) A102.out).mono ?_); (case side2 => exact (Kd.N_reads' HO570.out).2.1); rintro e w124 ⟨rfl, hb⟩; refine ⟨_, rfl, ?_⟩; replace HO570 := Ya (Kd.N_below (Qm0 HO570.out) hb); replace HO573 := Yw HO573 hb; replace HB := Yh hb; (try clear hb)) | ((with_reducible refine gate_callee (f := 39) rfl ?_); refine Yz 216 Try.func39 #[.int .i64 t567, .slice Ao122 t568.length co122, .slice Ao123 t571.length co123] ?_; (with_reducible refine (spec_IsMoveList.calls kj17 t567 _ _ t568 _ _ t571 t576 t577 _ (Yc (Kd.N_reads' HO570.out).2.2) ?side2 (Yc (Kd.R_reads' HO573.out).2.2) ((Kd.R_reads' HO573.out).2.1) A103.out).mono ?_); (case side2 => exact (Kd.N_reads' HO570.out).2.1); rintro e w125 ⟨rfl, hb⟩; refine ⟨_, rfl, ?_⟩; replace HO570 := Ya (Kd.N_below (Qm0 HO570.out) hb); replace HO573 := Yw HO573 hb; replace HB := Yh hb; (try clear hb)) | ((with_reducible refine gate_callee (f := 35) rfl ?_); refine Yz 223 Try.func35 #[.int .i64 t567, .slice Ao122 t568.length co122, .slice Ao123 t571.length co123] ?_; (with_reducible refine (impl_MovesOf.calls kj17 t567 _ _ t568 _ _ t571 t578 t579 _ (Yc (Kd.N_reads' HO570.out).2.2) ?side2 (Yc (Kd.R_reads' HO573.out).2.2) ((Kd.R_reads' HO573.out).2.1) A104.out).mono ?_); (case side2 => exact (Kd.N_reads' HO570.out).2.1); rintro e w126 ⟨v580, rfl, ho0, hb⟩; refine ⟨_, rfl, ?_⟩; replace HO570 := Ya (Kd.N_elder' (Qm0 HO570.out) (Kd.R_base ho0) hb); replace HO573 := Yw HO573 hb; have HO581 := Yl ho0; replace HB := Yh hb; (try clear hb ho0)) | ((with_reducible refine gate_callee (f := 40) rfl ?_); refine Yz 230 Try.func40 #[.int .i64 t567, .slice Ao122 t568.length co122, .slice Ao123 t571.length co123] ?_; (with_reducible refine (spec_MovesOf.calls kj17 t567 _ _ t568 _ _ t571 t582 t583 _ (Yc (Kd.N_reads' HO570.out).2.2) ?side2 (Yc (Kd.R_reads' HO573.out).2.2) ((Kd.R_reads' HO573.out).2.1) A105.out).mono ?_); (case side2 => exact (Kd.N_reads' HO570.out).2.1); rintro e w127 ⟨v584, rfl, ho0, hb⟩; refine ⟨_, rfl, ?_⟩; replace HO570 := Ya (Kd.N_elder' (Qm0 HO570.out) (Kd.R_base ho0) hb); replace HO573 := Yw HO573 hb; have HO585 := Yl (Kd.R_new' ho0 (Z16 (Yr HO581.out))); replace HO581 := Ya (Kd.R_elder' (Yr HO581.out) (Kd.R_base ho0) hb); replace HB := Yh hb; (try clear hb ho0); obtain ⟨Ao128, co128, rfl⟩ := Z17 HO581.out; obtain ⟨Ao129, co129, rfl⟩ := Z17 HO585.out) | (go_at_call 22; (with_reducible refine (laws_uSame.calls kj17 _ _ t578 _ _ t582 true _ (Yc (Kd.R_reads' HO581.out).2.2) ((Kd.R_reads' HO581.out).2.1) (Yc (Kd.R_reads' HO585.out).2.2) ((Kd.R_reads' HO585.out).2.1) A109.out).mono ?_); rintro e w' ⟨rfl, ⟨nd, rfl⟩⟩))
            go_ret
            exact ⟨Q2, Q0⟩
          ·replace c110 := Bool.eq_false_iff.mpr c110
           subst c110
           have H1 : (some false) = some r := by rw [if_neg (show ¬ (false = true) by decide)] at H; exact H
           clear H
           have H := H1
           clear H1
           obtain rfl := Option.some.inj H
           go_wp2_with (first | ((with_reducible refine gate_callee (f := 38) rfl ?_); refine Yz 201 Try.func38 #[.slice A1 l1.length c1] ?_; (with_reducible refine (spec_DrawIsMoveList.calls kj17 _ _ l1 t567 t568 t571 _ (Yc (Z21 HR1.out HB.out)) HC1.out A101.out).mono ?_); rintro e w130 ⟨v569, v572, rfl, ho0, ho1, hb⟩; refine ⟨_, rfl, ?_⟩; have HO570 := Ya (Kd.N_lower (Kd.N_mono (ok' := fun k_ => some k_ ≠ (v572 : Value).ownBlock) ho0 (fun k_ hk_ => hk_.2)) (Z7 Q12)); have HO573 := Yl (Z12 (ok' := fun k_ => True) ho1 (fun _ hk_ => trivial)); replace HB := Yh hb; (try clear hb ho0 ho1); obtain ⟨Ao131, co131, eo131⟩ := Kd.N_slice HO570.out; subst eo131; obtain ⟨Ao132, co132, rfl⟩ := Z17 HO573.out) | ((with_reducible refine gate_callee (f := 28) rfl ?_); refine Yz 209 Try.func28 #[.int .i64 t567, .slice Ao131 t568.length co131, .slice Ao132 t571.length co132] ?_; (with_reducible refine (impl_IsMoveList.calls kj17 t567 _ _ t568 _ _ t571 t574 t575 _ (Yc (Kd.N_reads' HO570.out).2.2) ?side2 (Yc (Kd.R_reads' HO573.out).2.2) ((Kd.R_reads' HO573.out).2.1) A102.out).mono ?_); (case side2 => exact (Kd.N_reads' HO570.out).2.1); rintro e w133 ⟨rfl, hb⟩; refine ⟨_, rfl, ?_⟩; replace HO570 := Ya (Kd.N_below (Qm0 HO570.out) hb); replace HO573 := Yw HO573 hb; replace HB := Yh hb; (try clear hb)) | ((with_reducible refine gate_callee (f := 39) rfl ?_); refine Yz 216 Try.func39 #[.int .i64 t567, .slice Ao131 t568.length co131, .slice Ao132 t571.length co132] ?_; (with_reducible refine (spec_IsMoveList.calls kj17 t567 _ _ t568 _ _ t571 t576 t577 _ (Yc (Kd.N_reads' HO570.out).2.2) ?side2 (Yc (Kd.R_reads' HO573.out).2.2) ((Kd.R_reads' HO573.out).2.1) A103.out).mono ?_); (case side2 => exact (Kd.N_reads' HO570.out).2.1); rintro e w134 ⟨rfl, hb⟩; refine ⟨_, rfl, ?_⟩; replace HO570 := Ya (Kd.N_below (Qm0 HO570.out) hb); replace HO573 := Yw HO573 hb; replace HB := Yh hb; (try clear hb)) | ((with_reducible refine gate_callee (f := 35) rfl ?_); refine Yz 223 Try.func35 #[.int .i64 t567, .slice Ao131 t568.length co131, .slice Ao132 t571.length co132] ?_; (with_reducible refine (impl_MovesOf.calls kj17 t567 _ _ t568 _ _ t571 t578 t579 _ (Yc (Kd.N_reads' HO570.out).2.2) ?side2 (Yc (Kd.R_reads' HO573.out).2.2) ((Kd.R_reads' HO573.out).2.1) A104.out).mono ?_); (case side2 => exact (Kd.N_reads' HO570.out).2.1); rintro e w135 ⟨v580, rfl, ho0, hb⟩; refine ⟨_, rfl, ?_⟩; replace HO570 := Ya (Kd.N_elder' (Qm0 HO570.out) (Kd.R_base ho0) hb); replace HO573 := Yw HO573 hb; have HO581 := Yl ho0; replace HB := Yh hb; (try clear hb ho0)) | ((with_reducible refine gate_callee (f := 40) rfl ?_); refine Yz 230 Try.func40 #[.int .i64 t567, .slice Ao131 t568.length co131, .slice Ao132 t571.length co132] ?_; (with_reducible refine (spec_MovesOf.calls kj17 t567 _ _ t568 _ _ t571 t582 t583 _ (Yc (Kd.N_reads' HO570.out).2.2) ?side2 (Yc (Kd.R_reads' HO573.out).2.2) ((Kd.R_reads' HO573.out).2.1) A105.out).mono ?_); (case side2 => exact (Kd.N_reads' HO570.out).2.1); rintro e w136 ⟨v584, rfl, ho0, hb⟩; refine ⟨_, rfl, ?_⟩; replace HO570 := Ya (Kd.N_elder' (Qm0 HO570.out) (Kd.R_base ho0) hb); replace HO573 := Yw HO573 hb; have HO585 := Yl (Kd.R_new' ho0 (Z16 (Yr HO581.out))); replace HO581 := Ya (Kd.R_elder' (Yr HO581.out) (Kd.R_base ho0) hb); replace HB := Yh hb; (try clear hb ho0); obtain ⟨Ao137, co137, rfl⟩ := Z17 HO581.out; obtain ⟨Ao138, co138, rfl⟩ := Z17 HO585.out) | (go_at_call 22; (with_reducible refine (laws_uSame.calls kj17 _ _ t578 _ _ t582 false _ (Yc (Kd.R_reads' HO581.out).2.2) ((Kd.R_reads' HO581.out).2.1) (Yc (Kd.R_reads' HO585.out).2.2) ((Kd.R_reads' HO585.out).2.1) A109.out).mono ?_); rintro e w' ⟨rfl, ⟨nd, rfl⟩⟩))
           go_ret
           exact ⟨Q2, Q0⟩
         ·rw [if_neg c108] at H
          have c108b0 : (t579 == t583) = false := by simpa using c108
          (try (have c108b1 : decide (t579 = t583) = false := by simpa using c108))
          (try (have c108b2 : (t579 == t583) = false := by simpa using c108))
          (try (have c108b3 : ¬ (t579 = t583) := by simpa using c108))
          clear c108
          obtain rfl := Option.some.inj H
          go_wp2_with (first | ((with_reducible refine gate_callee (f := 38) rfl ?_); refine Yz 201 Try.func38 #[.slice A1 l1.length c1] ?_; (with_reducible refine (spec_DrawIsMoveList.calls kj17 _ _ l1 t567 t568 t571 _ (Yc (Z21 HR1.out HB.out)) HC1.out A101.out).mono ?_); rintro e w139 ⟨v569, v572, rfl, ho0, ho1, hb⟩; refine ⟨_, rfl, ?_⟩; have HO570 := Ya (Kd.N_lower (Kd.N_mono (ok' := fun k_ => some k_ ≠ (v572 : Value).ownBlock) ho0 (fun k_ hk_ => hk_.2)) (Z7 Q12)); have HO573 := Yl (Z12 (ok' := fun k_ => True) ho1 (fun _ hk_ => trivial)); replace HB := Yh hb; (try clear hb ho0 ho1); obtain ⟨Ao140, co140, eo140⟩ := Kd.N_slice HO570.out; subst eo140; obtain ⟨Ao141, co141, rfl⟩ := Z17 HO573.out) | ((with_reducible refine gate_callee (f := 28) rfl ?_); refine Yz 209 Try.func28 #[.int .i64 t567, .slice Ao140 t568.length co140, .slice Ao141 t571.length co141] ?_; (with_reducible refine (impl_IsMoveList.calls kj17 t567 _ _ t568 _ _ t571 t574 t575 _ (Yc (Kd.N_reads' HO570.out).2.2) ?side2 (Yc (Kd.R_reads' HO573.out).2.2) ((Kd.R_reads' HO573.out).2.1) A102.out).mono ?_); (case side2 => exact (Kd.N_reads' HO570.out).2.1); rintro e w142 ⟨rfl, hb⟩; refine ⟨_, rfl, ?_⟩; replace HO570 := Ya (Kd.N_below (Qm0 HO570.out) hb); replace HO573 := Yw HO573 hb; replace HB := Yh hb; (try clear hb)) | ((with_reducible refine gate_callee (f := 39) rfl ?_); refine Yz 216 Try.func39 #[.int .i64 t567, .slice Ao140 t568.length co140, .slice Ao141 t571.length co141] ?_; (with_reducible refine (spec_IsMoveList.calls kj17 t567 _ _ t568 _ _ t571 t576 t577 _ (Yc (Kd.N_reads' HO570.out).2.2) ?side2 (Yc (Kd.R_reads' HO573.out).2.2) ((Kd.R_reads' HO573.out).2.1) A103.out).mono ?_); (case side2 => exact (Kd.N_reads' HO570.out).2.1); rintro e w143 ⟨rfl, hb⟩; refine ⟨_, rfl, ?_⟩; replace HO570 := Ya (Kd.N_below (Qm0 HO570.out) hb); replace HO573 := Yw HO573 hb; replace HB := Yh hb; (try clear hb)) | ((with_reducible refine gate_callee (f := 35) rfl ?_); refine Yz 223 Try.func35 #[.int .i64 t567, .slice Ao140 t568.length co140, .slice Ao141 t571.length co141] ?_; (with_reducible refine (impl_MovesOf.calls kj17 t567 _ _ t568 _ _ t571 t578 t579 _ (Yc (Kd.N_reads' HO570.out).2.2) ?side2 (Yc (Kd.R_reads' HO573.out).2.2) ((Kd.R_reads' HO573.out).2.1) A104.out).mono ?_); (case side2 => exact (Kd.N_reads' HO570.out).2.1); rintro e w144 ⟨v580, rfl, ho0, hb⟩; refine ⟨_, rfl, ?_⟩; replace HO570 := Ya (Kd.N_elder' (Qm0 HO570.out) (Kd.R_base ho0) hb); replace HO573 := Yw HO573 hb; have HO581 := Yl ho0; replace HB := Yh hb; (try clear hb ho0)) | ((with_reducible refine gate_callee (f := 40) rfl ?_); refine Yz 230 Try.func40 #[.int .i64 t567, .slice Ao140 t568.length co140, .slice Ao141 t571.length co141] ?_; (with_reducible refine (spec_MovesOf.calls kj17 t567 _ _ t568 _ _ t571 t582 t583 _ (Yc (Kd.N_reads' HO570.out).2.2) ?side2 (Yc (Kd.R_reads' HO573.out).2.2) ((Kd.R_reads' HO573.out).2.1) A105.out).mono ?_); (case side2 => exact (Kd.N_reads' HO570.out).2.1); rintro e w145 ⟨v584, rfl, ho0, hb⟩; refine ⟨_, rfl, ?_⟩; replace HO570 := Ya (Kd.N_elder' (Qm0 HO570.out) (Kd.R_base ho0) hb); replace HO573 := Yw HO573 hb; have HO585 := Yl (Kd.R_new' ho0 (Z16 (Yr HO581.out))); replace HO581 := Ya (Kd.R_elder' (Yr HO581.out) (Kd.R_base ho0) hb); replace HB := Yh hb; (try clear hb ho0)))
          go_ret
          exact ⟨Q2, Q0⟩
        ·rw [if_neg c107] at H
         have c107b0 : (t574 == t576) = false := by simpa using c107
         (try (have c107b1 : decide (t574 = t576) = false := by simpa using c107))
         (try (have c107b2 : (t574 == t576) = false := by simpa using c107))
         (try (have c107b3 : ¬ (t574 = t576) := by simpa using c107))
         clear c107
         obtain rfl := Option.some.inj H
         go_wp2_with (first | ((with_reducible refine gate_callee (f := 38) rfl ?_); refine Yz 201 Try.func38 #[.slice A1 l1.length c1] ?_; (with_reducible refine (spec_DrawIsMoveList.calls kj17 _ _ l1 t567 t568 t571 _ (Yc (Z21 HR1.out HB.out)) HC1.out A101.out).mono ?_); rintro e w146 ⟨v569, v572, rfl, ho0, ho1, hb⟩; refine ⟨_, rfl, ?_⟩; have HO570 := Ya (Kd.N_lower (Kd.N_mono (ok' := fun k_ => some k_ ≠ (v572 : Value).ownBlock) ho0 (fun k_ hk_ => hk_.2)) (Z7 Q12)); have HO573 := Yl (Z12 (ok' := fun k_ => True) ho1 (fun _ hk_ => trivial)); replace HB := Yh hb; (try clear hb ho0 ho1); obtain ⟨Ao147, co147, eo147⟩ := Kd.N_slice HO570.out; subst eo147; obtain ⟨Ao148, co148, rfl⟩ := Z17 HO573.out) | ((with_reducible refine gate_callee (f := 28) rfl ?_); refine Yz 209 Try.func28 #[.int .i64 t567, .slice Ao147 t568.length co147, .slice Ao148 t571.length co148] ?_; (with_reducible refine (impl_IsMoveList.calls kj17 t567 _ _ t568 _ _ t571 t574 t575 _ (Yc (Kd.N_reads' HO570.out).2.2) ?side2 (Yc (Kd.R_reads' HO573.out).2.2) ((Kd.R_reads' HO573.out).2.1) A102.out).mono ?_); (case side2 => exact (Kd.N_reads' HO570.out).2.1); rintro e w149 ⟨rfl, hb⟩; refine ⟨_, rfl, ?_⟩; replace HO570 := Ya (Kd.N_below (Qm0 HO570.out) hb); replace HO573 := Yw HO573 hb; replace HB := Yh hb; (try clear hb)) | ((with_reducible refine gate_callee (f := 39) rfl ?_); refine Yz 216 Try.func39 #[.int .i64 t567, .slice Ao147 t568.length co147, .slice Ao148 t571.length co148] ?_; (with_reducible refine (spec_IsMoveList.calls kj17 t567 _ _ t568 _ _ t571 t576 t577 _ (Yc (Kd.N_reads' HO570.out).2.2) ?side2 (Yc (Kd.R_reads' HO573.out).2.2) ((Kd.R_reads' HO573.out).2.1) A103.out).mono ?_); (case side2 => exact (Kd.N_reads' HO570.out).2.1); rintro e w150 ⟨rfl, hb⟩; refine ⟨_, rfl, ?_⟩; replace HO570 := Ya (Kd.N_below (Qm0 HO570.out) hb); replace HO573 := Yw HO573 hb; replace HB := Yh hb; (try clear hb)) | ((with_reducible refine gate_callee (f := 35) rfl ?_); refine Yz 223 Try.func35 #[.int .i64 t567, .slice Ao147 t568.length co147, .slice Ao148 t571.length co148] ?_; (with_reducible refine (impl_MovesOf.calls kj17 t567 _ _ t568 _ _ t571 t578 t579 _ (Yc (Kd.N_reads' HO570.out).2.2) ?side2 (Yc (Kd.R_reads' HO573.out).2.2) ((Kd.R_reads' HO573.out).2.1) A104.out).mono ?_); (case side2 => exact (Kd.N_reads' HO570.out).2.1); rintro e w151 ⟨v580, rfl, ho0, hb⟩; refine ⟨_, rfl, ?_⟩; replace HO570 := Ya (Kd.N_elder' (Qm0 HO570.out) (Kd.R_base ho0) hb); replace HO573 := Yw HO573 hb; have HO581 := Yl ho0; replace HB := Yh hb; (try clear hb ho0)) | ((with_reducible refine gate_callee (f := 40) rfl ?_); refine Yz 230 Try.func40 #[.int .i64 t567, .slice Ao147 t568.length co147, .slice Ao148 t571.length co148] ?_; (with_reducible refine (spec_MovesOf.calls kj17 t567 _ _ t568 _ _ t571 t582 t583 _ (Yc (Kd.N_reads' HO570.out).2.2) ?side2 (Yc (Kd.R_reads' HO573.out).2.2) ((Kd.R_reads' HO573.out).2.1) A105.out).mono ?_); (case side2 => exact (Kd.N_reads' HO570.out).2.1); rintro e w152 ⟨v584, rfl, ho0, hb⟩; refine ⟨_, rfl, ?_⟩; replace HO570 := Ya (Kd.N_elder' (Qm0 HO570.out) (Kd.R_base ho0) hb); replace HO573 := Yw HO573 hb; have HO585 := Yl (Kd.R_new' ho0 (Z16 (Yr HO581.out))); replace HO581 := Ya (Kd.R_elder' (Yr HO581.out) (Kd.R_base ho0) hb); replace HB := Yh hb; (try clear hb ho0)))
         go_ret
         exact ⟨Q2, Q0⟩
       ·rw [if_neg c106] at H
        have c106b0 : (t575 == t577) = false := by simpa using c106
        (try (have c106b1 : decide (t575 = t577) = false := by simpa using c106))
        (try (have c106b2 : (t575 == t577) = false := by simpa using c106))
        (try (have c106b3 : ¬ (t575 = t577) := by simpa using c106))
        clear c106
        obtain rfl := Option.some.inj H
        go_wp2_with (first | ((with_reducible refine gate_callee (f := 38) rfl ?_); refine Yz 201 Try.func38 #[.slice A1 l1.length c1] ?_; (with_reducible refine (spec_DrawIsMoveList.calls kj17 _ _ l1 t567 t568 t571 _ (Yc (Z21 HR1.out HB.out)) HC1.out A101.out).mono ?_); rintro e w153 ⟨v569, v572, rfl, ho0, ho1, hb⟩; refine ⟨_, rfl, ?_⟩; have HO570 := Ya (Kd.N_lower (Kd.N_mono (ok' := fun k_ => some k_ ≠ (v572 : Value).ownBlock) ho0 (fun k_ hk_ => hk_.2)) (Z7 Q12)); have HO573 := Yl (Z12 (ok' := fun k_ => True) ho1 (fun _ hk_ => trivial)); replace HB := Yh hb; (try clear hb ho0 ho1); obtain ⟨Ao154, co154, eo154⟩ := Kd.N_slice HO570.out; subst eo154; obtain ⟨Ao155, co155, rfl⟩ := Z17 HO573.out) | ((with_reducible refine gate_callee (f := 28) rfl ?_); refine Yz 209 Try.func28 #[.int .i64 t567, .slice Ao154 t568.length co154, .slice Ao155 t571.length co155] ?_; (with_reducible refine (impl_IsMoveList.calls kj17 t567 _ _ t568 _ _ t571 t574 t575 _ (Yc (Kd.N_reads' HO570.out).2.2) ?side2 (Yc (Kd.R_reads' HO573.out).2.2) ((Kd.R_reads' HO573.out).2.1) A102.out).mono ?_); (case side2 => exact (Kd.N_reads' HO570.out).2.1); rintro e w156 ⟨rfl, hb⟩; refine ⟨_, rfl, ?_⟩; replace HO570 := Ya (Kd.N_below (Qm0 HO570.out) hb); replace HO573 := Yw HO573 hb; replace HB := Yh hb; (try clear hb)) | ((with_reducible refine gate_callee (f := 39) rfl ?_); refine Yz 216 Try.func39 #[.int .i64 t567, .slice Ao154 t568.length co154, .slice Ao155 t571.length co155] ?_; (with_reducible refine (spec_IsMoveList.calls kj17 t567 _ _ t568 _ _ t571 t576 t577 _ (Yc (Kd.N_reads' HO570.out).2.2) ?side2 (Yc (Kd.R_reads' HO573.out).2.2) ((Kd.R_reads' HO573.out).2.1) A103.out).mono ?_); (case side2 => exact (Kd.N_reads' HO570.out).2.1); rintro e w157 ⟨rfl, hb⟩; refine ⟨_, rfl, ?_⟩; replace HO570 := Ya (Kd.N_below (Qm0 HO570.out) hb); replace HO573 := Yw HO573 hb; replace HB := Yh hb; (try clear hb)) | ((with_reducible refine gate_callee (f := 35) rfl ?_); refine Yz 223 Try.func35 #[.int .i64 t567, .slice Ao154 t568.length co154, .slice Ao155 t571.length co155] ?_; (with_reducible refine (impl_MovesOf.calls kj17 t567 _ _ t568 _ _ t571 t578 t579 _ (Yc (Kd.N_reads' HO570.out).2.2) ?side2 (Yc (Kd.R_reads' HO573.out).2.2) ((Kd.R_reads' HO573.out).2.1) A104.out).mono ?_); (case side2 => exact (Kd.N_reads' HO570.out).2.1); rintro e w158 ⟨v580, rfl, ho0, hb⟩; refine ⟨_, rfl, ?_⟩; replace HO570 := Ya (Kd.N_elder' (Qm0 HO570.out) (Kd.R_base ho0) hb); replace HO573 := Yw HO573 hb; have HO581 := Yl ho0; replace HB := Yh hb; (try clear hb ho0)) | ((with_reducible refine gate_callee (f := 40) rfl ?_); refine Yz 230 Try.func40 #[.int .i64 t567, .slice Ao154 t568.length co154, .slice Ao155 t571.length co155] ?_; (with_reducible refine (spec_MovesOf.calls kj17 t567 _ _ t568 _ _ t571 t582 t583 _ (Yc (Kd.N_reads' HO570.out).2.2) ?side2 (Yc (Kd.R_reads' HO573.out).2.2) ((Kd.R_reads' HO573.out).2.1) A105.out).mono ?_); (case side2 => exact (Kd.N_reads' HO570.out).2.1); rintro e w159 ⟨v584, rfl, ho0, hb⟩; refine ⟨_, rfl, ?_⟩; replace HO570 := Ya (Kd.N_elder' (Qm0 HO570.out) (Kd.R_base ho0) hb); replace HO573 := Yw HO573 hb; have HO585 := Yl (Kd.R_new' ho0 (Z16 (Yr HO581.out))); replace HO581 := Ya (Kd.R_elder' (Yr HO581.out) (Kd.R_base ho0) hb); replace HB := Yh hb; (try clear hb ho0)))
        go_ret
        exact ⟨Q2, Q0⟩
def laws_FnGreedyLists.Pure : Prop := ∀ (l0 : List Int) (l1 : List Int), l0.length ≤ maxLen → l0.length * 1 ≤ 140737488351232 → (∀ x ∈ l0, (Lit.int .u8 x).wf = true) → l1.length ≤ maxLen → l1.length * 1 ≤ 140737488351232 → (∀ x ∈ l1, (Lit.int .u8 x).wf = true) → ∃ k, laws_FnGreedyLists.f k l0 l1 = some true
theorem laws_FnGreedyLists.walk (P : laws_FnGreedyLists.Pure) (a0 : Option Addr) (len0 cap0 : Nat) (z0 : List Int) (a1 : Option Addr) (len1 cap1 : Nat) (z1 : List Int) (w : World) (w0 : (a0 = none ∧ len0 = 0 ∧ cap0 = 0 ∧ z0 = []) ∨ ∃ x, a0 = some x ∧ len0 ≤ cap0 ∧ cap0 ≤ maxLen ∧ z0.length = cap0 ∧ (∀ i, i < z0.length → w.cell? (x.add i) = some (.int .u8 (z0.getD i 0))) ∧ ∀ n ∈ z0, (Lit.int .u8 n).wf = true) (y0 : len0 * 1 ≤ 140737488351232) (w1 : (a1 = none ∧ len1 = 0 ∧ cap1 = 0 ∧ z1 = []) ∨ ∃ x, a1 = some x ∧ len1 ≤ cap1 ∧ cap1 ≤ maxLen ∧ z1.length = cap1 ∧ (∀ i, i < z1.length → w.cell? (x.add i) = some (.int .u8 (z1.getD i 0))) ∧ ∀ n ∈ z1, (Lit.int .u8 n).wf = true) (y1 : len1 * 1 ≤ 140737488351232) :
  Calls Try.prog 5 #[.slice a0 len0 cap0, .slice a1 len1 cap1] w fun e w' => e = .returned (.bool true) ∧ Below w.heap.size w w' := by
 obtain ⟨l0, rfl, hr0, hm0, hw0, hc0⟩ := ReadsInt.ofRowC w0
 obtain ⟨l1, rfl, hr1, hm1, hw1, hc1⟩ := ReadsInt.ofRowC w1
 obtain ⟨k, h⟩ := P l0 l1 hm0 y0 hw0 hm1 y1 hw1
 refine (laws_FnGreedyLists.calls k _ _ l0 _ _ l1 true w (Kd.C_of_reads (d := (0 : Int)) (h1 := fun _ => rfl) hr0) hc0 (Kd.C_of_reads (d := (0 : Int)) (h1 := fun _ => rfl) hr1) hc1 h).mono ?_
 rintro e w' ⟨rfl, hd⟩
 exact ⟨rfl, hd⟩
end Go.Proofs.Ytllhnnjkonghlaa.MFnGreedyLists
