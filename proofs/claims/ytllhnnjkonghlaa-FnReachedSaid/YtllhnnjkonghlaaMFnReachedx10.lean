import Derived.Test.YtllhnnjkonghlaaMFnReachedx0
import Derived.Test.YtllhnnjkonghlaaMFnReachedx2
import Derived.Test.YtllhnnjkonghlaaMFnReachedx3
import Derived.Test.YtllhnnjkonghlaaMFnReachedx4
import Derived.Test.YtllhnnjkonghlaaMFnReachedx6
import Derived.Test.YtllhnnjkonghlaaMFnReachedx7
import Derived.Test.YtllhnnjkonghlaaMFnReachedx8
import Derived.Test.YtllhnnjkonghlaaMFnReachedx9
namespace Go.Proofs.Ytllhnnjkonghlaa.MFnReached
open Go.RowKit Go.Proofs.YtllhnnjkonghlaaW.PrintWords Go.Proofs.YtllhnnjkonghlaaW.PrintLast Go.Proofs.YtllhnnjkonghlaaW.PrintMore
attribute [local go_sem] max2_int min2_int max_two min_two max_three min_three max_four min_four   
set_option linter.unusedVariables false
set_option linter.unusedSimpArgs false
mutual
def laws_FnReached.j0 : Nat → List Int → Int → List (S45) → List Int → Bool → Int → Bool → Bool → Bool → Option (Bool)
 | 0, _, _, _, _, _, _, _, _, _ => none
 | k + 1, x1, x5, x6, x7, x8, x11, x13, x14, x107 => if x107 = true then (some false) else (if x8 = true then (laws_FnReached.l0 k x1 x5 x6 x7 x11 x13 x14 0 x7 (x7.length : Int) 0) else (laws_FnReached.j3 k x1))
def laws_FnReached.j3 : Nat → List Int → Option (Bool)
 | 0, _ => none
 | k + 1, x1 => (spec_DrawFirstPath.f k x1).bind fun bt484 => ((impl_FirstPath.f k bt484.1 bt484.2.1 bt484.2.2).bind fun bt489 => ((spec_FirstPath.f k bt484.1 bt484.2.1 bt484.2.2).bind fun bt493 => (if (bt489.2 != bt493.2) = true then (laws_FnReached.j4 k x1 bt484.1 bt484.2.1 bt489.1 bt489.2 true) else ((laws_uSame.f k bt489.1 bt493.1).bind fun t497 => (laws_FnReached.j4 k x1 bt484.1 bt484.2.1 bt489.1 bt489.2 (!t497))))))
def laws_FnReached.j4 : Nat → List Int → Int → List (S45) → List Int → Bool → Bool → Option (Bool)
 | 0, _, _, _, _, _, _ => none
 | k + 1, x1, x28, x29, x31, x32, x230 => if x230 = true then (some false) else (if x32 = true then ((impl_FollowMoves.f k x28 x29 x31).bind fun bt498 => ((impl_IsMoveList.f k x28 bt498.1 x29).bind fun bt502 => (if bt498.2 = true then (if bt502.2 = true then (some bt502.1) else (some false)) else (some false)))) else ((spec_DrawFollowMoves.f k x1).bind fun bt504 => ((impl_FollowMoves.f k bt504.1 bt504.2.1 bt504.2.2).bind fun bt511 => ((spec_FollowMoves.f k bt504.1 bt504.2.1 bt504.2.2).bind fun bt515 => (if (bt511.2 == bt515.2) = true then ((laws_uLists.f k bt511.1 bt515.1).bind fun t519 => (some t519)) else (some false))))))
def laws_FnReached.l0 : Nat → List Int → Int → List (S45) → List Int → Int → Bool → Bool → Int → List Int → Int → Int → Option (Bool)
 | 0, _, _, _, _, _, _, _, _, _, _, _ => none
 | k + 1, x1, x5, x6, x7, x11, x13, x14, x17, x109, x110, x111 => if x111 < x110 then (if 0 ≤ x111 then (if x111 < (x109.length : Int) then (if (rd x109 x111) < 0 then (laws_FnReached.l0 k x1 x5 x6 x7 x11 x13 x14 x17 x109 x110 (wrap64 (x111 + 1))) else ((impl_PermutationAt.f k x5 x111).bind fun bt470 => (if bt470.2 = true then (laws_FnReached.l1 k x1 x5 x6 x7 x11 x13 x14 (wrap64 (x17 + 1)) (rd x109 x111) bt470.1 x109 x110 x111 x6 (x6.length : Int) 0) else (some false)))) else (none)) else (none)) else (if x17 = x11 then (if 0 < (x7.length : Int) then (if (rd x7 0) = 0 then (if x14 = true then (if x13 = true then (if x5 > 1 then (if (wrap64 (2 * x11)) > (x7.length : Int) then (some false) else (if x11 = 0 then (none) else (if ((x7.length : Int) % x11) = 0 then (laws_FnReached.j3 k x1) else (some false)))) else (if x11 = 0 then (none) else (if ((x7.length : Int) % x11) = 0 then (laws_FnReached.j3 k x1) else (some false)))) else (if x11 = 0 then (none) else (if ((x7.length : Int) % x11) = 0 then (laws_FnReached.j3 k x1) else (some false)))) else (if x11 = 0 then (none) else (if ((x7.length : Int) % x11) = 0 then (laws_FnReached.j3 k x1) else (some false)))) else (some false)) else (none)) else (some false))
def laws_FnReached.l1 : Nat → List Int → Int → List (S45) → List Int → Int → Bool → Bool → Int → Int → List Int → List Int → Int → Int → List (S45) → Int → Int → Option (Bool)
 | 0, _, _, _, _, _, _, _, _, _, _, _, _, _, _, _, _ => none
 | k + 1, x1, x5, x6, x7, x11, x13, x14, x17, x19, x20, x109, x110, x111, x128, x129, x130 => if x130 < x129 then (if 0 ≤ x130 then (if x130 < (x128.length : Int) then ((impl_ApplyMove.f k x20 ((rd_T45 x128 x130).f0) ((rd_T45 x128 x130).f1) ((rd_T45 x128 x130).f2)).bind fun bt476 => ((impl_PermutationRank.f k bt476.1).bind fun bt480 => (if bt476.2 = true then (if bt480.2 = true then (if 0 ≤ bt480.1 then (if bt480.1 < (x7.length : Int) then (if (rd x7 bt480.1) < 0 then (some false) else (if (rd x7 bt480.1) > (wrap64 (x19 + 1)) then (some false) else (laws_FnReached.l1 k x1 x5 x6 x7 x11 x13 x14 x17 x19 x20 x109 x110 x111 x128 x129 (wrap64 (x130 + 1))))) else (none)) else (none)) else (some false)) else (some false)))) else (none)) else (none)) else (laws_FnReached.l0 k x1 x5 x6 x7 x11 x13 x14 x17 x109 x110 (wrap64 (x111 + 1)))
end
def laws_FnReached.f (k : Nat) (l0 : List Int) (l1 : List Int) : Option (Bool) := (laws_big.f l0 l1).bind fun t448 => (if t448 = true then (some true) else ((spec_DrawDistancesFrom.f k l0).bind fun bt449 => ((impl_DistancesFrom.f k bt449.1 bt449.2).bind fun bt453 => ((spec_DistancesFrom.f k bt449.1 bt449.2).bind fun bt457 => ((impl_ReachCount.f k bt449.1 bt449.2).bind fun bt461 => ((impl_AreEven.f k bt449.1 bt449.2).bind fun bt463 => ((spec_AreEven.f k bt449.1 bt449.2).bind fun bt465 => (if (bt453.2 != bt457.2) = true then (laws_FnReached.j0 k l1 bt449.1 bt449.2 bt453.1 bt453.2 bt461.1 bt463.1 bt463.2 true) else ((laws_uSame.f k bt453.1 bt457.1).bind fun t467 => (if t467 = true then (if (bt461.2 != bt453.2) = true then (laws_FnReached.j0 k l1 bt449.1 bt449.2 bt453.1 bt453.2 bt461.1 bt463.1 bt463.2 true) else (if (bt463.2 != bt465.2) = true then (laws_FnReached.j0 k l1 bt449.1 bt449.2 bt453.1 bt453.2 bt461.1 bt463.1 bt463.2 true) else (laws_FnReached.j0 k l1 bt449.1 bt449.2 bt453.1 bt453.2 bt461.1 bt463.1 bt463.2 (bt463.1 != bt465.1)))) else (laws_FnReached.j0 k l1 bt449.1 bt449.2 bt453.1 bt453.2 bt461.1 bt463.1 bt463.2 true)))))))))))
theorem laws_FnReached.mono_l : ∀ k, (∀ y0 y1 y2 y3 y4 y5 y6 y7 y8, LeO (laws_FnReached.j0 k y0 y1 y2 y3 y4 y5 y6 y7 y8) (laws_FnReached.j0 (k + 1) y0 y1 y2 y3 y4 y5 y6 y7 y8)) ∧ (∀ y0, LeO (laws_FnReached.j3 k y0) (laws_FnReached.j3 (k + 1) y0)) ∧ (∀ y0 y1 y2 y3 y4 y5, LeO (laws_FnReached.j4 k y0 y1 y2 y3 y4 y5) (laws_FnReached.j4 (k + 1) y0 y1 y2 y3 y4 y5)) ∧ (∀ y0 y1 y2 y3 y4 y5 y6 y7 y8 y9 y10, LeO (laws_FnReached.l0 k y0 y1 y2 y3 y4 y5 y6 y7 y8 y9 y10) (laws_FnReached.l0 (k + 1) y0 y1 y2 y3 y4 y5 y6 y7 y8 y9 y10)) ∧ (∀ y0 y1 y2 y3 y4 y5 y6 y7 y8 y9 y10 y11 y12 y13 y14 y15, LeO (laws_FnReached.l1 k y0 y1 y2 y3 y4 y5 y6 y7 y8 y9 y10 y11 y12 y13 y14 y15) (laws_FnReached.l1 (k + 1) y0 y1 y2 y3 y4 y5 y6 y7 y8 y9 y10 y11 y12 y13 y14 y15))
 | 0 => ⟨fun _ _ _ _ _ _ _ _ _ r h => by simp [laws_FnReached.j0] at h, fun _ r h => by simp [laws_FnReached.j3] at h, fun _ _ _ _ _ _ r h => by simp [laws_FnReached.j4] at h, fun _ _ _ _ _ _ _ _ _ _ _ r h => by simp [laws_FnReached.l0] at h, fun _ _ _ _ _ _ _ _ _ _ _ _ _ _ _ _ r h => by simp [laws_FnReached.l1] at h⟩
 | k + 1 => by
  obtain ⟨ih0, ih1, ih2, ih3, ih4⟩ := laws_FnReached.mono_l k
  refine ⟨?_, ?_, ?_, ?_, ?_⟩
  ·intro y0 y1 y2 y3 y4 y5 y6 y7 y8
   unfold laws_FnReached.j0
   repeat' first
   | (with_reducible exact ih0 _ _ _ _ _ _ _ _ _)
   | (with_reducible exact ih1 _)
   | (with_reducible exact ih2 _ _ _ _ _ _)
   | (with_reducible exact ih3 _ _ _ _ _ _ _ _ _ _ _)
   | (with_reducible exact ih4 _ _ _ _ _ _ _ _ _ _ _ _ _ _ _ _)
   | (with_reducible exact impl_ApplyMove.mono _ _ _ _ _)
   | (with_reducible exact impl_AreEven.mono _ _ _)
   | (with_reducible exact impl_DistancesFrom.mono _ _ _)
   | (with_reducible exact impl_FirstPath.mono _ _ _ _)
   | (with_reducible exact impl_FollowMoves.mono _ _ _ _)
   | (with_reducible exact impl_IsMoveList.mono _ _ _ _)
   | (with_reducible exact impl_PermutationAt.mono _ _ _)
   | (with_reducible exact impl_PermutationRank.mono _ _)
   | (with_reducible exact impl_ReachCount.mono _ _ _)
   | (with_reducible exact laws_uLists.mono _ _ _)
   | (with_reducible exact laws_uSame.mono _ _ _)
   | (with_reducible exact spec_AreEven.mono _ _ _)
   | (with_reducible exact spec_DistancesFrom.mono _ _ _)
   | (with_reducible exact spec_DrawDistancesFrom.mono _ _)
   | (with_reducible exact spec_DrawFirstPath.mono _ _)
   | (with_reducible exact spec_DrawFollowMoves.mono _ _)
   | (with_reducible exact spec_FirstPath.mono _ _ _ _)
   | (with_reducible exact spec_FollowMoves.mono _ _ _ _)
   | (with_reducible exact LeO.refl _)
   | (with_reducible exact LeO.none _)
   | (with_reducible refine LeO.ite ?_ ?_)
   | (with_reducible refine LeO.bind ?_ (fun _ => ?_))
   | exact ih0 _ _ _ _ _ _ _ _ _
   | exact ih1 _
   | exact ih2 _ _ _ _ _ _
   | exact ih3 _ _ _ _ _ _ _ _ _ _ _
   | exact ih4 _ _ _ _ _ _ _ _ _ _ _ _ _ _ _ _
   | exact impl_ApplyMove.mono _ _ _ _ _
   | exact impl_AreEven.mono _ _ _
   | exact impl_DistancesFrom.mono _ _ _
   | exact impl_FirstPath.mono _ _ _ _
   | exact impl_FollowMoves.mono _ _ _ _
   | exact impl_IsMoveList.mono _ _ _ _
   | exact impl_PermutationAt.mono _ _ _
   | exact impl_PermutationRank.mono _ _
   | exact impl_ReachCount.mono _ _ _
   | exact laws_uLists.mono _ _ _
   | exact laws_uSame.mono _ _ _
   | exact spec_AreEven.mono _ _ _
   | exact spec_DistancesFrom.mono _ _ _
   | exact spec_DrawDistancesFrom.mono _ _
   | exact spec_DrawFirstPath.mono _ _
   | exact spec_DrawFollowMoves.mono _ _
   | exact spec_FirstPath.mono _ _ _ _
   | exact spec_FollowMoves.mono _ _ _ _
   | exact LeO.none _
   | refine LeO.ite ?_ ?_
   | refine LeO.bind ?_ (fun _ => ?_)
  ·intro y0
   unfold laws_FnReached.j3
   repeat' first
   | (with_reducible exact ih0 _ _ _ _ _ _ _ _ _)
   | (with_reducible exact ih1 _)
   | (with_reducible exact ih2 _ _ _ _ _ _)
   | (with_reducible exact ih3 _ _ _ _ _ _ _ _ _ _ _)
   | (with_reducible exact ih4 _ _ _ _ _ _ _ _ _ _ _ _ _ _ _ _)
   | (with_reducible exact impl_ApplyMove.mono _ _ _ _ _)
   | (with_reducible exact impl_AreEven.mono _ _ _)
   | (with_reducible exact impl_DistancesFrom.mono _ _ _)
   | (with_reducible exact impl_FirstPath.mono _ _ _ _)
   | (with_reducible exact impl_FollowMoves.mono _ _ _ _)
   | (with_reducible exact impl_IsMoveList.mono _ _ _ _)
   | (with_reducible exact impl_PermutationAt.mono _ _ _)
   | (with_reducible exact impl_PermutationRank.mono _ _)
   | (with_reducible exact impl_ReachCount.mono _ _ _)
   | (with_reducible exact laws_uLists.mono _ _ _)
   | (with_reducible exact laws_uSame.mono _ _ _)
   | (with_reducible exact spec_AreEven.mono _ _ _)
   | (with_reducible exact spec_DistancesFrom.mono _ _ _)
   | (with_reducible exact spec_DrawDistancesFrom.mono _ _)
   | (with_reducible exact spec_DrawFirstPath.mono _ _)
   | (with_reducible exact spec_DrawFollowMoves.mono _ _)
   | (with_reducible exact spec_FirstPath.mono _ _ _ _)
   | (with_reducible exact spec_FollowMoves.mono _ _ _ _)
   | (with_reducible exact LeO.refl _)
   | (with_reducible exact LeO.none _)
   | (with_reducible refine LeO.ite ?_ ?_)
   | (with_reducible refine LeO.bind ?_ (fun _ => ?_))
   | exact ih0 _ _ _ _ _ _ _ _ _
   | exact ih1 _
   | exact ih2 _ _ _ _ _ _
   | exact ih3 _ _ _ _ _ _ _ _ _ _ _
   | exact ih4 _ _ _ _ _ _ _ _ _ _ _ _ _ _ _ _
   | exact impl_ApplyMove.mono _ _ _ _ _
   | exact impl_AreEven.mono _ _ _
   | exact impl_DistancesFrom.mono _ _ _
   | exact impl_FirstPath.mono _ _ _ _
   | exact impl_FollowMoves.mono _ _ _ _
   | exact impl_IsMoveList.mono _ _ _ _
   | exact impl_PermutationAt.mono _ _ _
   | exact impl_PermutationRank.mono _ _
   | exact impl_ReachCount.mono _ _ _
   | exact laws_uLists.mono _ _ _
   | exact laws_uSame.mono _ _ _
   | exact spec_AreEven.mono _ _ _
   | exact spec_DistancesFrom.mono _ _ _
   | exact spec_DrawDistancesFrom.mono _ _
   | exact spec_DrawFirstPath.mono _ _
   | exact spec_DrawFollowMoves.mono _ _
   | exact spec_FirstPath.mono _ _ _ _
   | exact spec_FollowMoves.mono _ _ _ _
   | exact LeO.none _
   | refine LeO.ite ?_ ?_
   | refine LeO.bind ?_ (fun _ => ?_)
  ·intro y0 y1 y2 y3 y4 y5
   unfold laws_FnReached.j4
   repeat' first
   | (with_reducible exact ih0 _ _ _ _ _ _ _ _ _)
   | (with_reducible exact ih1 _)
   | (with_reducible exact ih2 _ _ _ _ _ _)
   | (with_reducible exact ih3 _ _ _ _ _ _ _ _ _ _ _)
   | (with_reducible exact ih4 _ _ _ _ _ _ _ _ _ _ _ _ _ _ _ _)
   | (with_reducible exact impl_ApplyMove.mono _ _ _ _ _)
   | (with_reducible exact impl_AreEven.mono _ _ _)
   | (with_reducible exact impl_DistancesFrom.mono _ _ _)
   | (with_reducible exact impl_FirstPath.mono _ _ _ _)
   | (with_reducible exact impl_FollowMoves.mono _ _ _ _)
   | (with_reducible exact impl_IsMoveList.mono _ _ _ _)
   | (with_reducible exact impl_PermutationAt.mono _ _ _)
   | (with_reducible exact impl_PermutationRank.mono _ _)
   | (with_reducible exact impl_ReachCount.mono _ _ _)
   | (with_reducible exact laws_uLists.mono _ _ _)
   | (with_reducible exact laws_uSame.mono _ _ _)
   | (with_reducible exact spec_AreEven.mono _ _ _)
   | (with_reducible exact spec_DistancesFrom.mono _ _ _)
   | (with_reducible exact spec_DrawDistancesFrom.mono _ _)
   | (with_reducible exact spec_DrawFirstPath.mono _ _)
   | (with_reducible exact spec_DrawFollowMoves.mono _ _)
   | (with_reducible exact spec_FirstPath.mono _ _ _ _)
   | (with_reducible exact spec_FollowMoves.mono _ _ _ _)
   | (with_reducible exact LeO.refl _)
   | (with_reducible exact LeO.none _)
   | (with_reducible refine LeO.ite ?_ ?_)
   | (with_reducible refine LeO.bind ?_ (fun _ => ?_))
   | exact ih0 _ _ _ _ _ _ _ _ _
   | exact ih1 _
   | exact ih2 _ _ _ _ _ _
   | exact ih3 _ _ _ _ _ _ _ _ _ _ _
   | exact ih4 _ _ _ _ _ _ _ _ _ _ _ _ _ _ _ _
   | exact impl_ApplyMove.mono _ _ _ _ _
   | exact impl_AreEven.mono _ _ _
   | exact impl_DistancesFrom.mono _ _ _
   | exact impl_FirstPath.mono _ _ _ _
   | exact impl_FollowMoves.mono _ _ _ _
   | exact impl_IsMoveList.mono _ _ _ _
   | exact impl_PermutationAt.mono _ _ _
   | exact impl_PermutationRank.mono _ _
   | exact impl_ReachCount.mono _ _ _
   | exact laws_uLists.mono _ _ _
   | exact laws_uSame.mono _ _ _
   | exact spec_AreEven.mono _ _ _
   | exact spec_DistancesFrom.mono _ _ _
   | exact spec_DrawDistancesFrom.mono _ _
   | exact spec_DrawFirstPath.mono _ _
   | exact spec_DrawFollowMoves.mono _ _
   | exact spec_FirstPath.mono _ _ _ _
   | exact spec_FollowMoves.mono _ _ _ _
   | exact LeO.none _
   | refine LeO.ite ?_ ?_
   | refine LeO.bind ?_ (fun _ => ?_)
  ·intro y0 y1 y2 y3 y4 y5 y6 y7 y8 y9 y10
   unfold laws_FnReached.l0
   repeat' first
   | (with_reducible exact ih0 _ _ _ _ _ _ _ _ _)
   | (with_reducible exact ih1 _)
   | (with_reducible exact ih2 _ _ _ _ _ _)
   | (with_reducible exact ih3 _ _ _ _ _ _ _ _ _ _ _)
   | (with_reducible exact ih4 _ _ _ _ _ _ _ _ _ _ _ _ _ _ _ _)
   | (with_reducible exact impl_ApplyMove.mono _ _ _ _ _)
   | (with_reducible exact impl_AreEven.mono _ _ _)
   | (with_reducible exact impl_DistancesFrom.mono _ _ _)
   | (with_reducible exact impl_FirstPath.mono _ _ _ _)
   | (with_reducible exact impl_FollowMoves.mono _ _ _ _)
   | (with_reducible exact impl_IsMoveList.mono _ _ _ _)
   | (with_reducible exact impl_PermutationAt.mono _ _ _)
   | (with_reducible exact impl_PermutationRank.mono _ _)
   | (with_reducible exact impl_ReachCount.mono _ _ _)
   | (with_reducible exact laws_uLists.mono _ _ _)
   | (with_reducible exact laws_uSame.mono _ _ _)
   | (with_reducible exact spec_AreEven.mono _ _ _)
   | (with_reducible exact spec_DistancesFrom.mono _ _ _)
   | (with_reducible exact spec_DrawDistancesFrom.mono _ _)
   | (with_reducible exact spec_DrawFirstPath.mono _ _)
   | (with_reducible exact spec_DrawFollowMoves.mono _ _)
   | (with_reducible exact spec_FirstPath.mono _ _ _ _)
   | (with_reducible exact spec_FollowMoves.mono _ _ _ _)
   | (with_reducible exact LeO.refl _)
   | (with_reducible exact LeO.none _)
   | (with_reducible refine LeO.ite ?_ ?_)
   | (with_reducible refine LeO.bind ?_ (fun _ => ?_))
   | exact ih0 _ _ _ _ _ _ _ _ _
   | exact ih1 _
   | exact ih2 _ _ _ _ _ _
   | exact ih3 _ _ _ _ _ _ _ _ _ _ _
   | exact ih4 _ _ _ _ _ _ _ _ _ _ _ _ _ _ _ _
   | exact impl_ApplyMove.mono _ _ _ _ _
   | exact impl_AreEven.mono _ _ _
   | exact impl_DistancesFrom.mono _ _ _
   | exact impl_FirstPath.mono _ _ _ _
   | exact impl_FollowMoves.mono _ _ _ _
   | exact impl_IsMoveList.mono _ _ _ _
   | exact impl_PermutationAt.mono _ _ _
   | exact impl_PermutationRank.mono _ _
   | exact impl_ReachCount.mono _ _ _
   | exact laws_uLists.mono _ _ _
   | exact laws_uSame.mono _ _ _
   | exact spec_AreEven.mono _ _ _
   | exact spec_DistancesFrom.mono _ _ _
   | exact spec_DrawDistancesFrom.mono _ _
   | exact spec_DrawFirstPath.mono _ _
   | exact spec_DrawFollowMoves.mono _ _
   | exact spec_FirstPath.mono _ _ _ _
   | exact spec_FollowMoves.mono _ _ _ _
   | exact LeO.none _
   | refine LeO.ite ?_ ?_
   | refine LeO.bind ?_ (fun _ => ?_)
  ·intro y0 y1 y2 y3 y4 y5 y6 y7 y8 y9 y10 y11 y12 y13 y14 y15
   unfold laws_FnReached.l1
   repeat' first
   | (with_reducible exact ih0 _ _ _ _ _ _ _ _ _)
   | (with_reducible exact ih1 _)
   | (with_reducible exact ih2 _ _ _ _ _ _)
   | (with_reducible exact ih3 _ _ _ _ _ _ _ _ _ _ _)
   | (with_reducible exact ih4 _ _ _ _ _ _ _ _ _ _ _ _ _ _ _ _)
   | (with_reducible exact impl_ApplyMove.mono _ _ _ _ _)
   | (with_reducible exact impl_AreEven.mono _ _ _)
   | (with_reducible exact impl_DistancesFrom.mono _ _ _)
   | (with_reducible exact impl_FirstPath.mono _ _ _ _)
   | (with_reducible exact impl_FollowMoves.mono _ _ _ _)
   | (with_reducible exact impl_IsMoveList.mono _ _ _ _)
   | (with_reducible exact impl_PermutationAt.mono _ _ _)
   | (with_reducible exact impl_PermutationRank.mono _ _)
   | (with_reducible exact impl_ReachCount.mono _ _ _)
   | (with_reducible exact laws_uLists.mono _ _ _)
   | (with_reducible exact laws_uSame.mono _ _ _)
   | (with_reducible exact spec_AreEven.mono _ _ _)
   | (with_reducible exact spec_DistancesFrom.mono _ _ _)
   | (with_reducible exact spec_DrawDistancesFrom.mono _ _)
   | (with_reducible exact spec_DrawFirstPath.mono _ _)
   | (with_reducible exact spec_DrawFollowMoves.mono _ _)
   | (with_reducible exact spec_FirstPath.mono _ _ _ _)
   | (with_reducible exact spec_FollowMoves.mono _ _ _ _)
   | (with_reducible exact LeO.refl _)
   | (with_reducible exact LeO.none _)
   | (with_reducible refine LeO.ite ?_ ?_)
   | (with_reducible refine LeO.bind ?_ (fun _ => ?_))
   | exact ih0 _ _ _ _ _ _ _ _ _
   | exact ih1 _
   | exact ih2 _ _ _ _ _ _
   | exact ih3 _ _ _ _ _ _ _ _ _ _ _
   | exact ih4 _ _ _ _ _ _ _ _ _ _ _ _ _ _ _ _
   | exact impl_ApplyMove.mono _ _ _ _ _
   | exact impl_AreEven.mono _ _ _
   | exact impl_DistancesFrom.mono _ _ _
   | exact impl_FirstPath.mono _ _ _ _
   | exact impl_FollowMoves.mono _ _ _ _
   | exact impl_IsMoveList.mono _ _ _ _
   | exact impl_PermutationAt.mono _ _ _
   | exact impl_PermutationRank.mono _ _
   | exact impl_ReachCount.mono _ _ _
   | exact laws_uLists.mono _ _ _
   | exact laws_uSame.mono _ _ _
   | exact spec_AreEven.mono _ _ _
   | exact spec_DistancesFrom.mono _ _ _
   | exact spec_DrawDistancesFrom.mono _ _
   | exact spec_DrawFirstPath.mono _ _
   | exact spec_DrawFollowMoves.mono _ _
   | exact spec_FirstPath.mono _ _ _ _
   | exact spec_FollowMoves.mono _ _ _ _
   | exact LeO.none _
   | refine LeO.ite ?_ ?_
   | refine LeO.bind ?_ (fun _ => ?_)
theorem laws_FnReached.mono : ∀ a0 a1 k, LeO (laws_FnReached.f k a0 a1) (laws_FnReached.f (k + 1) a0 a1) := by
 intro a0 a1 k
 obtain ⟨ih0, ih1, ih2, ih3, ih4⟩ := laws_FnReached.mono_l k
 unfold laws_FnReached.f
 repeat' first
   | (with_reducible exact ih0 _ _ _ _ _ _ _ _ _)
   | (with_reducible exact ih1 _)
   | (with_reducible exact ih2 _ _ _ _ _ _)
   | (with_reducible exact ih3 _ _ _ _ _ _ _ _ _ _ _)
   | (with_reducible exact ih4 _ _ _ _ _ _ _ _ _ _ _ _ _ _ _ _)
   | (with_reducible exact impl_ApplyMove.mono _ _ _ _ _)
   | (with_reducible exact impl_AreEven.mono _ _ _)
   | (with_reducible exact impl_DistancesFrom.mono _ _ _)
   | (with_reducible exact impl_FirstPath.mono _ _ _ _)
   | (with_reducible exact impl_FollowMoves.mono _ _ _ _)
   | (with_reducible exact impl_IsMoveList.mono _ _ _ _)
   | (with_reducible exact impl_PermutationAt.mono _ _ _)
   | (with_reducible exact impl_PermutationRank.mono _ _)
   | (with_reducible exact impl_ReachCount.mono _ _ _)
   | (with_reducible exact laws_uLists.mono _ _ _)
   | (with_reducible exact laws_uSame.mono _ _ _)
   | (with_reducible exact spec_AreEven.mono _ _ _)
   | (with_reducible exact spec_DistancesFrom.mono _ _ _)
   | (with_reducible exact spec_DrawDistancesFrom.mono _ _)
   | (with_reducible exact spec_DrawFirstPath.mono _ _)
   | (with_reducible exact spec_DrawFollowMoves.mono _ _)
   | (with_reducible exact spec_FirstPath.mono _ _ _ _)
   | (with_reducible exact spec_FollowMoves.mono _ _ _ _)
   | (with_reducible exact LeO.refl _)
   | (with_reducible exact LeO.none _)
   | (with_reducible refine LeO.ite ?_ ?_)
   | (with_reducible refine LeO.bind ?_ (fun _ => ?_))
   | exact ih0 _ _ _ _ _ _ _ _ _
   | exact ih1 _
   | exact ih2 _ _ _ _ _ _
   | exact ih3 _ _ _ _ _ _ _ _ _ _ _
   | exact ih4 _ _ _ _ _ _ _ _ _ _ _ _ _ _ _ _
   | exact impl_ApplyMove.mono _ _ _ _ _
   | exact impl_AreEven.mono _ _ _
   | exact impl_DistancesFrom.mono _ _ _
   | exact impl_FirstPath.mono _ _ _ _
   | exact impl_FollowMoves.mono _ _ _ _
   | exact impl_IsMoveList.mono _ _ _ _
   | exact impl_PermutationAt.mono _ _ _
   | exact impl_PermutationRank.mono _ _
   | exact impl_ReachCount.mono _ _ _
   | exact laws_uLists.mono _ _ _
   | exact laws_uSame.mono _ _ _
   | exact spec_AreEven.mono _ _ _
   | exact spec_DistancesFrom.mono _ _ _
   | exact spec_DrawDistancesFrom.mono _ _
   | exact spec_DrawFirstPath.mono _ _
   | exact spec_DrawFollowMoves.mono _ _
   | exact spec_FirstPath.mono _ _ _ _
   | exact spec_FollowMoves.mono _ _ _ _
   | exact LeO.none _
   | refine LeO.ite ?_ ?_
   | refine LeO.bind ?_ (fun _ => ?_)
set_option maxHeartbeats 8000000 in
set_option maxRecDepth 100000 in
theorem laws_FnReached.calls (k : Nat) (A0 : Option Addr) (c0 : Nat) (l0 : List Int) (A1 : Option Addr) (c1 : Nat) (l1 : List Int) (r : Bool) (w : World) (hr0 : Kd.C (Kd.int .u8) w A0 l0.length l0) (hc0 : l0.length ≤ c0) (hr1 : Kd.C (Kd.int .u8) w A1 l1.length l1) (hc1 : l1.length ≤ c1) (h : laws_FnReached.f k l0 l1 = some r) :
  Calls Try.prog 4 #[.slice A0 l0.length c0, .slice A1 l1.length c1] w fun e w' => e = .returned (.bool r) ∧ Below w.heap.size w w' := by
 have hu45 := Try.underlying45
 have HR0 := Ya hr0
 have HC0 := Ya hc0
 clear hr0 hc0
 have HR1 := Ya hr1
 have HC1 := Ya hc1
 clear hr1 hc1
 have HB := Ya (Below.refl w.heap.size w)
 have H : ((laws_big.f l0 l1).bind fun t448 => (if t448 = true then (some true) else ((spec_DrawDistancesFrom.f k l0).bind fun bt449 => ((impl_DistancesFrom.f k bt449.1 bt449.2).bind fun bt453 => ((spec_DistancesFrom.f k bt449.1 bt449.2).bind fun bt457 => ((impl_ReachCount.f k bt449.1 bt449.2).bind fun bt461 => ((impl_AreEven.f k bt449.1 bt449.2).bind fun bt463 => ((spec_AreEven.f k bt449.1 bt449.2).bind fun bt465 => (if (bt453.2 != bt457.2) = true then (laws_FnReached.j0 k l1 bt449.1 bt449.2 bt453.1 bt453.2 bt461.1 bt463.1 bt463.2 true) else ((laws_uSame.f k bt453.1 bt457.1).bind fun t467 => (if t467 = true then (if (bt461.2 != bt453.2) = true then (laws_FnReached.j0 k l1 bt449.1 bt449.2 bt453.1 bt453.2 bt461.1 bt463.1 bt463.2 true) else (if (bt463.2 != bt465.2) = true then (laws_FnReached.j0 k l1 bt449.1 bt449.2 bt453.1 bt453.2 bt461.1 bt463.1 bt463.2 true) else (laws_FnReached.j0 k l1 bt449.1 bt449.2 bt453.1 bt453.2 bt461.1 bt463.1 bt463.2 (bt463.1 != bt465.1)))) else (laws_FnReached.j0 k l1 bt449.1 bt449.2 bt453.1 bt453.2 bt461.1 bt463.1 bt463.2 true)))))))))))) = some r := h
 clear h
 replace H := Z35.mp H
 obtain ⟨t448, A30, H⟩ := H
 replace H : (if t448 = true then (some true) else ((spec_DrawDistancesFrom.f k l0).bind fun bt449 => ((impl_DistancesFrom.f k bt449.1 bt449.2).bind fun bt453 => ((spec_DistancesFrom.f k bt449.1 bt449.2).bind fun bt457 => ((impl_ReachCount.f k bt449.1 bt449.2).bind fun bt461 => ((impl_AreEven.f k bt449.1 bt449.2).bind fun bt463 => ((spec_AreEven.f k bt449.1 bt449.2).bind fun bt465 => (if (bt453.2 != bt457.2) = true then (laws_FnReached.j0 k l1 bt449.1 bt449.2 bt453.1 bt453.2 bt461.1 bt463.1 bt463.2 true) else ((laws_uSame.f k bt453.1 bt457.1).bind fun t467 => (if t467 = true then (if (bt461.2 != bt453.2) = true then (laws_FnReached.j0 k l1 bt449.1 bt449.2 bt453.1 bt453.2 bt461.1 bt463.1 bt463.2 true) else (if (bt463.2 != bt465.2) = true then (laws_FnReached.j0 k l1 bt449.1 bt449.2 bt453.1 bt453.2 bt461.1 bt463.1 bt463.2 true) else (laws_FnReached.j0 k l1 bt449.1 bt449.2 bt453.1 bt453.2 bt461.1 bt463.1 bt463.2 (bt463.1 != bt465.1)))) else (laws_FnReached.j0 k l1 bt449.1 bt449.2 bt453.1 bt453.2 bt461.1 bt463.1 bt463.2 true))))))))))) = some r := H
 have A3 := Ya A30
 clear A30
 by_cases c4 : t448 = true
 ·subst c4
  have H1 : (some true) = some r := by rw [if_pos rfl] at H; exact H
  clear H
  have H := H1
  clear H1
  obtain rfl := Option.some.inj H
  go_enter Try.func4, Try.ntmps4
  go_wp2_with (first | ((with_reducible refine gate_callee (f := 15) rfl ?_); refine Yz 48 Try.func15 #[.slice A0 l0.length c0, .slice A1 l1.length c1] ?_; (with_reducible refine (laws_big.calls _ _ l0 _ _ l1 true _ (Yc HR0.out) HC0.out (Yc HR1.out) HC1.out A3.out).mono ?_); rintro e w' ⟨rfl, ⟨nd, rfl⟩⟩; refine ⟨_, rfl, ?_⟩))
  go_ret
  exact ⟨Q2, Q0⟩
 ·replace c4 := Bool.eq_false_iff.mpr c4
  subst c4
  have H1 : ((spec_DrawDistancesFrom.f k l0).bind fun bt449 => ((impl_DistancesFrom.f k bt449.1 bt449.2).bind fun bt453 => ((spec_DistancesFrom.f k bt449.1 bt449.2).bind fun bt457 => ((impl_ReachCount.f k bt449.1 bt449.2).bind fun bt461 => ((impl_AreEven.f k bt449.1 bt449.2).bind fun bt463 => ((spec_AreEven.f k bt449.1 bt449.2).bind fun bt465 => (if (bt453.2 != bt457.2) = true then (laws_FnReached.j0 k l1 bt449.1 bt449.2 bt453.1 bt453.2 bt461.1 bt463.1 bt463.2 true) else ((laws_uSame.f k bt453.1 bt457.1).bind fun t467 => (if t467 = true then (if (bt461.2 != bt453.2) = true then (laws_FnReached.j0 k l1 bt449.1 bt449.2 bt453.1 bt453.2 bt461.1 bt463.1 bt463.2 true) else (if (bt463.2 != bt465.2) = true then (laws_FnReached.j0 k l1 bt449.1 bt449.2 bt453.1 bt453.2 bt461.1 bt463.1 bt463.2 true) else (laws_FnReached.j0 k l1 bt449.1 bt449.2 bt453.1 bt453.2 bt461.1 bt463.1 bt463.2 (bt463.1 != bt465.1)))) else (laws_FnReached.j0 k l1 bt449.1 bt449.2 bt453.1 bt453.2 bt461.1 bt463.1 bt463.2 true)))))))))) = some r := by rw [if_neg (show ¬ (false = true) by decide)] at H; exact H
  clear H
  have H := H1
  clear H1
  replace H := Z35.mp H
  obtain ⟨⟨t449, t450⟩, A50, H⟩ := H
  replace H : ((impl_DistancesFrom.f k t449 t450).bind fun bt453 => ((spec_DistancesFrom.f k t449 t450).bind fun bt457 => ((impl_ReachCount.f k t449 t450).bind fun bt461 => ((impl_AreEven.f k t449 t450).bind fun bt463 => ((spec_AreEven.f k t449 t450).bind fun bt465 => (if (bt453.2 != bt457.2) = true then (laws_FnReached.j0 k l1 t449 t450 bt453.1 bt453.2 bt461.1 bt463.1 bt463.2 true) else ((laws_uSame.f k bt453.1 bt457.1).bind fun t467 => (if t467 = true then (if (bt461.2 != bt453.2) = true then (laws_FnReached.j0 k l1 t449 t450 bt453.1 bt453.2 bt461.1 bt463.1 bt463.2 true) else (if (bt463.2 != bt465.2) = true then (laws_FnReached.j0 k l1 t449 t450 bt453.1 bt453.2 bt461.1 bt463.1 bt463.2 true) else (laws_FnReached.j0 k l1 t449 t450 bt453.1 bt453.2 bt461.1 bt463.1 bt463.2 (bt463.1 != bt465.1)))) else (laws_FnReached.j0 k l1 t449 t450 bt453.1 bt453.2 bt461.1 bt463.1 bt463.2 true))))))))) = some r := H
  have A5 := Ya A50
  clear A50
  replace H := Z35.mp H
  obtain ⟨⟨t453, t454⟩, A60, H⟩ := H
  replace H : ((spec_DistancesFrom.f k t449 t450).bind fun bt457 => ((impl_ReachCount.f k t449 t450).bind fun bt461 => ((impl_AreEven.f k t449 t450).bind fun bt463 => ((spec_AreEven.f k t449 t450).bind fun bt465 => (if (t454 != bt457.2) = true then (laws_FnReached.j0 k l1 t449 t450 t453 t454 bt461.1 bt463.1 bt463.2 true) else ((laws_uSame.f k t453 bt457.1).bind fun t467 => (if t467 = true then (if (bt461.2 != t454) = true then (laws_FnReached.j0 k l1 t449 t450 t453 t454 bt461.1 bt463.1 bt463.2 true) else (if (bt463.2 != bt465.2) = true then (laws_FnReached.j0 k l1 t449 t450 t453 t454 bt461.1 bt463.1 bt463.2 true) else (laws_FnReached.j0 k l1 t449 t450 t453 t454 bt461.1 bt463.1 bt463.2 (bt463.1 != bt465.1)))) else (laws_FnReached.j0 k l1 t449 t450 t453 t454 bt461.1 bt463.1 bt463.2 true)))))))) = some r := H
  have A6 := Ya A60
  clear A60
  replace H := Z35.mp H
  obtain ⟨⟨t457, t458⟩, A70, H⟩ := H
  replace H : ((impl_ReachCount.f k t449 t450).bind fun bt461 => ((impl_AreEven.f k t449 t450).bind fun bt463 => ((spec_AreEven.f k t449 t450).bind fun bt465 => (if (t454 != t458) = true then (laws_FnReached.j0 k l1 t449 t450 t453 t454 bt461.1 bt463.1 bt463.2 true) else ((laws_uSame.f k t453 t457).bind fun t467 => (if t467 = true then (if (bt461.2 != t454) = true then (laws_FnReached.j0 k l1 t449 t450 t453 t454 bt461.1 bt463.1 bt463.2 true) else (if (bt463.2 != bt465.2) = true then (laws_FnReached.j0 k l1 t449 t450 t453 t454 bt461.1 bt463.1 bt463.2 true) else (laws_FnReached.j0 k l1 t449 t450 t453 t454 bt461.1 bt463.1 bt463.2 (bt463.1 != bt465.1)))) else (laws_FnReached.j0 k l1 t449 t450 t453 t454 bt461.1 bt463.1 bt463.2 true))))))) = some r := H
  have A7 := Ya A70
  clear A70
  replace H := Z35.mp H
  obtain ⟨⟨t461, t462⟩, A80, H⟩ := H
  replace H : ((impl_AreEven.f k t449 t450).bind fun bt463 => ((spec_AreEven.f k t449 t450).bind fun bt465 => (if (t454 != t458) = true then (laws_FnReached.j0 k l1 t449 t450 t453 t454 t461 bt463.1 bt463.2 true) else ((laws_uSame.f k t453 t457).bind fun t467 => (if t467 = true then (if (t462 != t454) = true then (laws_FnReached.j0 k l1 t449 t450 t453 t454 t461 bt463.1 bt463.2 true) else (if (bt463.2 != bt465.2) = true then (laws_FnReached.j0 k l1 t449 t450 t453 t454 t461 bt463.1 bt463.2 true) else (laws_FnReached.j0 k l1 t449 t450 t453 t454 t461 bt463.1 bt463.2 (bt463.1 != bt465.1)))) else (laws_FnReached.j0 k l1 t449 t450 t453 t454 t461 bt463.1 bt463.2 true)))))) = some r := H
  have A8 := Ya A80
  clear A80
  replace H := Z35.mp H
  obtain ⟨⟨t463, t464⟩, A90, H⟩ := H
  replace H : ((spec_AreEven.f k t449 t450).bind fun bt465 => (if (t454 != t458) = true then (laws_FnReached.j0 k l1 t449 t450 t453 t454 t461 t463 t464 true) else ((laws_uSame.f k t453 t457).bind fun t467 => (if t467 = true then (if (t462 != t454) = true then (laws_FnReached.j0 k l1 t449 t450 t453 t454 t461 t463 t464 true) else (if (t464 != bt465.2) = true then (laws_FnReached.j0 k l1 t449 t450 t453 t454 t461 t463 t464 true) else (laws_FnReached.j0 k l1 t449 t450 t453 t454 t461 t463 t464 (t463 != bt465.1)))) else (laws_FnReached.j0 k l1 t449 t450 t453 t454 t461 t463 t464 true))))) = some r := H
  have A9 := Ya A90
  clear A90
  replace H := Z35.mp H
  obtain ⟨⟨t465, t466⟩, A100, H⟩ := H
  replace H : (if (t454 != t458) = true then (laws_FnReached.j0 k l1 t449 t450 t453 t454 t461 t463 t464 true) else ((laws_uSame.f k t453 t457).bind fun t467 => (if t467 = true then (if (t462 != t454) = true then (laws_FnReached.j0 k l1 t449 t450 t453 t454 t461 t463 t464 true) else (if (t464 != t466) = true then (laws_FnReached.j0 k l1 t449 t450 t453 t454 t461 t463 t464 true) else (laws_FnReached.j0 k l1 t449 t450 t453 t454 t461 t463 t464 (t463 != t465)))) else (laws_FnReached.j0 k l1 t449 t450 t453 t454 t461 t463 t464 true)))) = some r := H
  have A10 := Ya A100
  clear A100
  have HC11 := Ya H
  clear H
  go_enter Try.func4, Try.ntmps4
  go_upto_region 9 with (first | ((with_reducible refine gate_callee (f := 15) rfl ?_); refine Yz 48 Try.func15 #[.slice A0 l0.length c0, .slice A1 l1.length c1] ?_; (with_reducible refine (laws_big.calls _ _ l0 _ _ l1 false _ (Yc HR0.out) HC0.out (Yc HR1.out) HC1.out A3.out).mono ?_); rintro e w' ⟨rfl, ⟨nd, rfl⟩⟩; refine ⟨_, rfl, ?_⟩) | ((with_reducible refine gate_callee (f := 16) rfl ?_); refine Yz 51 Try.func16 #[.slice A0 l0.length c0] ?_; (with_reducible refine (spec_DrawDistancesFrom.calls k _ _ l0 t449 t450 _ (Yc HR0.out) HC0.out A5.out).mono ?_); rintro e w12 ⟨v451, rfl, ho0, hb⟩; refine ⟨_, rfl, ?_⟩; have HO452 := Yl ho0; replace HB := Yh hb; (try clear hb ho0); obtain ⟨Ao13, co13, rfl⟩ := Z17 HO452.out) | ((with_reducible refine gate_callee (f := 17) rfl ?_); refine Yz 57 Try.func17 #[.int .i64 t449, .slice Ao13 t450.length co13] ?_; (with_reducible refine (impl_DistancesFrom.calls k t449 _ _ t450 t453 t454 _ (Yc (Kd.R_reads' HO452.out).2.2) ((Kd.R_reads' HO452.out).2.1) A6.out).mono ?_); rintro e w14 ⟨v455, rfl, ho0, hb⟩; refine ⟨_, rfl, ?_⟩; replace HO452 := Yw HO452 hb; have HO456 := Yl ho0; replace HB := Yh hb; (try clear hb ho0)) | ((with_reducible refine gate_callee (f := 18) rfl ?_); refine Yz 63 Try.func18 #[.int .i64 t449, .slice Ao13 t450.length co13] ?_; (with_reducible refine (spec_DistancesFrom.calls k t449 _ _ t450 t457 t458 _ (Yc (Kd.R_reads' HO452.out).2.2) ((Kd.R_reads' HO452.out).2.1) A7.out).mono ?_); rintro e w15 ⟨v459, rfl, ho0, hb⟩; refine ⟨_, rfl, ?_⟩; replace HO452 := Yw HO452 hb; have HO460 := Yl (Kd.R_new' ho0 (Z16 (Yr HO456.out))); replace HO456 := Ya (Kd.R_elder' (Yr HO456.out) (Kd.R_base ho0) hb); replace HB := Yh hb; (try clear hb ho0)) | ((with_reducible refine gate_callee (f := 19) rfl ?_); refine Yz 69 Try.func19 #[.int .i64 t449, .slice Ao13 t450.length co13] ?_; (with_reducible refine (impl_ReachCount.calls k t449 _ _ t450 t461 t462 _ (Yc (Kd.R_reads' HO452.out).2.2) ((Kd.R_reads' HO452.out).2.1) A8.out).mono ?_); rintro e w16 ⟨rfl, hb⟩; refine ⟨_, rfl, ?_⟩; replace HO452 := Yw HO452 hb; replace HO456 := Yw HO456 hb; replace HO460 := Yw HO460 hb; replace HB := Yh hb; (try clear hb)) | ((with_reducible refine gate_callee (f := 20) rfl ?_); refine Yz 75 Try.func20 #[.int .i64 t449, .slice Ao13 t450.length co13] ?_; (with_reducible refine (impl_AreEven.calls k t449 _ _ t450 t463 t464 _ (Yc (Kd.R_reads' HO452.out).2.2) ((Kd.R_reads' HO452.out).2.1) A9.out).mono ?_); rintro e w17 ⟨rfl, hb⟩; refine ⟨_, rfl, ?_⟩; replace HO452 := Yw HO452 hb; replace HO456 := Yw HO456 hb; replace HO460 := Yw HO460 hb; replace HB := Yh hb; (try clear hb)) | ((with_reducible refine gate_callee (f := 21) rfl ?_); refine Yz 81 Try.func21 #[.int .i64 t449, .slice Ao13 t450.length co13] ?_; (with_reducible refine (spec_AreEven.calls k t449 _ _ t450 t465 t466 _ (Yc (Kd.R_reads' HO452.out).2.2) ((Kd.R_reads' HO452.out).2.1) A10.out).mono ?_); rintro e w18 ⟨rfl, hb⟩; refine ⟨_, rfl, ?_⟩; replace HO452 := Yw HO452 hb; replace HO456 := Yw HO456 hb; replace HO460 := Yw HO460 hb; replace HB := Yh hb; (try clear hb)))
  (try simp only [Act.put, Z0, Z1, Z2])
  go_cut [107] (fun v107 wc => ∃ (kq : Nat) (x107_10 : Bool), v107 = .bool x107_10 ∧ Aside0 (laws_FnReached.j0 kq l1 t449 t450 t453 t454 t461 t463 t464 x107_10 = some r) ∧ Aside0 (kq ≤ k) ∧ Aside0 (Kd.R k45 45 wc w.heap.size (fun _ => True) (.slice Ao13 t450.length co13) t450) ∧ Aside0 (Kd.R (Kd.int .i64) 3 wc w.heap.size (fun _ => True) v455 t453) ∧ Aside0 (Below w.heap.size w wc))
  case first =>
   have H := HC11.out
   clear HC11
   by_cases c19 : (t454 != t458) = true
   ·rw [if_pos c19] at H
    have c19b0 : (t454 != t458) = true := c19
    (try (have c19b1 : decide (t454 = t458) = false := by simpa using c19))
    (try (have c19b2 : (t454 == t458) = false := by simpa using c19))
    (try (have c19b3 : ¬ (t454 = t458) := by simpa using c19))
    clear c19
    (first | rw [c19b0] | (simp only [i64_w, i32_w]; rw [c19b0]) | skip)
    have H' := Ya H
    clear H
    go_wp2
    go_meet
    case rel => exact ⟨_, (true), Q3, H', ⟨Q45⟩, ⟨Q37⟩, ⟨Yj HO456.out (fun _ hk => trivial)⟩, ⟨Q0⟩⟩
   ·rw [if_neg c19] at H
    have c19b0 : (t454 != t458) = false := by simpa using c19
    (try (have c19b1 : decide (t454 = t458) = true := by simpa using c19))
    (try (have c19b2 : (t454 == t458) = true := by simpa using c19))
    clear c19
    (first | rw [c19b0] | (simp only [i64_w, i32_w]; rw [c19b0]) | skip)
    replace H := Z35.mp H
    obtain ⟨t467, A200, H⟩ := H
    replace H : (if t467 = true then (if (t462 != t454) = true then (laws_FnReached.j0 k l1 t449 t450 t453 t454 t461 t463 t464 true) else (if (t464 != t466) = true then (laws_FnReached.j0 k l1 t449 t450 t453 t454 t461 t463 t464 true) else (laws_FnReached.j0 k l1 t449 t450 t453 t454 t461 t463 t464 (t463 != t465)))) else (laws_FnReached.j0 k l1 t449 t450 t453 t454 t461 t463 t464 true)) = some r := H
    have A20 := Ya A200
    clear A200
    by_cases c21 : t467 = true
    ·subst c21
     have H1 : (if (t462 != t454) = true then (laws_FnReached.j0 k l1 t449 t450 t453 t454 t461 t463 t464 true) else (if (t464 != t466) = true then (laws_FnReached.j0 k l1 t449 t450 t453 t454 t461 t463 t464 true) else (laws_FnReached.j0 k l1 t449 t450 t453 t454 t461 t463 t464 (t463 != t465)))) = some r := by rw [if_pos rfl] at H; exact H
     clear H
     have H := H1
     clear H1
     by_cases c22 : (t462 != t454) = true
     ·rw [if_pos c22] at H
      have c22b0 : (t462 != t454) = true := c22
      (try (have c22b1 : decide (t462 = t454) = false := by simpa using c22))
      (try (have c22b2 : (t462 == t454) = false := by simpa using c22))
      (try (have c22b3 : ¬ (t462 = t454) := by simpa using c22))
      clear c22
      have H' := Ya H
      clear H
      obtain ⟨Ao23, co23, rfl⟩ := Z17 HO456.out
      obtain ⟨Ao24, co24, rfl⟩ := Z17 HO460.out
      go_wp2_with (first | (go_at_call 22; (with_reducible refine (laws_uSame.calls k _ _ t453 _ _ t457 true _ (Yc (Kd.R_reads' HO456.out).2.2) ((Kd.R_reads' HO456.out).2.1) (Yc (Kd.R_reads' HO460.out).2.2) ((Kd.R_reads' HO460.out).2.1) A20.out).mono ?_); rintro e w' ⟨rfl, ⟨nd, rfl⟩⟩))
      go_meet
      case rel => exact ⟨_, (true), Q3, H', ⟨Q45⟩, ⟨Q37⟩, ⟨Yj HO456.out (fun _ hk => trivial)⟩, ⟨Q0⟩⟩
     ·rw [if_neg c22] at H
      have c22b0 : (t462 != t454) = false := by simpa using c22
      (try (have c22b1 : decide (t462 = t454) = true := by simpa using c22))
      (try (have c22b2 : (t462 == t454) = true := by simpa using c22))
      clear c22
      by_cases c25 : (t464 != t466) = true
      ·rw [if_pos c25] at H
       have c25b0 : (t464 != t466) = true := c25
       (try (have c25b1 : decide (t464 = t466) = false := by simpa using c25))
       (try (have c25b2 : (t464 == t466) = false := by simpa using c25))
       (try (have c25b3 : ¬ (t464 = t466) := by simpa using c25))
       clear c25
       have H' := Ya H
       clear H
       obtain ⟨Ao26, co26, rfl⟩ := Z17 HO456.out
       obtain ⟨Ao27, co27, rfl⟩ := Z17 HO460.out
       go_wp2_with (first | (go_at_call 22; (with_reducible refine (laws_uSame.calls k _ _ t453 _ _ t457 true _ (Yc (Kd.R_reads' HO456.out).2.2) ((Kd.R_reads' HO456.out).2.1) (Yc (Kd.R_reads' HO460.out).2.2) ((Kd.R_reads' HO460.out).2.1) A20.out).mono ?_); rintro e w' ⟨rfl, ⟨nd, rfl⟩⟩))
       go_meet
       case rel => exact ⟨_, (true), Q3, H', ⟨Q45⟩, ⟨Q37⟩, ⟨Yj HO456.out (fun _ hk => trivial)⟩, ⟨Q0⟩⟩
      ·rw [if_neg c25] at H
       have c25b0 : (t464 != t466) = false := by simpa using c25
       (try (have c25b1 : decide (t464 = t466) = true := by simpa using c25))
       (try (have c25b2 : (t464 == t466) = true := by simpa using c25))
       clear c25
       have H' := Ya H
       clear H
       obtain ⟨Ao28, co28, rfl⟩ := Z17 HO456.out
       obtain ⟨Ao29, co29, rfl⟩ := Z17 HO460.out
       go_wp2_with (first | (go_at_call 22; (with_reducible refine (laws_uSame.calls k _ _ t453 _ _ t457 true _ (Yc (Kd.R_reads' HO456.out).2.2) ((Kd.R_reads' HO456.out).2.1) (Yc (Kd.R_reads' HO460.out).2.2) ((Kd.R_reads' HO460.out).2.1) A20.out).mono ?_); rintro e w' ⟨rfl, ⟨nd, rfl⟩⟩))
       go_meet
       case rel => exact ⟨_, ((t463 != t465)), Q3, H', ⟨Q45⟩, ⟨Q37⟩, ⟨Yj HO456.out (fun _ hk => trivial)⟩, ⟨Q0⟩⟩
    ·replace c21 := Bool.eq_false_iff.mpr c21
     subst c21
     have H1 : (laws_FnReached.j0 k l1 t449 t450 t453 t454 t461 t463 t464 true) = some r := by rw [if_neg (show ¬ (false = true) by decide)] at H; exact H
     clear H
     have H := H1
     clear H1
     have H' := Ya H
     clear H
     obtain ⟨Ao30, co30, rfl⟩ := Z17 HO456.out
     obtain ⟨Ao31, co31, rfl⟩ := Z17 HO460.out
     go_wp2_with (first | (go_at_call 22; (with_reducible refine (laws_uSame.calls k _ _ t453 _ _ t457 false _ (Yc (Kd.R_reads' HO456.out).2.2) ((Kd.R_reads' HO456.out).2.1) (Yc (Kd.R_reads' HO460.out).2.2) ((Kd.R_reads' HO460.out).2.1) A20.out).mono ?_); rintro e w' ⟨rfl, ⟨nd, rfl⟩⟩))
     go_meet
     case rel => exact ⟨_, (true), Q3, H', ⟨Q45⟩, ⟨Q37⟩, ⟨Yj HO456.out (fun _ hk => trivial)⟩, ⟨Q0⟩⟩
  case rest => as_aux_lemma =>
   clear HC11
   try clear c1
   try clear c2
   try clear p2
   try clear c4
   try clear c15
   try clear c16
   try clear c17
   try clear c18
   try clear c19
   try clear c19b0
   try clear c19b1
   try clear c19b2
   try clear c20
   try clear c21
   try clear c22
   try clear c22b0
   try clear c22b1
   try clear c22b2
   try clear c25
   try clear c25b0
   try clear c25b1
   try clear c25b2
   obtain ⟨kq, x107_10, rfl, HA, HJ10, HO_6, HO_7, HB⟩ := hcut
   cases kq with
   | zero => exact absurd HA.out (by simp [laws_FnReached.j0])
   | succ kj10 =>
    have H := HA.out
    clear HA
    simp only [laws_FnReached.j0] at H
    by_cases c32 : x107_10 = true
    ·subst c32
     have H1 : (some false) = some r := by rw [if_pos rfl] at H; exact H
     clear H
     have H := H1
     clear H1
     obtain rfl := Option.some.inj H
     go_wp2
     go_ret
     exact ⟨Q2, Q0⟩
    ·replace c32 := Bool.eq_false_iff.mpr c32
     subst c32
     have H1 : (if t454 = true then (laws_FnReached.l0 kj10 l1 t449 t450 t453 t461 t463 t464 0 t453 (t453.length : Int) 0) else (laws_FnReached.j3 kj10 l1)) = some r := by rw [if_neg (show ¬ (false = true) by decide)] at H; exact H
     clear H
     have H := H1
     clear H1
     have HC33 := Ya H
     clear H
     go_upto_if 108 with (fail)
     go_cut [] (fun wc => ∃ (kq : Nat), Aside0 (laws_FnReached.j3 kq l1 = some r) ∧ Aside0 (kq ≤ kj10) ∧ Aside0 (Below w.heap.size w wc))
     case first =>
      have H := HC33.out
      clear HC33
      by_cases c34 : t454 = true
      ·subst c34
       have H1 : (laws_FnReached.l0 kj10 l1 t449 t450 t453 t461 t463 t464 0 t453 (t453.length : Int) 0) = some r := by rw [if_pos rfl] at H; exact H
       clear H
       have H := H1
       clear H1
       have H' := Ya H
       clear H
       obtain ⟨Ao35, co35, rfl⟩ := Z17 HO_7.out
       go_wp2
       go_loopg [17, 111] kj10 (fun kq v17 v111 w' => ∃ (x17_2 : Int) (x111_2 : Int), v17 = .int .i64 x17_2 ∧ v111 = .int .i64 x111_2 ∧ Aside0 (laws_FnReached.l0 kq l1 t449 t450 t453 t461 t463 t464 x17_2 t453 (t453.length : Int) x111_2 = some r) ∧ Aside0 (kq ≤ kj10) ∧ Aside0 (Kd.R k45 45 w' w.heap.size (fun _ => True) (.slice Ao13 t450.length co13) t450) ∧ Aside0 (Kd.R (Kd.int .i64) 3 w' w.heap.size (fun _ => True) (.slice Ao35 t453.length co35) t453) ∧ Aside0 (Kd.R (Kd.int .i64) 3 w' w.heap.size (fun _ => True) (.slice Ao35 t453.length co35) t453) ∧ Aside0 (Below w.heap.size w w'))
       case atStart => exact ⟨(0), (0), Q3, Q3, H', ⟨Nat.le_refl _⟩, ⟨Q38⟩, ⟨Q23⟩, ⟨Q23⟩, ⟨Q0⟩⟩
       case round => as_aux_lemma =>
        clear H'
        try clear c1
        try clear c2
        try clear p2
        try clear c3
        try clear c4
        try clear c15
        try clear c16
        try clear c17
        try clear c18
        try clear c19
        try clear c19b0
        try clear c19b1
        try clear c19b2
        try clear c20
        try clear c21
        try clear c22
        try clear c22b0
        try clear c22b1
        try clear c22b2
        try clear c25
        try clear c25b0
        try clear c25b1
        try clear c25b2
        try clear c32
        try clear c34
        try clear p2
        obtain ⟨x17_2, x111_2, rfl, rfl, HA, HK2, HO_6, HO_7, HO_109, HB⟩ := hrel
        cases gk with
        | zero => exact absurd HA.out (by simp [laws_FnReached.l0])
        | succ k2 =>
         have H := HA.out
         clear HA
         simp only [laws_FnReached.l0] at H
         by_cases c36 : x111_2 < (t453.length : Int)
         ·rw [if_pos c36] at H
          have c36b0 := Z37 c36
          clear c36
          (first | rw [c36b0] | (simp only [i64_w, i32_w]; rw [c36b0]) | skip)
          by_cases c37 : 0 ≤ x111_2
          ·rw [if_pos c37] at H
           have c37b0 := Z37 c37
           clear c37
           by_cases c38 : x111_2 < (t453.length : Int)
           ·rw [if_pos c38] at H
            have c38b0 := Z37 c38
            clear c38
            by_cases c39 : (rd t453 x111_2) < 0
            ·rw [if_pos c39] at H
             have c39b0 := Z37 c39
             clear c39
             have H' := Ya H
             clear H
             have p469 : 0 ≤ (x111_2 : Int) := Z29 Q1
             have q469 : x111_2 < (t453.length : Int) := Z29 Q1
             obtain ⟨ad469, e469, hx469_0⟩ := Kd.at_int (Kd.R_reads' HO_109.out).2.2 x111_2 p469 q469
             cases e469
             replace p469 := eq_true p469
             replace q469 := eq_true q469
             go_wp2
             go_roundg k2
             case measure => have := HJ10.out; have := HK2.out; omega
             case rel => exact ⟨(x17_2), (wrap64 (x111_2 + 1)), Q3, Q3, H', ⟨by have := HJ10.out; have := HK2.out; omega⟩, ⟨Q38⟩, ⟨Q23⟩, ⟨by (with_reducible repeat (first | apply Z9 | apply Z10 | apply Z11)); exact HO_109.out⟩, ⟨Q0⟩⟩
            ·rw [if_neg c39] at H
             have c39b0 := Z36 c39
             clear c39
             replace H := Z35.mp H
             obtain ⟨⟨t470, t471⟩, A400, H⟩ := H
             replace H : (if t471 = true then (laws_FnReached.l1 k2 l1 t449 t450 t453 t461 t463 t464 (wrap64 (x17_2 + 1)) (rd t453 x111_2) t470 t453 (t453.length : Int) x111_2 t450 (t450.length : Int) 0) else (some false)) = some r := H
             have A40 := Ya A400
             clear A400
             by_cases c41 : t471 = true
             ·subst c41
              have H1 : (laws_FnReached.l1 k2 l1 t449 t450 t453 t461 t463 t464 (wrap64 (x17_2 + 1)) (rd t453 x111_2) t470 t453 (t453.length : Int) x111_2 t450 (t450.length : Int) 0) = some r := by rw [if_pos rfl] at H; exact H
              clear H
              have H := H1
              clear H1
              have H' := Ya H
              clear H
              have p469 : 0 ≤ (x111_2 : Int) := Z29 Q1
              have q469 : x111_2 < (t453.length : Int) := Z29 Q1
              obtain ⟨ad469, e469, hx469_0⟩ := Kd.at_int (Kd.R_reads' HO_109.out).2.2 x111_2 p469 q469
              cases e469
              replace p469 := eq_true p469
              replace q469 := eq_true q469
              go_wp2_with (first | ((with_reducible refine gate_callee (f := 23) rfl ?_); refine Yz 123 Try.func23 #[.int .i64 t449, .int .i64 x111_2] ?_; (with_reducible refine (impl_PermutationAt.calls k2 t449 x111_2 t470 true _ A40.out).mono ?_); rintro e w42 ⟨v472, rfl, ho0, hb⟩; refine ⟨_, rfl, ?_⟩; replace HO_6 := Yw HO_6 hb; have HO473 := Yl (Kd.R_new' (Kd.R_new' ho0 (Z16 (Yr HO_7.out))) (Z16 (Yr HO_109.out))); replace HO_7 := Ya (Kd.R_elder' (Yr HO_7.out) (Kd.R_base ho0) hb); replace HO_109 := Ya (Kd.R_elder' (Yr HO_109.out) (Kd.R_base ho0) hb); replace HB := Yh hb; (try clear hb ho0)))
              go_loopg [130] k2 (fun kq v130 w' => ∃ (x130_3 : Int), v130 = .int .i64 x130_3 ∧ Aside0 (laws_FnReached.l1 kq l1 t449 t450 t453 t461 t463 t464 (wrap64 (x17_2 + 1)) (rd t453 x111_2) t470 t453 (t453.length : Int) x111_2 t450 (t450.length : Int) x130_3 = some r) ∧ Aside0 (kq ≤ k2) ∧ Aside0 (Kd.R k45 45 w' w.heap.size (fun _ => True) (.slice Ao13 t450.length co13) t450) ∧ Aside0 (Kd.R (Kd.int .i64) 3 w' w.heap.size (fun k_ => some k_ ≠ (v472 : Value).ownBlock) (.slice (some ad469) t453.length co35) t453) ∧ Aside0 (Kd.R (Kd.int .i64) 3 w' w.heap.size (fun k_ => some k_ ≠ ((.slice (some ad469) t453.length co35) : Value).ownBlock ∧ some k_ ≠ ((.slice (some ad469) t453.length co35) : Value).ownBlock) v472 t470) ∧ Aside0 (Kd.R (Kd.int .i64) 3 w' w.heap.size (fun k_ => some k_ ≠ (v472 : Value).ownBlock) (.slice (some ad469) t453.length co35) t453) ∧ Aside0 (Kd.R k45 45 w' w.heap.size (fun _ => True) (.slice Ao13 t450.length co13) t450) ∧ Aside0 (Below w.heap.size w w'))
              case atStart => exact ⟨(0), Q3, H', ⟨Nat.le_refl _⟩, ⟨Q38⟩, ⟨Yj HO_7.out (fun _ hk => hk.2)⟩, ⟨Yj HO473.out (fun _ hk => ⟨hk.1.2, hk.2⟩)⟩, ⟨Yj HO_109.out (fun _ hk => hk.2)⟩, ⟨Q38⟩, ⟨Q0⟩⟩
              case round => as_aux_lemma =>
               clear H'
               try clear c1
               try clear c2
               try clear p2
               try clear c3
               try clear c4
               try clear p4
               try clear q4
               try clear hx4
               try clear p6
               try clear c15
               try clear c16
               try clear c17
               try clear c18
               try clear c19
               try clear c19b0
               try clear c19b1
               try clear c19b2
               try clear c20
               try clear c21
               try clear c22
               try clear c22b0
               try clear c22b1
               try clear c22b2
               try clear c23
               try clear c25
               try clear c25b0
               try clear c25b1
               try clear c25b2
               try clear c32
               try clear c34
               try clear c36
               try clear c36b0
               try clear c37
               try clear c37b0
               try clear c38
               try clear c38b0
               try clear c39
               try clear c39b0
               try clear c41
               try clear hx469_0
               try clear p2
               try clear p469
               try clear q469
               obtain ⟨x130_3, rfl, HA, HK3, HO_6, HO_7, HO_20, HO_109, HO_128, HB⟩ := hrel
               cases gk with
               | zero => exact absurd HA.out (by simp [laws_FnReached.l1])
               | succ k3 =>
                have H := HA.out
                clear HA
                simp only [laws_FnReached.l1] at H
                by_cases c43 : x130_3 < (t450.length : Int)
                ·rw [if_pos c43] at H
                 have c43b0 := Z37 c43
                 clear c43
                 by_cases c44 : 0 ≤ x130_3
                 ·rw [if_pos c44] at H
                  have c44b0 := Z37 c44
                  clear c44
                  by_cases c45 : x130_3 < (t450.length : Int)
                  ·rw [if_pos c45] at H
                   have c45b0 := Z37 c45
                   clear c45
                   replace H := Z35.mp H
                   obtain ⟨⟨t476, t479⟩, A460, H⟩ := H
                   replace H : ((impl_PermutationRank.f k3 t476).bind fun bt480 => (if t479 = true then (if bt480.2 = true then (if 0 ≤ bt480.1 then (if bt480.1 < (t453.length : Int) then (if (rd t453 bt480.1) < 0 then (some false) else (if (rd t453 bt480.1) > (wrap64 ((rd t453 x111_2) + 1)) then (some false) else (laws_FnReached.l1 k3 l1 t449 t450 t453 t461 t463 t464 (wrap64 (x17_2 + 1)) (rd t453 x111_2) t470 t453 (t453.length : Int) x111_2 t450 (t450.length : Int) (wrap64 (x130_3 + 1))))) else (none)) else (none)) else (some false)) else (some false))) = some r := H
                   have A46 := Ya A460
                   clear A460
                   replace H := Z35.mp H
                   obtain ⟨⟨t480, t481⟩, A470, H⟩ := H
                   replace H : (if t479 = true then (if t481 = true then (if 0 ≤ t480 then (if t480 < (t453.length : Int) then (if (rd t453 t480) < 0 then (some false) else (if (rd t453 t480) > (wrap64 ((rd t453 x111_2) + 1)) then (some false) else (laws_FnReached.l1 k3 l1 t449 t450 t453 t461 t463 t464 (wrap64 (x17_2 + 1)) (rd t453 x111_2) t470 t453 (t453.length : Int) x111_2 t450 (t450.length : Int) (wrap64 (x130_3 + 1))))) else (none)) else (none)) else (some false)) else (some false)) = some r := H
                   have A47 := Ya A470
                   clear A470
                   by_cases c48 : t479 = true
                   ·subst c48
                    have H1 : (if t481 = true then (if 0 ≤ t480 then (if t480 < (t453.length : Int) then (if (rd t453 t480) < 0 then (some false) else (if (rd t453 t480) > (wrap64 ((rd t453 x111_2) + 1)) then (some false) else (laws_FnReached.l1 k3 l1 t449 t450 t453 t461 t463 t464 (wrap64 (x17_2 + 1)) (rd t453 x111_2) t470 t453 (t453.length : Int) x111_2 t450 (t450.length : Int) (wrap64 (x130_3 + 1))))) else (none)) else (none)) else (some false)) = some r := by rw [if_pos rfl] at H; exact H
                    clear H
                    have H := H1
                    clear H1
                    by_cases c49 : t481 = true
                    ·subst c49
                     have H1 : (if 0 ≤ t480 then (if t480 < (t453.length : Int) then (if (rd t453 t480) < 0 then (some false) else (if (rd t453 t480) > (wrap64 ((rd t453 x111_2) + 1)) then (some false) else (laws_FnReached.l1 k3 l1 t449 t450 t453 t461 t463 t464 (wrap64 (x17_2 + 1)) (rd t453 x111_2) t470 t453 (t453.length : Int) x111_2 t450 (t450.length : Int) (wrap64 (x130_3 + 1))))) else (none)) else (none)) = some r := by rw [if_pos rfl] at H; exact H
                     clear H
                     have H := H1
                     clear H1
                     by_cases c50 : 0 ≤ t480
                     ·rw [if_pos c50] at H
                      have c50b0 := Z37 c50
                      clear c50
                      by_cases c51 : t480 < (t453.length : Int)
                      ·rw [if_pos c51] at H
                       have c51b0 := Z37 c51
                       clear c51
                       by_cases c52 : (rd t453 t480) < 0
                       ·rw [if_pos c52] at H
                        have c52b0 := Z37 c52
                        clear c52
                        obtain rfl := Option.some.inj H
                        have p474 : 0 ≤ (x130_3 : Int) := Z29 Q1
                        have q474 : x130_3 < (t450.length : Int) := Z29 Q1
                        obtain ⟨ad474, e474, hx474_0, hx474_1, hx474_2⟩ := at_T45 (Kd.R_reads' HO_128.out).2.2 x130_3 p474 q474
                        cases e474
                        replace p474 := eq_true p474
                        replace q474 := eq_true q474
                        go_wp2_with (first | ((with_reducible refine gate_dst (N := 23) rfl ?_); (try (refine gate_guard (by rfl) ?_; dsimp only)); refine Yx 23 #[.int .i64 0, .int .i64 0, .int .i64 0] 45 ?_; intro gb475 hg w53 hbox hb; replace HO_6 := Ya (Z14 (Kd.R_elderB (Yr HO_6.out) gb475 (Nat.le_of_eq hg.symm)) hb); replace HO_7 := Yw HO_7 hb; replace HO_20 := Yw HO_20 hb; replace HO_109 := Yw HO_109 hb; replace HO_128 := Ya (Z14 (Kd.R_elderB (Yr HO_128.out) gb475 (Nat.le_of_eq hg.symm)) hb); have BK475 := Ya hbox; have GE475 := Yg hg; replace HB := Yh hb; clear hb hbox hg; have hcz54_0 : w53.cell? ⟨gb475, 0, none⟩ = some (.int .i64 0) := (Z22 BK475.out 0).trans rfl; have hcz54_1 : w53.cell? ⟨gb475, 1, none⟩ = some (.int .i64 0) := (Z22 BK475.out 1).trans rfl; have hcz54_2 : w53.cell? ⟨gb475, 2, none⟩ = some (.int .i64 0) := (Z22 BK475.out 2).trans rfl; have hfz54_0 := Z23 BK475.out 0; have hfz54_1 := Z23 BK475.out 1; have hfz54_2 := Z23 BK475.out 2; obtain ⟨Ao55, co55, rfl⟩ := Z17 HO_20.out) | ((with_reducible refine gate_callee (f := 24) rfl ?_); refine Yz 137 Try.func24 #[.slice Ao55 t470.length co55, .agg #[.int .i64 ((rd_T45 t450 x130_3).f0), .int .i64 ((rd_T45 t450 x130_3).f1), .int .i64 ((rd_T45 t450 x130_3).f2)]] ?_; (with_reducible refine (impl_ApplyMove.calls k3 _ _ t470 ((rd_T45 t450 x130_3).f0) ((rd_T45 t450 x130_3).f1) ((rd_T45 t450 x130_3).f2) t476 true _ ?side1 ((Kd.R_reads' HO_20.out).2.1) A46.out).mono ?_); (case side1 => refine (Kd.R_reads' (e := 3) (base := w.heap.size) (ok := fun k_ => (some k_ ≠ (.slice (some ad469) t453.length co35 : Value).ownBlock ∧ some k_ ≠ (.slice (some ad469) t453.length co35 : Value).ownBlock)) (n := t470.length) (c := co55) ?_).2.2; exact (Yj (Z13 (p := ⟨gb475, 2, none⟩) (Z13 (p := ⟨gb475, 1, none⟩) (Z13 (p := ⟨gb475, 0, none⟩) (Z15 HO_20.out BK475.out (by decide)) (fun _ hk => hk.2) (.int .i64 ((rd_T45 t450 x130_3).f0))) (fun _ hk => hk.2) (.int .i64 ((rd_T45 t450 x130_3).f1))) (fun _ hk => hk.2) (.int .i64 ((rd_T45 t450 x130_3).f2))) (fun _ h_ => h_.1))); rintro e w56 ⟨v477, rfl, ho0, hb⟩; refine ⟨_, rfl, ?_⟩; replace HO_6 := Ya (Z14 (Yj (Z13 (p := ⟨gb475, 2, none⟩) (Z13 (p := ⟨gb475, 1, none⟩) (Z13 (p := ⟨gb475, 0, none⟩) (Z12 HO_6.out (fun k_ hk => (⟨hk, hk.2⟩ : _ ∧ k_ ≠ gb475))) (fun _ hk => hk.2) (.int .i64 ((rd_T45 t450 x130_3).f0))) (fun _ hk => hk.2) (.int .i64 ((rd_T45 t450 x130_3).f1))) (fun _ hk => hk.2) (.int .i64 ((rd_T45 t450 x130_3).f2))) (fun _ h_ => h_.1)) hb); replace HO_128 := Ya (Z14 (Yj (Z13 (p := ⟨gb475, 2, none⟩) (Z13 (p := ⟨gb475, 1, none⟩) (Z13 (p := ⟨gb475, 0, none⟩) (Z12 HO_128.out (fun k_ hk => (⟨hk, hk.2⟩ : _ ∧ k_ ≠ gb475))) (fun _ hk => hk.2) (.int .i64 ((rd_T45 t450 x130_3).f0))) (fun _ hk => hk.2) (.int .i64 ((rd_T45 t450 x130_3).f1))) (fun _ hk => hk.2) (.int .i64 ((rd_T45 t450 x130_3).f2))) (fun _ h_ => h_.1)) hb); have HO478 := Yl (Kd.R_new' (Kd.R_new' (Kd.R_new' ho0 (Z16 (Yj (Z13 (p := ⟨gb475, 2, none⟩) (Z13 (p := ⟨gb475, 1, none⟩) (Z13 (p := ⟨gb475, 0, none⟩) (Z15 HO_7.out BK475.out (by decide)) (fun _ hk => hk.2) (.int .i64 ((rd_T45 t450 x130_3).f0))) (fun _ hk => hk.2) (.int .i64 ((rd_T45 t450 x130_3).f1))) (fun _ hk => hk.2) (.int .i64 ((rd_T45 t450 x130_3).f2))) (fun _ h_ => h_.1)))) (Z16 (Yj (Z13 (p := ⟨gb475, 2, none⟩) (Z13 (p := ⟨gb475, 1, none⟩) (Z13 (p := ⟨gb475, 0, none⟩) (Z15 HO_20.out BK475.out (by decide)) (fun _ hk => hk.2) (.int .i64 ((rd_T45 t450 x130_3).f0))) (fun _ hk => hk.2) (.int .i64 ((rd_T45 t450 x130_3).f1))) (fun _ hk => hk.2) (.int .i64 ((rd_T45 t450 x130_3).f2))) (fun _ h_ => h_.1)))) (Z16 (Yj (Z13 (p := ⟨gb475, 2, none⟩) (Z13 (p := ⟨gb475, 1, none⟩) (Z13 (p := ⟨gb475, 0, none⟩) (Z15 HO_109.out BK475.out (by decide)) (fun _ hk => hk.2) (.int .i64 ((rd_T45 t450 x130_3).f0))) (fun _ hk => hk.2) (.int .i64 ((rd_T45 t450 x130_3).f1))) (fun _ hk => hk.2) (.int .i64 ((rd_T45 t450 x130_3).f2))) (fun _ h_ => h_.1)))); replace HO_7 := Ya (Kd.R_elder' (Yj (Z13 (p := ⟨gb475, 2, none⟩) (Z13 (p := ⟨gb475, 1, none⟩) (Z13 (p := ⟨gb475, 0, none⟩) (Z15 HO_7.out BK475.out (by decide)) (fun _ hk => hk.2) (.int .i64 ((rd_T45 t450 x130_3).f0))) (fun _ hk => hk.2) (.int .i64 ((rd_T45 t450 x130_3).f1))) (fun _ hk => hk.2) (.int .i64 ((rd_T45 t450 x130_3).f2))) (fun _ h_ => h_.1)) (Kd.R_base ho0) hb); replace HO_20 := Ya (Kd.R_elder' (Yj (Z13 (p := ⟨gb475, 2, none⟩) (Z13 (p := ⟨gb475, 1, none⟩) (Z13 (p := ⟨gb475, 0, none⟩) (Z15 HO_20.out BK475.out (by decide)) (fun _ hk => hk.2) (.int .i64 ((rd_T45 t450 x130_3).f0))) (fun _ hk => hk.2) (.int .i64 ((rd_T45 t450 x130_3).f1))) (fun _ hk => hk.2) (.int .i64 ((rd_T45 t450 x130_3).f2))) (fun _ h_ => h_.1)) (Kd.R_base ho0) hb); replace HO_109 := Ya (Kd.R_elder' (Yj (Z13 (p := ⟨gb475, 2, none⟩) (Z13 (p := ⟨gb475, 1, none⟩) (Z13 (p := ⟨gb475, 0, none⟩) (Z15 HO_109.out BK475.out (by decide)) (fun _ hk => hk.2) (.int .i64 ((rd_T45 t450 x130_3).f0))) (fun _ hk => hk.2) (.int .i64 ((rd_T45 t450 x130_3).f1))) (fun _ hk => hk.2) (.int .i64 ((rd_T45 t450 x130_3).f2))) (fun _ h_ => h_.1)) (Kd.R_base ho0) hb); replace BK475 := Yb ⟨Yv3 BK475.out⟩ hb; replace HB := Yh hb; (try clear hb ho0); obtain ⟨Ao57, co57, rfl⟩ := Z17 HO478.out) | ((with_reducible refine gate_callee (f := 25) rfl ?_); refine Yz 142 Try.func25 #[.slice Ao57 t476.length co57] ?_; (with_reducible refine (impl_PermutationRank.calls k3 _ _ t476 t480 true _ (Yc (Kd.R_reads' HO478.out).2.2) ((Kd.R_reads' HO478.out).2.1) A47.out).mono ?_); rintro e w58 ⟨rfl, hb⟩; refine ⟨_, rfl, ?_⟩; replace HO_6 := Yw HO_6 hb; replace HO_7 := Yw HO_7 hb; replace HO_20 := Yw HO_20 hb; replace HO_109 := Yw HO_109 hb; replace HO_128 := Yw HO_128 hb; replace HO478 := Yw HO478 hb; replace BK475 := Yb BK475 hb; replace HB := Yh hb; (try clear hb); have p482 : 0 ≤ (t480 : Int) := Z29 Q1; have q482 : t480 < (t453.length : Int) := Z29 Q1; obtain ⟨ad482, e482, hx482_0⟩ := Kd.at_int (Kd.R_reads' HO_7.out).2.2 t480 p482 q482; obtain rfl : ad469 = ad482 := (by injection e482); replace p482 := eq_true p482; replace q482 := eq_true q482))
                        go_ret
                        exact ⟨Q2, Q0⟩
                       ·rw [if_neg c52] at H
                        have c52b0 := Z36 c52
                        clear c52
                        by_cases c59 : (rd t453 t480) > (wrap64 ((rd t453 x111_2) + 1))
                        ·rw [if_pos c59] at H
                         have c59b0 : decide ((wrap64 ((rd t453 x111_2) + 1)) < (rd t453 t480)) = true := Z37 c59
                         clear c59
                         obtain rfl := Option.some.inj H
                         have p474 : 0 ≤ (x130_3 : Int) := Z29 Q1
                         have q474 : x130_3 < (t450.length : Int) := Z29 Q1
                         obtain ⟨ad474, e474, hx474_0, hx474_1, hx474_2⟩ := at_T45 (Kd.R_reads' HO_128.out).2.2 x130_3 p474 q474
                         cases e474
                         replace p474 := eq_true p474
                         replace q474 := eq_true q474
                         go_wp2_with (first | ((with_reducible refine gate_dst (N := 23) rfl ?_); (try (refine gate_guard (by rfl) ?_; dsimp only)); refine Yx 23 #[.int .i64 0, .int .i64 0, .int .i64 0] 45 ?_; intro gb475 hg w60 hbox hb; replace HO_6 := Ya (Z14 (Kd.R_elderB (Yr HO_6.out) gb475 (Nat.le_of_eq hg.symm)) hb); replace HO_7 := Yw HO_7 hb; replace HO_20 := Yw HO_20 hb; replace HO_109 := Yw HO_109 hb; replace HO_128 := Ya (Z14 (Kd.R_elderB (Yr HO_128.out) gb475 (Nat.le_of_eq hg.symm)) hb); have BK475 := Ya hbox; have GE475 := Yg hg; replace HB := Yh hb; clear hb hbox hg; have hcz61_0 : w60.cell? ⟨gb475, 0, none⟩ = some (.int .i64 0) := (Z22 BK475.out 0).trans rfl; have hcz61_1 : w60.cell? ⟨gb475, 1, none⟩ = some (.int .i64 0) := (Z22 BK475.out 1).trans rfl; have hcz61_2 : w60.cell? ⟨gb475, 2, none⟩ = some (.int .i64 0) := (Z22 BK475.out 2).trans rfl; have hfz61_0 := Z23 BK475.out 0; have hfz61_1 := Z23 BK475.out 1; have hfz61_2 := Z23 BK475.out 2; obtain ⟨Ao62, co62, rfl⟩ := Z17 HO_20.out) | ((with_reducible refine gate_callee (f := 24) rfl ?_); refine Yz 137 Try.func24 #[.slice Ao62 t470.length co62, .agg #[.int .i64 ((rd_T45 t450 x130_3).f0), .int .i64 ((rd_T45 t450 x130_3).f1), .int .i64 ((rd_T45 t450 x130_3).f2)]] ?_; (with_reducible refine (impl_ApplyMove.calls k3 _ _ t470 ((rd_T45 t450 x130_3).f0) ((rd_T45 t450 x130_3).f1) ((rd_T45 t450 x130_3).f2) t476 true _ ?side1 ((Kd.R_reads' HO_20.out).2.1) A46.out).mono ?_); (case side1 => refine (Kd.R_reads' (e := 3) (base := w.heap.size) (ok := fun k_ => (some k_ ≠ (.slice (some ad469) t453.length co35 : Value).ownBlock ∧ some k_ ≠ (.slice (some ad469) t453.length co35 : Value).ownBlock)) (n := t470.length) (c := co62) ?_).2.2; exact (Yj (Z13 (p := ⟨gb475, 2, none⟩) (Z13 (p := ⟨gb475, 1, none⟩) (Z13 (p := ⟨gb475, 0, none⟩) (Z15 HO_20.out BK475.out (by decide)) (fun _ hk => hk.2) (.int .i64 ((rd_T45 t450 x130_3).f0))) (fun _ hk => hk.2) (.int .i64 ((rd_T45 t450 x130_3).f1))) (fun _ hk => hk.2) (.int .i64 ((rd_T45 t450 x130_3).f2))) (fun _ h_ => h_.1))); rintro e w63 ⟨v477, rfl, ho0, hb⟩; refine ⟨_, rfl, ?_⟩; replace HO_6 := Ya (Z14 (Yj (Z13 (p := ⟨gb475, 2, none⟩) (Z13 (p := ⟨gb475, 1, none⟩) (Z13 (p := ⟨gb475, 0, none⟩) (Z12 HO_6.out (fun k_ hk => (⟨hk, hk.2⟩ : _ ∧ k_ ≠ gb475))) (fun _ hk => hk.2) (.int .i64 ((rd_T45 t450 x130_3).f0))) (fun _ hk => hk.2) (.int .i64 ((rd_T45 t450 x130_3).f1))) (fun _ hk => hk.2) (.int .i64 ((rd_T45 t450 x130_3).f2))) (fun _ h_ => h_.1)) hb); replace HO_128 := Ya (Z14 (Yj (Z13 (p := ⟨gb475, 2, none⟩) (Z13 (p := ⟨gb475, 1, none⟩) (Z13 (p := ⟨gb475, 0, none⟩) (Z12 HO_128.out (fun k_ hk => (⟨hk, hk.2⟩ : _ ∧ k_ ≠ gb475))) (fun _ hk => hk.2) (.int .i64 ((rd_T45 t450 x130_3).f0))) (fun _ hk => hk.2) (.int .i64 ((rd_T45 t450 x130_3).f1))) (fun _ hk => hk.2) (.int .i64 ((rd_T45 t450 x130_3).f2))) (fun _ h_ => h_.1)) hb); have HO478 := Yl (Kd.R_new' (Kd.R_new' (Kd.R_new' ho0 (Z16 (Yj (Z13 (p := ⟨gb475, 2, none⟩) (Z13 (p := ⟨gb475, 1, none⟩) (Z13 (p := ⟨gb475, 0, none⟩) (Z15 HO_7.out BK475.out (by decide)) (fun _ hk => hk.2) (.int .i64 ((rd_T45 t450 x130_3).f0))) (fun _ hk => hk.2) (.int .i64 ((rd_T45 t450 x130_3).f1))) (fun _ hk => hk.2) (.int .i64 ((rd_T45 t450 x130_3).f2))) (fun _ h_ => h_.1)))) (Z16 (Yj (Z13 (p := ⟨gb475, 2, none⟩) (Z13 (p := ⟨gb475, 1, none⟩) (Z13 (p := ⟨gb475, 0, none⟩) (Z15 HO_20.out BK475.out (by decide)) (fun _ hk => hk.2) (.int .i64 ((rd_T45 t450 x130_3).f0))) (fun _ hk => hk.2) (.int .i64 ((rd_T45 t450 x130_3).f1))) (fun _ hk => hk.2) (.int .i64 ((rd_T45 t450 x130_3).f2))) (fun _ h_ => h_.1)))) (Z16 (Yj (Z13 (p := ⟨gb475, 2, none⟩) (Z13 (p := ⟨gb475, 1, none⟩) (Z13 (p := ⟨gb475, 0, none⟩) (Z15 HO_109.out BK475.out (by decide)) (fun _ hk => hk.2) (.int .i64 ((rd_T45 t450 x130_3).f0))) (fun _ hk => hk.2) (.int .i64 ((rd_T45 t450 x130_3).f1))) (fun _ hk => hk.2) (.int .i64 ((rd_T45 t450 x130_3).f2))) (fun _ h_ => h_.1)))); replace HO_7 := Ya (Kd.R_elder' (Yj (Z13 (p := ⟨gb475, 2, none⟩) (Z13 (p := ⟨gb475, 1, none⟩) (Z13 (p := ⟨gb475, 0, none⟩) (Z15 HO_7.out BK475.out (by decide)) (fun _ hk => hk.2) (.int .i64 ((rd_T45 t450 x130_3).f0))) (fun _ hk => hk.2) (.int .i64 ((rd_T45 t450 x130_3).f1))) (fun _ hk => hk.2) (.int .i64 ((rd_T45 t450 x130_3).f2))) (fun _ h_ => h_.1)) (Kd.R_base ho0) hb); replace HO_20 := Ya (Kd.R_elder' (Yj (Z13 (p := ⟨gb475, 2, none⟩) (Z13 (p := ⟨gb475, 1, none⟩) (Z13 (p := ⟨gb475, 0, none⟩) (Z15 HO_20.out BK475.out (by decide)) (fun _ hk => hk.2) (.int .i64 ((rd_T45 t450 x130_3).f0))) (fun _ hk => hk.2) (.int .i64 ((rd_T45 t450 x130_3).f1))) (fun _ hk => hk.2) (.int .i64 ((rd_T45 t450 x130_3).f2))) (fun _ h_ => h_.1)) (Kd.R_base ho0) hb); replace HO_109 := Ya (Kd.R_elder' (Yj (Z13 (p := ⟨gb475, 2, none⟩) (Z13 (p := ⟨gb475, 1, none⟩) (Z13 (p := ⟨gb475, 0, none⟩) (Z15 HO_109.out BK475.out (by decide)) (fun _ hk => hk.2) (.int .i64 ((rd_T45 t450 x130_3).f0))) (fun _ hk => hk.2) (.int .i64 ((rd_T45 t450 x130_3).f1))) (fun _ hk => hk.2) (.int .i64 ((rd_T45 t450 x130_3).f2))) (fun _ h_ => h_.1)) (Kd.R_base ho0) hb); replace BK475 := Yb ⟨Yv3 BK475.out⟩ hb; replace HB := Yh hb; (try clear hb ho0); obtain ⟨Ao64, co64, rfl⟩ := Z17 HO478.out) | ((with_reducible refine gate_callee (f := 25) rfl ?_); refine Yz 142 Try.func25 #[.slice Ao64 t476.length co64] ?_; (with_reducible refine (impl_PermutationRank.calls k3 _ _ t476 t480 true _ (Yc (Kd.R_reads' HO478.out).2.2) ((Kd.R_reads' HO478.out).2.1) A47.out).mono ?_); rintro e w65 ⟨rfl, hb⟩; refine ⟨_, rfl, ?_⟩; replace HO_6 := Yw HO_6 hb; replace HO_7 := Yw HO_7 hb; replace HO_20 := Yw HO_20 hb; replace HO_109 := Yw HO_109 hb; replace HO_128 := Yw HO_128 hb; replace HO478 := Yw HO478 hb; replace BK475 := Yb BK475 hb; replace HB := Yh hb; (try clear hb); have p482 : 0 ≤ (t480 : Int) := Z29 Q1; have q482 : t480 < (t453.length : Int) := Z29 Q1; obtain ⟨ad482, e482, hx482_0⟩ := Kd.at_int (Kd.R_reads' HO_7.out).2.2 t480 p482 q482; obtain rfl : ad469 = ad482 := (by injection e482); replace p482 := eq_true p482; replace q482 := eq_true q482; have p483 : 0 ≤ (t480 : Int) := Z29 Q1; have q483 : t480 < (t453.length : Int) := Z29 Q1; obtain ⟨ad483, e483, hx483_0⟩ := Kd.at_int (Kd.R_reads' HO_7.out).2.2 t480 p483 q483; obtain rfl : ad469 = ad483 := (by injection e483); replace p483 := eq_true p483; replace q483 := eq_true q483))
                         go_ret
                         exact ⟨Q2, Q0⟩
                        ·rw [if_neg c59] at H
                         have c59b0 : decide ((wrap64 ((rd t453 x111_2) + 1)) < (rd t453 t480)) = false := Z36 c59
                         clear c59
                         have H' := Ya H
                         clear H
                         have p474 : 0 ≤ (x130_3 : Int) := Z29 Q1
                         have q474 : x130_3 < (t450.length : Int) := Z29 Q1
                         obtain ⟨ad474, e474, hx474_0, hx474_1, hx474_2⟩ := at_T45 (Kd.R_reads' HO_128.out).2.2 x130_3 p474 q474
                         cases e474
                         replace p474 := eq_true p474
                         replace q474 := eq_true q474
                         go_wp2_with (first | ((with_reducible refine gate_dst (N := 23) rfl ?_); (try (refine gate_guard (by rfl) ?_; dsimp only)); refine Yx 23 #[.int .i64 0, .int .i64 0, .int .i64 0] 45 ?_; intro gb475 hg w66 hbox hb; replace HO_6 := Ya (Z14 (Kd.R_elderB (Yr HO_6.out) gb475 (Nat.le_of_eq hg.symm)) hb); replace HO_7 := Yw HO_7 hb; replace HO_20 := Yw HO_20 hb; replace HO_109 := Yw HO_109 hb; replace HO_128 := Ya (Z14 (Kd.R_elderB (Yr HO_128.out) gb475 (Nat.le_of_eq hg.symm)) hb); have BK475 := Ya hbox; have GE475 := Yg hg; replace HB := Yh hb; clear hb hbox hg; have hcz67_0 : w66.cell? ⟨gb475, 0, none⟩ = some (.int .i64 0) := (Z22 BK475.out 0).trans rfl; have hcz67_1 : w66.cell? ⟨gb475, 1, none⟩ = some (.int .i64 0) := (Z22 BK475.out 1).trans rfl; have hcz67_2 : w66.cell? ⟨gb475, 2, none⟩ = some (.int .i64 0) := (Z22 BK475.out 2).trans rfl; have hfz67_0 := Z23 BK475.out 0; have hfz67_1 := Z23 BK475.out 1; have hfz67_2 := Z23 BK475.out 2; obtain ⟨Ao68, co68, rfl⟩ := Z17 HO_20.out) | ((with_reducible refine gate_callee (f := 24) rfl ?_); refine Yz 137 Try.func24 #[.slice Ao68 t470.length co68, .agg #[.int .i64 ((rd_T45 t450 x130_3).f0), .int .i64 ((rd_T45 t450 x130_3).f1), .int .i64 ((rd_T45 t450 x130_3).f2)]] ?_; (with_reducible refine (impl_ApplyMove.calls k3 _ _ t470 ((rd_T45 t450 x130_3).f0) ((rd_T45 t450 x130_3).f1) ((rd_T45 t450 x130_3).f2) t476 true _ ?side1 ((Kd.R_reads' HO_20.out).2.1) A46.out).mono ?_); (case side1 => refine (Kd.R_reads' (e := 3) (base := w.heap.size) (ok := fun k_ => (some k_ ≠ (.slice (some ad469) t453.length co35 : Value).ownBlock ∧ some k_ ≠ (.slice (some ad469) t453.length co35 : Value).ownBlock)) (n := t470.length) (c := co68) ?_).2.2; exact (Yj (Z13 (p := ⟨gb475, 2, none⟩) (Z13 (p := ⟨gb475, 1, none⟩) (Z13 (p := ⟨gb475, 0, none⟩) (Z15 HO_20.out BK475.out (by decide)) (fun _ hk => hk.2) (.int .i64 ((rd_T45 t450 x130_3).f0))) (fun _ hk => hk.2) (.int .i64 ((rd_T45 t450 x130_3).f1))) (fun _ hk => hk.2) (.int .i64 ((rd_T45 t450 x130_3).f2))) (fun _ h_ => h_.1))); rintro e w69 ⟨v477, rfl, ho0, hb⟩; refine ⟨_, rfl, ?_⟩; replace HO_6 := Ya (Z14 (Yj (Z13 (p := ⟨gb475, 2, none⟩) (Z13 (p := ⟨gb475, 1, none⟩) (Z13 (p := ⟨gb475, 0, none⟩) (Z12 HO_6.out (fun k_ hk => (⟨hk, hk.2⟩ : _ ∧ k_ ≠ gb475))) (fun _ hk => hk.2) (.int .i64 ((rd_T45 t450 x130_3).f0))) (fun _ hk => hk.2) (.int .i64 ((rd_T45 t450 x130_3).f1))) (fun _ hk => hk.2) (.int .i64 ((rd_T45 t450 x130_3).f2))) (fun _ h_ => h_.1)) hb); replace HO_128 := Ya (Z14 (Yj (Z13 (p := ⟨gb475, 2, none⟩) (Z13 (p := ⟨gb475, 1, none⟩) (Z13 (p := ⟨gb475, 0, none⟩) (Z12 HO_128.out (fun k_ hk => (⟨hk, hk.2⟩ : _ ∧ k_ ≠ gb475))) (fun _ hk => hk.2) (.int .i64 ((rd_T45 t450 x130_3).f0))) (fun _ hk => hk.2) (.int .i64 ((rd_T45 t450 x130_3).f1))) (fun _ hk => hk.2) (.int .i64 ((rd_T45 t450 x130_3).f2))) (fun _ h_ => h_.1)) hb); have HO478 := Yl (Kd.R_new' (Kd.R_new' (Kd.R_new' ho0 (Z16 (Yj (Z13 (p := ⟨gb475, 2, none⟩) (Z13 (p := ⟨gb475, 1, none⟩) (Z13 (p := ⟨gb475, 0, none⟩) (Z15 HO_7.out BK475.out (by decide)) (fun _ hk => hk.2) (.int .i64 ((rd_T45 t450 x130_3).f0))) (fun _ hk => hk.2) (.int .i64 ((rd_T45 t450 x130_3).f1))) (fun _ hk => hk.2) (.int .i64 ((rd_T45 t450 x130_3).f2))) (fun _ h_ => h_.1)))) (Z16 (Yj (Z13 (p := ⟨gb475, 2, none⟩) (Z13 (p := ⟨gb475, 1, none⟩) (Z13 (p := ⟨gb475, 0, none⟩) (Z15 HO_20.out BK475.out (by decide)) (fun _ hk => hk.2) (.int .i64 ((rd_T45 t450 x130_3).f0))) (fun _ hk => hk.2) (.int .i64 ((rd_T45 t450 x130_3).f1))) (fun _ hk => hk.2) (.int .i64 ((rd_T45 t450 x130_3).f2))) (fun _ h_ => h_.1)))) (Z16 (Yj (Z13 (p := ⟨gb475, 2, none⟩) (Z13 (p := ⟨gb475, 1, none⟩) (Z13 (p := ⟨gb475, 0, none⟩) (Z15 HO_109.out BK475.out (by decide)) (fun _ hk => hk.2) (.int .i64 ((rd_T45 t450 x130_3).f0))) (fun _ hk => hk.2) (.int .i64 ((rd_T45 t450 x130_3).f1))) (fun _ hk => hk.2) (.int .i64 ((rd_T45 t450 x130_3).f2))) (fun _ h_ => h_.1)))); replace HO_7 := Ya (Kd.R_elder' (Yj (Z13 (p := ⟨gb475, 2, none⟩) (Z13 (p := ⟨gb475, 1, none⟩) (Z13 (p := ⟨gb475, 0, none⟩) (Z15 HO_7.out BK475.out (by decide)) (fun _ hk => hk.2) (.int .i64 ((rd_T45 t450 x130_3).f0))) (fun _ hk => hk.2) (.int .i64 ((rd_T45 t450 x130_3).f1))) (fun _ hk => hk.2) (.int .i64 ((rd_T45 t450 x130_3).f2))) (fun _ h_ => h_.1)) (Kd.R_base ho0) hb); replace HO_20 := Ya (Kd.R_elder' (Yj (Z13 (p := ⟨gb475, 2, none⟩) (Z13 (p := ⟨gb475, 1, none⟩) (Z13 (p := ⟨gb475, 0, none⟩) (Z15 HO_20.out BK475.out (by decide)) (fun _ hk => hk.2) (.int .i64 ((rd_T45 t450 x130_3).f0))) (fun _ hk => hk.2) (.int .i64 ((rd_T45 t450 x130_3).f1))) (fun _ hk => hk.2) (.int .i64 ((rd_T45 t450 x130_3).f2))) (fun _ h_ => h_.1)) (Kd.R_base ho0) hb); replace HO_109 := Ya (Kd.R_elder' (Yj (Z13 (p := ⟨gb475, 2, none⟩) (Z13 (p := ⟨gb475, 1, none⟩) (Z13 (p := ⟨gb475, 0, none⟩) (Z15 HO_109.out BK475.out (by decide)) (fun _ hk => hk.2) (.int .i64 ((rd_T45 t450 x130_3).f0))) (fun _ hk => hk.2) (.int .i64 ((rd_T45 t450 x130_3).f1))) (fun _ hk => hk.2) (.int .i64 ((rd_T45 t450 x130_3).f2))) (fun _ h_ => h_.1)) (Kd.R_base ho0) hb); replace BK475 := Yb ⟨Yv3 BK475.out⟩ hb; replace HB := Yh hb; (try clear hb ho0); obtain ⟨Ao70, co70, rfl⟩ := Z17 HO478.out) | ((with_reducible refine gate_callee (f := 25) rfl ?_); refine Yz 142 Try.func25 #[.slice Ao70 t476.length co70] ?_; (with_reducible refine (impl_PermutationRank.calls k3 _ _ t476 t480 true _ (Yc (Kd.R_reads' HO478.out).2.2) ((Kd.R_reads' HO478.out).2.1) A47.out).mono ?_); rintro e w71 ⟨rfl, hb⟩; refine ⟨_, rfl, ?_⟩; replace HO_6 := Yw HO_6 hb; replace HO_7 := Yw HO_7 hb; replace HO_20 := Yw HO_20 hb; replace HO_109 := Yw HO_109 hb; replace HO_128 := Yw HO_128 hb; replace HO478 := Yw HO478 hb; replace BK475 := Yb BK475 hb; replace HB := Yh hb; (try clear hb); have p482 : 0 ≤ (t480 : Int) := Z29 Q1; have q482 : t480 < (t453.length : Int) := Z29 Q1; obtain ⟨ad482, e482, hx482_0⟩ := Kd.at_int (Kd.R_reads' HO_7.out).2.2 t480 p482 q482; obtain rfl : ad469 = ad482 := (by injection e482); replace p482 := eq_true p482; replace q482 := eq_true q482; have p483 : 0 ≤ (t480 : Int) := Z29 Q1; have q483 : t480 < (t453.length : Int) := Z29 Q1; obtain ⟨ad483, e483, hx483_0⟩ := Kd.at_int (Kd.R_reads' HO_7.out).2.2 t480 p483 q483; obtain rfl : ad469 = ad483 := (by injection e483); replace p483 := eq_true p483; replace q483 := eq_true q483))
                         go_roundg k3
                         case measure => have := HJ10.out; have := HK2.out; have := HK3.out; omega
                         case rel => exact ⟨(wrap64 (x130_3 + 1)), Q3, H', ⟨by have := HJ10.out; have := HK2.out; have := HK3.out; omega⟩, ⟨Yj HO_6.out (fun _ hk => trivial)⟩, ⟨Yj HO_7.out (fun _ hk => hk.1)⟩, ⟨Yj HO_20.out (fun _ hk => ⟨hk.1.1, hk.1.2⟩)⟩, ⟨Yj HO_109.out (fun _ hk => hk.1)⟩, ⟨Yj HO_128.out (fun _ hk => trivial)⟩, ⟨Q0⟩⟩
                      ·rw [if_neg c51] at H
                       exact absurd H (by simp)
                     ·rw [if_neg c50] at H
                      exact absurd H (by simp)
                    ·replace c49 := Bool.eq_false_iff.mpr c49
                     subst c49
                     have H1 : (some false) = some r := by rw [if_neg (show ¬ (false = true) by decide)] at H; exact H
                     clear H
                     have H := H1
                     clear H1
                     obtain rfl := Option.some.inj H
                     have p474 : 0 ≤ (x130_3 : Int) := Z29 Q1
                     have q474 : x130_3 < (t450.length : Int) := Z29 Q1
                     obtain ⟨ad474, e474, hx474_0, hx474_1, hx474_2⟩ := at_T45 (Kd.R_reads' HO_128.out).2.2 x130_3 p474 q474
                     cases e474
                     replace p474 := eq_true p474
                     replace q474 := eq_true q474
                     go_wp2_with (first | ((with_reducible refine gate_dst (N := 23) rfl ?_); (try (refine gate_guard (by rfl) ?_; dsimp only)); refine Yx 23 #[.int .i64 0, .int .i64 0, .int .i64 0] 45 ?_; intro gb475 hg w72 hbox hb; replace HO_6 := Ya (Z14 (Kd.R_elderB (Yr HO_6.out) gb475 (Nat.le_of_eq hg.symm)) hb); replace HO_7 := Yw HO_7 hb; replace HO_20 := Yw HO_20 hb; replace HO_109 := Yw HO_109 hb; replace HO_128 := Ya (Z14 (Kd.R_elderB (Yr HO_128.out) gb475 (Nat.le_of_eq hg.symm)) hb); have BK475 := Ya hbox; have GE475 := Yg hg; replace HB := Yh hb; clear hb hbox hg; have hcz73_0 : w72.cell? ⟨gb475, 0, none⟩ = some (.int .i64 0) := (Z22 BK475.out 0).trans rfl; have hcz73_1 : w72.cell? ⟨gb475, 1, none⟩ = some (.int .i64 0) := (Z22 BK475.out 1).trans rfl; have hcz73_2 : w72.cell? ⟨gb475, 2, none⟩ = some (.int .i64 0) := (Z22 BK475.out 2).trans rfl; have hfz73_0 := Z23 BK475.out 0; have hfz73_1 := Z23 BK475.out 1; have hfz73_2 := Z23 BK475.out 2; obtain ⟨Ao74, co74, rfl⟩ := Z17 HO_20.out) | ((with_reducible refine gate_callee (f := 24) rfl ?_); refine Yz 137 Try.func24 #[.slice Ao74 t470.length co74, .agg #[.int .i64 ((rd_T45 t450 x130_3).f0), .int .i64 ((rd_T45 t450 x130_3).f1), .int .i64 ((rd_T45 t450 x130_3).f2)]] ?_; (with_reducible refine (impl_ApplyMove.calls k3 _ _ t470 ((rd_T45 t450 x130_3).f0) ((rd_T45 t450 x130_3).f1) ((rd_T45 t450 x130_3).f2) t476 true _ ?side1 ((Kd.R_reads' HO_20.out).2.1) A46.out).mono ?_); (case side1 => refine (Kd.R_reads' (e := 3) (base := w.heap.size) (ok := fun k_ => (some k_ ≠ (.slice (some ad469) t453.length co35 : Value).ownBlock ∧ some k_ ≠ (.slice (some ad469) t453.length co35 : Value).ownBlock)) (n := t470.length) (c := co74) ?_).2.2; exact (Yj (Z13 (p := ⟨gb475, 2, none⟩) (Z13 (p := ⟨gb475, 1, none⟩) (Z13 (p := ⟨gb475, 0, none⟩) (Z15 HO_20.out BK475.out (by decide)) (fun _ hk => hk.2) (.int .i64 ((rd_T45 t450 x130_3).f0))) (fun _ hk => hk.2) (.int .i64 ((rd_T45 t450 x130_3).f1))) (fun _ hk => hk.2) (.int .i64 ((rd_T45 t450 x130_3).f2))) (fun _ h_ => h_.1))); rintro e w75 ⟨v477, rfl, ho0, hb⟩; refine ⟨_, rfl, ?_⟩; replace HO_6 := Ya (Z14 (Yj (Z13 (p := ⟨gb475, 2, none⟩) (Z13 (p := ⟨gb475, 1, none⟩) (Z13 (p := ⟨gb475, 0, none⟩) (Z12 HO_6.out (fun k_ hk => (⟨hk, hk.2⟩ : _ ∧ k_ ≠ gb475))) (fun _ hk => hk.2) (.int .i64 ((rd_T45 t450 x130_3).f0))) (fun _ hk => hk.2) (.int .i64 ((rd_T45 t450 x130_3).f1))) (fun _ hk => hk.2) (.int .i64 ((rd_T45 t450 x130_3).f2))) (fun _ h_ => h_.1)) hb); replace HO_128 := Ya (Z14 (Yj (Z13 (p := ⟨gb475, 2, none⟩) (Z13 (p := ⟨gb475, 1, none⟩) (Z13 (p := ⟨gb475, 0, none⟩) (Z12 HO_128.out (fun k_ hk => (⟨hk, hk.2⟩ : _ ∧ k_ ≠ gb475))) (fun _ hk => hk.2) (.int .i64 ((rd_T45 t450 x130_3).f0))) (fun _ hk => hk.2) (.int .i64 ((rd_T45 t450 x130_3).f1))) (fun _ hk => hk.2) (.int .i64 ((rd_T45 t450 x130_3).f2))) (fun _ h_ => h_.1)) hb); have HO478 := Yl (Kd.R_new' (Kd.R_new' (Kd.R_new' ho0 (Z16 (Yj (Z13 (p := ⟨gb475, 2, none⟩) (Z13 (p := ⟨gb475, 1, none⟩) (Z13 (p := ⟨gb475, 0, none⟩) (Z15 HO_7.out BK475.out (by decide)) (fun _ hk => hk.2) (.int .i64 ((rd_T45 t450 x130_3).f0))) (fun _ hk => hk.2) (.int .i64 ((rd_T45 t450 x130_3).f1))) (fun _ hk => hk.2) (.int .i64 ((rd_T45 t450 x130_3).f2))) (fun _ h_ => h_.1)))) (Z16 (Yj (Z13 (p := ⟨gb475, 2, none⟩) (Z13 (p := ⟨gb475, 1, none⟩) (Z13 (p := ⟨gb475, 0, none⟩) (Z15 HO_20.out BK475.out (by decide)) (fun _ hk => hk.2) (.int .i64 ((rd_T45 t450 x130_3).f0))) (fun _ hk => hk.2) (.int .i64 ((rd_T45 t450 x130_3).f1))) (fun _ hk => hk.2) (.int .i64 ((rd_T45 t450 x130_3).f2))) (fun _ h_ => h_.1)))) (Z16 (Yj (Z13 (p := ⟨gb475, 2, none⟩) (Z13 (p := ⟨gb475, 1, none⟩) (Z13 (p := ⟨gb475, 0, none⟩) (Z15 HO_109.out BK475.out (by decide)) (fun _ hk => hk.2) (.int .i64 ((rd_T45 t450 x130_3).f0))) (fun _ hk => hk.2) (.int .i64 ((rd_T45 t450 x130_3).f1))) (fun _ hk => hk.2) (.int .i64 ((rd_T45 t450 x130_3).f2))) (fun _ h_ => h_.1)))); replace HO_7 := Ya (Kd.R_elder' (Yj (Z13 (p := ⟨gb475, 2, none⟩) (Z13 (p := ⟨gb475, 1, none⟩) (Z13 (p := ⟨gb475, 0, none⟩) (Z15 HO_7.out BK475.out (by decide)) (fun _ hk => hk.2) (.int .i64 ((rd_T45 t450 x130_3).f0))) (fun _ hk => hk.2) (.int .i64 ((rd_T45 t450 x130_3).f1))) (fun _ hk => hk.2) (.int .i64 ((rd_T45 t450 x130_3).f2))) (fun _ h_ => h_.1)) (Kd.R_base ho0) hb); replace HO_20 := Ya (Kd.R_elder' (Yj (Z13 (p := ⟨gb475, 2, none⟩) (Z13 (p := ⟨gb475, 1, none⟩) (Z13 (p := ⟨gb475, 0, none⟩) (Z15 HO_20.out BK475.out (by decide)) (fun _ hk => hk.2) (.int .i64 ((rd_T45 t450 x130_3).f0))) (fun _ hk => hk.2) (.int .i64 ((rd_T45 t450 x130_3).f1))) (fun _ hk => hk.2) (.int .i64 ((rd_T45 t450 x130_3).f2))) (fun _ h_ => h_.1)) (Kd.R_base ho0) hb); replace HO_109 := Ya (Kd.R_elder' (Yj (Z13 (p := ⟨gb475, 2, none⟩) (Z13 (p := ⟨gb475, 1, none⟩) (Z13 (p := ⟨gb475, 0, none⟩) (Z15 HO_109.out BK475.out (by decide)) (fun _ hk => hk.2) (.int .i64 ((rd_T45 t450 x130_3).f0))) (fun _ hk => hk.2) (.int .i64 ((rd_T45 t450 x130_3).f1))) (fun _ hk => hk.2) (.int .i64 ((rd_T45 t450 x130_3).f2))) (fun _ h_ => h_.1)) (Kd.R_base ho0) hb); replace BK475 := Yb ⟨Yv3 BK475.out⟩ hb; replace HB := Yh hb; (try clear hb ho0); obtain ⟨Ao76, co76, rfl⟩ := Z17 HO478.out) | ((with_reducible refine gate_callee (f := 25) rfl ?_); refine Yz 142 Try.func25 #[.slice Ao76 t476.length co76] ?_; (with_reducible refine (impl_PermutationRank.calls k3 _ _ t476 t480 false _ (Yc (Kd.R_reads' HO478.out).2.2) ((Kd.R_reads' HO478.out).2.1) A47.out).mono ?_); rintro e w77 ⟨rfl, hb⟩; refine ⟨_, rfl, ?_⟩; replace HO_6 := Yw HO_6 hb; replace HO_7 := Yw HO_7 hb; replace HO_20 := Yw HO_20 hb; replace HO_109 := Yw HO_109 hb; replace HO_128 := Yw HO_128 hb; replace HO478 := Yw HO478 hb; replace BK475 := Yb BK475 hb; replace HB := Yh hb; (try clear hb)))
                     go_ret
                     exact ⟨Q2, Q0⟩
                   ·replace c48 := Bool.eq_false_iff.mpr c48
                    subst c48
                    have H1 : (some false) = some r := by rw [if_neg (show ¬ (false = true) by decide)] at H; exact H
                    clear H
                    have H := H1
                    clear H1
                    obtain rfl := Option.some.inj H
                    have p474 : 0 ≤ (x130_3 : Int) := Z29 Q1
                    have q474 : x130_3 < (t450.length : Int) := Z29 Q1
                    obtain ⟨ad474, e474, hx474_0, hx474_1, hx474_2⟩ := at_T45 (Kd.R_reads' HO_128.out).2.2 x130_3 p474 q474
                    cases e474
                    replace p474 := eq_true p474
                    replace q474 := eq_true q474
                    go_wp2_with (first | ((with_reducible refine gate_dst (N := 23) rfl ?_); (try (refine gate_guard (by rfl) ?_; dsimp only)); refine Yx 23 #[.int .i64 0, .int .i64 0, .int .i64 0] 45 ?_; intro gb475 hg w78 hbox hb; replace HO_6 := Ya (Z14 (Kd.R_elderB (Yr HO_6.out) gb475 (Nat.le_of_eq hg.symm)) hb); replace HO_7 := Yw HO_7 hb; replace HO_20 := Yw HO_20 hb; replace HO_109 := Yw HO_109 hb; replace HO_128 := Ya (Z14 (Kd.R_elderB (Yr HO_128.out) gb475 (Nat.le_of_eq hg.symm)) hb); have BK475 := Ya hbox; have GE475 := Yg hg; replace HB := Yh hb; clear hb hbox hg; have hcz79_0 : w78.cell? ⟨gb475, 0, none⟩ = some (.int .i64 0) := (Z22 BK475.out 0).trans rfl; have hcz79_1 : w78.cell? ⟨gb475, 1, none⟩ = some (.int .i64 0) := (Z22 BK475.out 1).trans rfl; have hcz79_2 : w78.cell? ⟨gb475, 2, none⟩ = some (.int .i64 0) := (Z22 BK475.out 2).trans rfl; have hfz79_0 := Z23 BK475.out 0; have hfz79_1 := Z23 BK475.out 1; have hfz79_2 := Z23 BK475.out 2; obtain ⟨Ao80, co80, rfl⟩ := Z17 HO_20.out) | ((with_reducible refine gate_callee (f := 24) rfl ?_); refine Yz 137 Try.func24 #[.slice Ao80 t470.length co80, .agg #[.int .i64 ((rd_T45 t450 x130_3).f0), .int .i64 ((rd_T45 t450 x130_3).f1), .int .i64 ((rd_T45 t450 x130_3).f2)]] ?_; (with_reducible refine (impl_ApplyMove.calls k3 _ _ t470 ((rd_T45 t450 x130_3).f0) ((rd_T45 t450 x130_3).f1) ((rd_T45 t450 x130_3).f2) t476 false _ ?side1 ((Kd.R_reads' HO_20.out).2.1) A46.out).mono ?_); (case side1 => refine (Kd.R_reads' (e := 3) (base := w.heap.size) (ok := fun k_ => (some k_ ≠ (.slice (some ad469) t453.length co35 : Value).ownBlock ∧ some k_ ≠ (.slice (some ad469) t453.length co35 : Value).ownBlock)) (n := t470.length) (c := co80) ?_).2.2; exact (Yj (Z13 (p := ⟨gb475, 2, none⟩) (Z13 (p := ⟨gb475, 1, none⟩) (Z13 (p := ⟨gb475, 0, none⟩) (Z15 HO_20.out BK475.out (by decide)) (fun _ hk => hk.2) (.int .i64 ((rd_T45 t450 x130_3).f0))) (fun _ hk => hk.2) (.int .i64 ((rd_T45 t450 x130_3).f1))) (fun _ hk => hk.2) (.int .i64 ((rd_T45 t450 x130_3).f2))) (fun _ h_ => h_.1))); rintro e w81 ⟨v477, rfl, ho0, hb⟩; refine ⟨_, rfl, ?_⟩; replace HO_6 := Ya (Z14 (Yj (Z13 (p := ⟨gb475, 2, none⟩) (Z13 (p := ⟨gb475, 1, none⟩) (Z13 (p := ⟨gb475, 0, none⟩) (Z12 HO_6.out (fun k_ hk => (⟨hk, hk.2⟩ : _ ∧ k_ ≠ gb475))) (fun _ hk => hk.2) (.int .i64 ((rd_T45 t450 x130_3).f0))) (fun _ hk => hk.2) (.int .i64 ((rd_T45 t450 x130_3).f1))) (fun _ hk => hk.2) (.int .i64 ((rd_T45 t450 x130_3).f2))) (fun _ h_ => h_.1)) hb); replace HO_128 := Ya (Z14 (Yj (Z13 (p := ⟨gb475, 2, none⟩) (Z13 (p := ⟨gb475, 1, none⟩) (Z13 (p := ⟨gb475, 0, none⟩) (Z12 HO_128.out (fun k_ hk => (⟨hk, hk.2⟩ : _ ∧ k_ ≠ gb475))) (fun _ hk => hk.2) (.int .i64 ((rd_T45 t450 x130_3).f0))) (fun _ hk => hk.2) (.int .i64 ((rd_T45 t450 x130_3).f1))) (fun _ hk => hk.2) (.int .i64 ((rd_T45 t450 x130_3).f2))) (fun _ h_ => h_.1)) hb); have HO478 := Yl (Kd.R_new' (Kd.R_new' (Kd.R_new' ho0 (Z16 (Yj (Z13 (p := ⟨gb475, 2, none⟩) (Z13 (p := ⟨gb475, 1, none⟩) (Z13 (p := ⟨gb475, 0, none⟩) (Z15 HO_7.out BK475.out (by decide)) (fun _ hk => hk.2) (.int .i64 ((rd_T45 t450 x130_3).f0))) (fun _ hk => hk.2) (.int .i64 ((rd_T45 t450 x130_3).f1))) (fun _ hk => hk.2) (.int .i64 ((rd_T45 t450 x130_3).f2))) (fun _ h_ => h_.1)))) (Z16 (Yj (Z13 (p := ⟨gb475, 2, none⟩) (Z13 (p := ⟨gb475, 1, none⟩) (Z13 (p := ⟨gb475, 0, none⟩) (Z15 HO_20.out BK475.out (by decide)) (fun _ hk => hk.2) (.int .i64 ((rd_T45 t450 x130_3).f0))) (fun _ hk => hk.2) (.int .i64 ((rd_T45 t450 x130_3).f1))) (fun _ hk => hk.2) (.int .i64 ((rd_T45 t450 x130_3).f2))) (fun _ h_ => h_.1)))) (Z16 (Yj (Z13 (p := ⟨gb475, 2, none⟩) (Z13 (p := ⟨gb475, 1, none⟩) (Z13 (p := ⟨gb475, 0, none⟩) (Z15 HO_109.out BK475.out (by decide)) (fun _ hk => hk.2) (.int .i64 ((rd_T45 t450 x130_3).f0))) (fun _ hk => hk.2) (.int .i64 ((rd_T45 t450 x130_3).f1))) (fun _ hk => hk.2) (.int .i64 ((rd_T45 t450 x130_3).f2))) (fun _ h_ => h_.1)))); replace HO_7 := Ya (Kd.R_elder' (Yj (Z13 (p := ⟨gb475, 2, none⟩) (Z13 (p := ⟨gb475, 1, none⟩) (Z13 (p := ⟨gb475, 0, none⟩) (Z15 HO_7.out BK475.out (by decide)) (fun _ hk => hk.2) (.int .i64 ((rd_T45 t450 x130_3).f0))) (fun _ hk => hk.2) (.int .i64 ((rd_T45 t450 x130_3).f1))) (fun _ hk => hk.2) (.int .i64 ((rd_T45 t450 x130_3).f2))) (fun _ h_ => h_.1)) (Kd.R_base ho0) hb); replace HO_20 := Ya (Kd.R_elder' (Yj (Z13 (p := ⟨gb475, 2, none⟩) (Z13 (p := ⟨gb475, 1, none⟩) (Z13 (p := ⟨gb475, 0, none⟩) (Z15 HO_20.out BK475.out (by decide)) (fun _ hk => hk.2) (.int .i64 ((rd_T45 t450 x130_3).f0))) (fun _ hk => hk.2) (.int .i64 ((rd_T45 t450 x130_3).f1))) (fun _ hk => hk.2) (.int .i64 ((rd_T45 t450 x130_3).f2))) (fun _ h_ => h_.1)) (Kd.R_base ho0) hb); replace HO_109 := Ya (Kd.R_elder' (Yj (Z13 (p := ⟨gb475, 2, none⟩) (Z13 (p := ⟨gb475, 1, none⟩) (Z13 (p := ⟨gb475, 0, none⟩) (Z15 HO_109.out BK475.out (by decide)) (fun _ hk => hk.2) (.int .i64 ((rd_T45 t450 x130_3).f0))) (fun _ hk => hk.2) (.int .i64 ((rd_T45 t450 x130_3).f1))) (fun _ hk => hk.2) (.int .i64 ((rd_T45 t450 x130_3).f2))) (fun _ h_ => h_.1)) (Kd.R_base ho0) hb); replace BK475 := Yb ⟨Yv3 BK475.out⟩ hb; replace HB := Yh hb; (try clear hb ho0); obtain ⟨Ao82, co82, rfl⟩ := Z17 HO478.out) | ((with_reducible refine gate_callee (f := 25) rfl ?_); refine Yz 142 Try.func25 #[.slice Ao82 t476.length co82] ?_; (with_reducible refine (impl_PermutationRank.calls k3 _ _ t476 t480 t481 _ (Yc (Kd.R_reads' HO478.out).2.2) ((Kd.R_reads' HO478.out).2.1) A47.out).mono ?_); rintro e w83 ⟨rfl, hb⟩; refine ⟨_, rfl, ?_⟩; replace HO_6 := Yw HO_6 hb; replace HO_7 := Yw HO_7 hb; replace HO_20 := Yw HO_20 hb; replace HO_109 := Yw HO_109 hb; replace HO_128 := Yw HO_128 hb; replace HO478 := Yw HO478 hb; replace BK475 := Yb BK475 hb; replace HB := Yh hb; (try clear hb)))
                    go_ret
                    exact ⟨Q2, Q0⟩
                  ·rw [if_neg c45] at H
                   exact absurd H (by simp)
                 ·rw [if_neg c44] at H
                  exact absurd H (by simp)
                ·rw [if_neg c43] at H
                 have c43b0 := Z36 c43
                 clear c43
                 have H' := Ya H
                 clear H
                 go_wp2
                 go_roundg k3
                 case measure => have := HJ10.out; have := HK2.out; have := HK3.out; omega
                 case rel => exact ⟨((wrap64 (x17_2 + 1))), (wrap64 (x111_2 + 1)), Q3, Q3, H', ⟨by have := HJ10.out; have := HK2.out; have := HK3.out; omega⟩, ⟨Q38⟩, ⟨Yj HO_7.out (fun _ hk => trivial)⟩, ⟨Yj HO_109.out (fun _ hk => trivial)⟩, ⟨Q0⟩⟩
             ·replace c41 := Bool.eq_false_iff.mpr c41
              subst c41
              have H1 : (some false) = some r := by rw [if_neg (show ¬ (false = true) by decide)] at H; exact H
              clear H
              have H := H1
              clear H1
              obtain rfl := Option.some.inj H
              have p469 : 0 ≤ (x111_2 : Int) := Z29 Q1
              have q469 : x111_2 < (t453.length : Int) := Z29 Q1
              obtain ⟨ad469, e469, hx469_0⟩ := Kd.at_int (Kd.R_reads' HO_109.out).2.2 x111_2 p469 q469
              cases e469
              replace p469 := eq_true p469
              replace q469 := eq_true q469
              go_wp2_with (first | ((with_reducible refine gate_callee (f := 23) rfl ?_); refine Yz 123 Try.func23 #[.int .i64 t449, .int .i64 x111_2] ?_; (with_reducible refine (impl_PermutationAt.calls k2 t449 x111_2 t470 false _ A40.out).mono ?_); rintro e w84 ⟨v472, rfl, ho0, hb⟩; refine ⟨_, rfl, ?_⟩; replace HO_6 := Yw HO_6 hb; have HO473 := Yl (Kd.R_new' (Kd.R_new' ho0 (Z16 (Yr HO_7.out))) (Z16 (Yr HO_109.out))); replace HO_7 := Ya (Kd.R_elder' (Yr HO_7.out) (Kd.R_base ho0) hb); replace HO_109 := Ya (Kd.R_elder' (Yr HO_109.out) (Kd.R_base ho0) hb); replace HB := Yh hb; (try clear hb ho0)))
              go_ret
              exact ⟨Q2, Q0⟩
           ·rw [if_neg c38] at H
            exact absurd H (by simp)
          ·rw [if_neg c37] at H
           exact absurd H (by simp)
         ·rw [if_neg c36] at H
          have c36b0 := Z36 c36
          clear c36
          (first | rw [c36b0] | (simp only [i64_w, i32_w]; rw [c36b0]) | skip)
          by_cases c85 : x17_2 = t461
          ·rw [if_pos c85] at H
           have c85b0 : (x17_2 == t461) = true := beq_iff_eq.mpr c85
           have c85b1 : (x17_2 != t461) = false := bne_eq_false_iff_eq.mpr c85
           clear c85
           by_cases c86 : 0 < (t453.length : Int)
           ·rw [if_pos c86] at H
            have c86b0 := Z37 c86
            have c86b1 : decide (0 < t453.length) = true := Z37 (by omega)
            clear c86
            by_cases c87 : (rd t453 0) = 0
            ·rw [if_pos c87] at H
             have c87b0 : ((rd t453 0) == 0) = true := beq_iff_eq.mpr c87
             have c87b1 : ((rd t453 0) != 0) = false := bne_eq_false_iff_eq.mpr c87
             clear c87
             by_cases c88 : t464 = true
             ·subst c88
              have H1 : (if t463 = true then (if t449 > 1 then (if (wrap64 (2 * t461)) > (t453.length : Int) then (some false) else (if t461 = 0 then (none) else (if ((t453.length : Int) % t461) = 0 then (laws_FnReached.j3 k2 l1) else (some false)))) else (if t461 = 0 then (none) else (if ((t453.length : Int) % t461) = 0 then (laws_FnReached.j3 k2 l1) else (some false)))) else (if t461 = 0 then (none) else (if ((t453.length : Int) % t461) = 0 then (laws_FnReached.j3 k2 l1) else (some false)))) = some r := by rw [if_pos rfl] at H; exact H
              clear H
              have H := H1
              clear H1
              by_cases c89 : t463 = true
              ·subst c89
               have H1 : (if t449 > 1 then (if (wrap64 (2 * t461)) > (t453.length : Int) then (some false) else (if t461 = 0 then (none) else (if ((t453.length : Int) % t461) = 0 then (laws_FnReached.j3 k2 l1) else (some false)))) else (if t461 = 0 then (none) else (if ((t453.length : Int) % t461) = 0 then (laws_FnReached.j3 k2 l1) else (some false)))) = some r := by rw [if_pos rfl] at H; exact H
               clear H
               have H := H1
               clear H1
               by_cases c90 : t449 > 1
               ·rw [if_pos c90] at H
                have c90b0 : decide (1 < t449) = true := Z37 c90
                clear c90
                by_cases c91 : (wrap64 (2 * t461)) > (t453.length : Int)
                ·rw [if_pos c91] at H
                 have c91b0 : decide ((t453.length : Int) < (wrap64 (2 * t461))) = true := Z37 c91
                 clear c91
                 obtain rfl := Option.some.inj H
                 have p468 : 0 ≤ (0 : Int) := (by omega)
                 have q468 : 0 < (t453.length : Int) := Z29 Q1
                 obtain ⟨ad468, e468, hx468_0⟩ := Kd.at_int (Kd.R_reads' HO_7.out).2.2 0 p468 q468
                 cases e468
                 have qi468 : (0 < t453.length) = True := eq_true (by omega)
                 (try rw [show ((0 : Int)).toNat = 0 from rfl] at hx468_0)
                 (try rw [Addr.add_zero'] at hx468_0)
                 replace p468 := eq_true p468
                 replace q468 := eq_true q468
                 go_wp2
                 go_ret
                 exact ⟨Q2, Q0⟩
                ·rw [if_neg c91] at H
                 have c91b0 : decide ((t453.length : Int) < (wrap64 (2 * t461))) = false := Z36 c91
                 clear c91
                 by_cases c92 : t461 = 0
                 ·rw [if_pos c92] at H
                  exact absurd H (by simp)
                 ·rw [if_neg c92] at H
                  have c92b0 : (t461 == 0) = false := beq_eq_false_iff_ne.mpr c92
                  have c92b1 : (t461 != 0) = true := bne_iff_ne.mpr c92
                  by_cases c93 : ((t453.length : Int) % t461) = 0
                  ·rw [if_pos c93] at H
                   have c93b0 : (((t453.length : Int) % t461) == 0) = true := beq_iff_eq.mpr c93
                   have c93b1 : (((t453.length : Int) % t461) != 0) = false := bne_eq_false_iff_eq.mpr c93
                   clear c93
                   have H' := Ya H
                   clear H
                   have p468 : 0 ≤ (0 : Int) := (by omega)
                   have q468 : 0 < (t453.length : Int) := Z29 Q1
                   obtain ⟨ad468, e468, hx468_0⟩ := Kd.at_int (Kd.R_reads' HO_7.out).2.2 0 p468 q468
                   cases e468
                   have qi468 : (0 < t453.length) = True := eq_true (by omega)
                   (try rw [show ((0 : Int)).toNat = 0 from rfl] at hx468_0)
                   (try rw [Addr.add_zero'] at hx468_0)
                   replace p468 := eq_true p468
                   replace q468 := eq_true q468
                   go_wp2
                   go_meet
                   case rel => exact ⟨_, H', ⟨Q44⟩, ⟨Q0⟩⟩
                  ·rw [if_neg c93] at H
                   have c93b0 : (((t453.length : Int) % t461) == 0) = false := beq_eq_false_iff_ne.mpr c93
                   have c93b1 : (((t453.length : Int) % t461) != 0) = true := bne_iff_ne.mpr c93
                   obtain rfl := Option.some.inj H
                   have p468 : 0 ≤ (0 : Int) := (by omega)
                   have q468 : 0 < (t453.length : Int) := Z29 Q1
                   obtain ⟨ad468, e468, hx468_0⟩ := Kd.at_int (Kd.R_reads' HO_7.out).2.2 0 p468 q468
                   cases e468
                   have qi468 : (0 < t453.length) = True := eq_true (by omega)
                   (try rw [show ((0 : Int)).toNat = 0 from rfl] at hx468_0)
                   (try rw [Addr.add_zero'] at hx468_0)
                   replace p468 := eq_true p468
                   replace q468 := eq_true q468
                   go_wp2
                   go_ret
                   exact ⟨Q2, Q0⟩
               ·rw [if_neg c90] at H
                have c90b0 : decide (1 < t449) = false := Z36 c90
                clear c90
                by_cases c94 : t461 = 0
                ·rw [if_pos c94] at H
                 exact absurd H (by simp)
                ·rw [if_neg c94] at H
                 have c94b0 : (t461 == 0) = false := beq_eq_false_iff_ne.mpr c94
                 have c94b1 : (t461 != 0) = true := bne_iff_ne.mpr c94
                 by_cases c95 : ((t453.length : Int) % t461) = 0
                 ·rw [if_pos c95] at H
                  have c95b0 : (((t453.length : Int) % t461) == 0) = true := beq_iff_eq.mpr c95
                  have c95b1 : (((t453.length : Int) % t461) != 0) = false := bne_eq_false_iff_eq.mpr c95
                  clear c95
                  have H' := Ya H
                  clear H
                  have p468 : 0 ≤ (0 : Int) := (by omega)
                  have q468 : 0 < (t453.length : Int) := Z29 Q1
                  obtain ⟨ad468, e468, hx468_0⟩ := Kd.at_int (Kd.R_reads' HO_7.out).2.2 0 p468 q468
                  cases e468
                  have qi468 : (0 < t453.length) = True := eq_true (by omega)
                  (try rw [show ((0 : Int)).toNat = 0 from rfl] at hx468_0)
                  (try rw [Addr.add_zero'] at hx468_0)
                  replace p468 := eq_true p468
                  replace q468 := eq_true q468
                  go_wp2
                  go_meet
                  case rel => exact ⟨_, H', ⟨Q44⟩, ⟨Q0⟩⟩
                 ·rw [if_neg c95] at H
                  have c95b0 : (((t453.length : Int) % t461) == 0) = false := beq_eq_false_iff_ne.mpr c95
                  have c95b1 : (((t453.length : Int) % t461) != 0) = true := bne_iff_ne.mpr c95
                  obtain rfl := Option.some.inj H
                  have p468 : 0 ≤ (0 : Int) := (by omega)
                  have q468 : 0 < (t453.length : Int) := Z29 Q1
                  obtain ⟨ad468, e468, hx468_0⟩ := Kd.at_int (Kd.R_reads' HO_7.out).2.2 0 p468 q468
                  cases e468
                  have qi468 : (0 < t453.length) = True := eq_true (by omega)
                  (try rw [show ((0 : Int)).toNat = 0 from rfl] at hx468_0)
                  (try rw [Addr.add_zero'] at hx468_0)
                  replace p468 := eq_true p468
                  replace q468 := eq_true q468
                  go_wp2
                  go_ret
                  exact ⟨Q2, Q0⟩
              ·replace c89 := Bool.eq_false_iff.mpr c89
               subst c89
               have H1 : (if t461 = 0 then (none) else (if ((t453.length : Int) % t461) = 0 then (laws_FnReached.j3 k2 l1) else (some false))) = some r := by rw [if_neg (show ¬ (false = true) by decide)] at H; exact H
               clear H
               have H := H1
               clear H1
               by_cases c96 : t461 = 0
               ·rw [if_pos c96] at H
                exact absurd H (by simp)
               ·rw [if_neg c96] at H
                have c96b0 : (t461 == 0) = false := beq_eq_false_iff_ne.mpr c96
                have c96b1 : (t461 != 0) = true := bne_iff_ne.mpr c96
                by_cases c97 : ((t453.length : Int) % t461) = 0
                ·rw [if_pos c97] at H
                 have c97b0 : (((t453.length : Int) % t461) == 0) = true := beq_iff_eq.mpr c97
                 have c97b1 : (((t453.length : Int) % t461) != 0) = false := bne_eq_false_iff_eq.mpr c97
                 clear c97
                 have H' := Ya H
                 clear H
                 have p468 : 0 ≤ (0 : Int) := (by omega)
                 have q468 : 0 < (t453.length : Int) := Z29 Q1
                 obtain ⟨ad468, e468, hx468_0⟩ := Kd.at_int (Kd.R_reads' HO_7.out).2.2 0 p468 q468
                 cases e468
                 have qi468 : (0 < t453.length) = True := eq_true (by omega)
                 (try rw [show ((0 : Int)).toNat = 0 from rfl] at hx468_0)
                 (try rw [Addr.add_zero'] at hx468_0)
                 replace p468 := eq_true p468
                 replace q468 := eq_true q468
                 go_wp2
                 go_meet
                 case rel => exact ⟨_, H', ⟨Q44⟩, ⟨Q0⟩⟩
                ·rw [if_neg c97] at H
                 have c97b0 : (((t453.length : Int) % t461) == 0) = false := beq_eq_false_iff_ne.mpr c97
                 have c97b1 : (((t453.length : Int) % t461) != 0) = true := bne_iff_ne.mpr c97
                 obtain rfl := Option.some.inj H
                 have p468 : 0 ≤ (0 : Int) := (by omega)
                 have q468 : 0 < (t453.length : Int) := Z29 Q1
                 obtain ⟨ad468, e468, hx468_0⟩ := Kd.at_int (Kd.R_reads' HO_7.out).2.2 0 p468 q468
                 cases e468
                 have qi468 : (0 < t453.length) = True := eq_true (by omega)
                 (try rw [show ((0 : Int)).toNat = 0 from rfl] at hx468_0)
                 (try rw [Addr.add_zero'] at hx468_0)
                 replace p468 := eq_true p468
                 replace q468 := eq_true q468
                 go_wp2
                 go_ret
                 exact ⟨Q2, Q0⟩
             ·replace c88 := Bool.eq_false_iff.mpr c88
              subst c88
              have H1 : (if t461 = 0 then (none) else (if ((t453.length : Int) % t461) = 0 then (laws_FnReached.j3 k2 l1) else (some false))) = some r := by rw [if_neg (show ¬ (false = true) by decide)] at H; exact H
              clear H
              have H := H1
              clear H1
              by_cases c98 : t461 = 0
              ·rw [if_pos c98] at H
               exact absurd H (by simp)
              ·rw [if_neg c98] at H
               have c98b0 : (t461 == 0) = false := beq_eq_false_iff_ne.mpr c98
               have c98b1 : (t461 != 0) = true := bne_iff_ne.mpr c98
               by_cases c99 : ((t453.length : Int) % t461) = 0
               ·rw [if_pos c99] at H
                have c99b0 : (((t453.length : Int) % t461) == 0) = true := beq_iff_eq.mpr c99
                have c99b1 : (((t453.length : Int) % t461) != 0) = false := bne_eq_false_iff_eq.mpr c99
                clear c99
                have H' := Ya H
                clear H
                have p468 : 0 ≤ (0 : Int) := (by omega)
                have q468 : 0 < (t453.length : Int) := Z29 Q1
                obtain ⟨ad468, e468, hx468_0⟩ := Kd.at_int (Kd.R_reads' HO_7.out).2.2 0 p468 q468
                cases e468
                have qi468 : (0 < t453.length) = True := eq_true (by omega)
                (try rw [show ((0 : Int)).toNat = 0 from rfl] at hx468_0)
                (try rw [Addr.add_zero'] at hx468_0)
                replace p468 := eq_true p468
                replace q468 := eq_true q468
                go_wp2
                go_meet
                case rel => exact ⟨_, H', ⟨Q44⟩, ⟨Q0⟩⟩
               ·rw [if_neg c99] at H
                have c99b0 : (((t453.length : Int) % t461) == 0) = false := beq_eq_false_iff_ne.mpr c99
                have c99b1 : (((t453.length : Int) % t461) != 0) = true := bne_iff_ne.mpr c99
                obtain rfl := Option.some.inj H
                have p468 : 0 ≤ (0 : Int) := (by omega)
                have q468 : 0 < (t453.length : Int) := Z29 Q1
                obtain ⟨ad468, e468, hx468_0⟩ := Kd.at_int (Kd.R_reads' HO_7.out).2.2 0 p468 q468
                cases e468
                have qi468 : (0 < t453.length) = True := eq_true (by omega)
                (try rw [show ((0 : Int)).toNat = 0 from rfl] at hx468_0)
                (try rw [Addr.add_zero'] at hx468_0)
                replace p468 := eq_true p468
                replace q468 := eq_true q468
                go_wp2
                go_ret
                exact ⟨Q2, Q0⟩
            ·rw [if_neg c87] at H
             have c87b0 : ((rd t453 0) == 0) = false := beq_eq_false_iff_ne.mpr c87
             have c87b1 : ((rd t453 0) != 0) = true := bne_iff_ne.mpr c87
             obtain rfl := Option.some.inj H
             have p468 : 0 ≤ (0 : Int) := (by omega)
             have q468 : 0 < (t453.length : Int) := Z29 Q1
             obtain ⟨ad468, e468, hx468_0⟩ := Kd.at_int (Kd.R_reads' HO_7.out).2.2 0 p468 q468
             cases e468
             have qi468 : (0 < t453.length) = True := eq_true (by omega)
             (try rw [show ((0 : Int)).toNat = 0 from rfl] at hx468_0)
             (try rw [Addr.add_zero'] at hx468_0)
             replace p468 := eq_true p468
             replace q468 := eq_true q468
             go_wp2
             go_ret
             exact ⟨Q2, Q0⟩
           ·rw [if_neg c86] at H
            exact absurd H (by simp)
          ·rw [if_neg c85] at H
           have c85b0 : (x17_2 == t461) = false := beq_eq_false_iff_ne.mpr c85
           have c85b1 : (x17_2 != t461) = true := bne_iff_ne.mpr c85
           obtain rfl := Option.some.inj H
           go_wp2
           go_ret
           exact ⟨Q2, Q0⟩
      ·replace c34 := Bool.eq_false_iff.mpr c34
       subst c34
       have H1 : (laws_FnReached.j3 kj10 l1) = some r := by rw [if_neg (show ¬ (false = true) by decide)] at H; exact H
       clear H
       have H := H1
       clear H1
       have H' := Ya H
       clear H
       go_wp2
       go_meet
       case rel => exact ⟨_, H', ⟨by have := HJ10.out; first | omega | exact Nat.le_refl _⟩, ⟨Q0⟩⟩
     case rest => as_aux_lemma =>
      clear HC33
      try clear c1
      try clear c2
      try clear p2
      try clear c3
      try clear c4
      try clear p4
      try clear q4
      try clear hx4
      try clear qi4
      try clear c5
      try clear p6
      try clear c8
      try clear c9
      try clear c15
      try clear c16
      try clear c17
      try clear c18
      try clear c19
      try clear c19b0
      try clear c19b1
      try clear c19b2
      try clear c20
      try clear c21
      try clear c22
      try clear c22b0
      try clear c22b1
      try clear c22b2
      try clear c23
      try clear c24
      try clear c25
      try clear c25b0
      try clear c25b1
      try clear c25b2
      try clear c32
      try clear c34
      try clear c36
      try clear c36b0
      try clear c37
      try clear c37b0
      try clear c38
      try clear c38b0
      try clear c39
      try clear c39b0
      try clear c41
      try clear c43
      try clear c43b0
      try clear c44
      try clear c44b0
      try clear c45
      try clear c45b0
      try clear p46
      try clear q46
      try clear hx46
      try clear qi46
      try clear p47
      try clear q47
      try clear hx47
      try clear c48
      try clear p48
      try clear q48
      try clear hx48
      try clear c49
      try clear c50
      try clear c50b0
      try clear c51
      try clear c51b0
      try clear c52
      try clear c52b0
      try clear c59
      try clear c59b0
      try clear p64
      try clear c85
      try clear c85b0
      try clear c85b1
      try clear c86
      try clear c86b0
      try clear c86b1
      try clear c87
      try clear c87b0
      try clear c87b1
      try clear c88
      try clear c89
      try clear c90
      try clear c90b0
      try clear c91
      try clear c91b0
      try clear c92
      try clear c92b0
      try clear c92b1
      try clear c93
      try clear c93b0
      try clear c93b1
      try clear c94
      try clear c94b0
      try clear c94b1
      try clear c95
      try clear c95b0
      try clear c95b1
      try clear c96
      try clear c96b0
      try clear c96b1
      try clear c97
      try clear c97b0
      try clear c97b1
      try clear c98
      try clear c98b0
      try clear c98b1
      try clear c99
      try clear c99b0
      try clear c99b1
      try clear hcz54_0
      try clear hcz54_1
      try clear hcz54_2
      try clear hcz61_0
      try clear hcz61_1
      try clear hcz61_2
      try clear hcz67_0
      try clear hcz67_1
      try clear hcz67_2
      try clear hcz73_0
      try clear hcz73_1
      try clear hcz73_2
      try clear hcz79_0
      try clear hcz79_1
      try clear hcz79_2
      try clear hfz54_0
      try clear hfz54_1
      try clear hfz54_2
      try clear hfz61_0
      try clear hfz61_1
      try clear hfz61_2
      try clear hfz67_0
      try clear hfz67_1
      try clear hfz67_2
      try clear hfz73_0
      try clear hfz73_1
      try clear hfz73_2
      try clear hfz79_0
      try clear hfz79_1
      try clear hfz79_2
      try clear hx468_0
      try clear hx469_0
      try clear hx474_0
      try clear hx474_1
      try clear hx474_2
      try clear hx482_0
      try clear hx483_0
      try clear p2
      try clear p4
      try clear p468
      try clear p469
      try clear p474
      try clear p482
      try clear p483
      try clear p6
      try clear q4
      try clear q468
      try clear q469
      try clear q474
      try clear q482
      try clear q483
      obtain ⟨kq, HA, HJ32, HB⟩ := hcut
      cases kq with
      | zero => exact absurd HA.out (by simp [laws_FnReached.j3])
      | succ kj32 =>
       have H := HA.out
       clear HA
       simp only [laws_FnReached.j3] at H
       replace H := Z35.mp H
       obtain ⟨⟨t484, t485, t486⟩, A1000, H⟩ := H
       replace H : ((impl_FirstPath.f kj32 t484 t485 t486).bind fun bt489 => ((spec_FirstPath.f kj32 t484 t485 t486).bind fun bt493 => (if (bt489.2 != bt493.2) = true then (laws_FnReached.j4 kj32 l1 t484 t485 bt489.1 bt489.2 true) else ((laws_uSame.f kj32 bt489.1 bt493.1).bind fun t497 => (laws_FnReached.j4 kj32 l1 t484 t485 bt489.1 bt489.2 (!t497)))))) = some r := H
       have A100 := Ya A1000
       clear A1000
       replace H := Z35.mp H
       obtain ⟨⟨t489, t490⟩, A1010, H⟩ := H
       replace H : ((spec_FirstPath.f kj32 t484 t485 t486).bind fun bt493 => (if (t490 != bt493.2) = true then (laws_FnReached.j4 kj32 l1 t484 t485 t489 t490 true) else ((laws_uSame.f kj32 t489 bt493.1).bind fun t497 => (laws_FnReached.j4 kj32 l1 t484 t485 t489 t490 (!t497))))) = some r := H
       have A101 := Ya A1010
       clear A1010
       replace H := Z35.mp H
       obtain ⟨⟨t493, t494⟩, A1020, H⟩ := H
       replace H : (if (t490 != t494) = true then (laws_FnReached.j4 kj32 l1 t484 t485 t489 t490 true) else ((laws_uSame.f kj32 t489 t493).bind fun t497 => (laws_FnReached.j4 kj32 l1 t484 t485 t489 t490 (!t497)))) = some r := H
       have A102 := Ya A1020
       clear A1020
       have HC103 := Ya H
       clear H
       go_upto_region 35 with (first | ((with_reducible refine gate_callee (f := 26) rfl ?_); refine Yz 204 Try.func26 #[.slice A1 l1.length c1] ?_; (with_reducible refine (spec_DrawFirstPath.calls kj32 _ _ l1 t484 t485 t486 _ (Yc (Z21 HR1.out HB.out)) HC1.out A100.out).mono ?_); rintro e w104 ⟨v487, rfl, ho0, hb⟩; refine ⟨_, rfl, ?_⟩; have HO488 := Yl ho0; replace HB := Yh hb; (try clear hb ho0); obtain ⟨Ao105, co105, rfl⟩ := Z17 HO488.out) | ((with_reducible refine gate_callee (f := 9) rfl ?_); refine Yz 212 Try.func9 #[.int .i64 t484, .slice Ao105 t485.length co105, .int .i64 t486] ?_; (with_reducible refine (impl_FirstPath.calls kj32 t484 _ _ t485 t486 t489 t490 _ (Yc (Kd.R_reads' HO488.out).2.2) ((Kd.R_reads' HO488.out).2.1) A101.out).mono ?_); rintro e w106 ⟨v491, rfl, ho0, hb⟩; refine ⟨_, rfl, ?_⟩; replace HO488 := Yw HO488 hb; have HO492 := Yl ho0; replace HB := Yh hb; (try clear hb ho0)) | ((with_reducible refine gate_callee (f := 7) rfl ?_); refine Yz 219 Try.func7 #[.int .i64 t484, .slice Ao105 t485.length co105, .int .i64 t486] ?_; (with_reducible refine (spec_FirstPath.calls kj32 t484 _ _ t485 t486 t493 t494 _ (Yc (Kd.R_reads' HO488.out).2.2) ((Kd.R_reads' HO488.out).2.1) A102.out).mono ?_); rintro e w107 ⟨v495, rfl, ho0, hb⟩; refine ⟨_, rfl, ?_⟩; replace HO488 := Yw HO488 hb; have HO496 := Yl (Kd.R_new' ho0 (Z16 (Yr HO492.out))); replace HO492 := Ya (Kd.R_elder' (Yr HO492.out) (Kd.R_base ho0) hb); replace HB := Yh hb; (try clear hb ho0)))
       (try simp only [Act.put, Z0, Z1, Z2])
       go_cut [230] (fun v230 wc => ∃ (kq : Nat) (x230_102 : Bool), v230 = .bool x230_102 ∧ Aside0 (laws_FnReached.j4 kq l1 t484 t485 t489 t490 x230_102 = some r) ∧ Aside0 (kq ≤ kj32) ∧ Aside0 (Kd.R k45 45 wc w.heap.size (fun _ => True) (.slice Ao105 t485.length co105) t485) ∧ Aside0 (Kd.R (Kd.int .i64) 3 wc w.heap.size (fun _ => True) v491 t489) ∧ Aside0 (Below w.heap.size w wc))
       case first =>
        have H := HC103.out
        clear HC103
        by_cases c108 : (t490 != t494) = true
        ·rw [if_pos c108] at H
         have c108b0 : (t490 != t494) = true := c108
         (try (have c108b1 : decide (t490 = t494) = false := by simpa using c108))
         (try (have c108b2 : (t490 == t494) = false := by simpa using c108))
         (try (have c108b3 : ¬ (t490 = t494) := by simpa using c108))
         clear c108
         (first | rw [c108b0] | (simp only [i64_w, i32_w]; rw [c108b0]) | skip)
         have H' := Ya H
         clear H
         go_wp2
         go_meet
         case rel => exact ⟨_, (true), Q3, H', ⟨by have := HJ10.out; have := HJ32.out; first | omega | exact Nat.le_refl _⟩, ⟨by (with_reducible repeat (first | apply Z9 | apply Z10 | apply Z11)); exact HO488.out⟩, ⟨Yj HO492.out (fun _ hk => trivial)⟩, ⟨Q0⟩⟩
        ·rw [if_neg c108] at H
         have c108b0 : (t490 != t494) = false := by simpa using c108
         (try (have c108b1 : decide (t490 = t494) = true := by simpa using c108))
         (try (have c108b2 : (t490 == t494) = true := by simpa using c108))
         clear c108
         (first | rw [c108b0] | (simp only [i64_w, i32_w]; rw [c108b0]) | skip)
         replace H := Z35.mp H
         obtain ⟨t497, A1090, H⟩ := H
         replace H : (laws_FnReached.j4 kj32 l1 t484 t485 t489 t490 (!t497)) = some r := H
         have A109 := Ya A1090
         clear A1090
         have H' := Ya H
         clear H
         obtain ⟨Ao110, co110, rfl⟩ := Z17 HO492.out
         obtain ⟨Ao111, co111, rfl⟩ := Z17 HO496.out
         go_wp2_with (first | (go_at_call 22; (with_reducible refine (laws_uSame.calls kj32 _ _ t489 _ _ t493 t497 _ (Yc (Kd.R_reads' HO492.out).2.2) ((Kd.R_reads' HO492.out).2.1) (Yc (Kd.R_reads' HO496.out).2.2) ((Kd.R_reads' HO496.out).2.1) A109.out).mono ?_); rintro e w' ⟨rfl, ⟨nd, rfl⟩⟩))
         go_meet
         case rel => exact ⟨_, (!t497), Q3, H', ⟨by have := HJ10.out; have := HJ32.out; first | omega | exact Nat.le_refl _⟩, ⟨by (with_reducible repeat (first | apply Z9 | apply Z10 | apply Z11)); exact HO488.out⟩, ⟨Yj HO492.out (fun _ hk => trivial)⟩, ⟨Q0⟩⟩
       case rest => as_aux_lemma =>
        clear HC103
        try clear c1
        try clear c2
        try clear p2
        try clear c3
        try clear c4
        try clear p4
        try clear q4
        try clear hx4
        try clear qi4
        try clear c5
        try clear p6
        try clear c7
        try clear c8
        try clear c9
        try clear c10
        try clear c15
        try clear c16
        try clear c17
        try clear c18
        try clear c19
        try clear c19b0
        try clear c19b1
        try clear c19b2
        try clear c20
        try clear c21
        try clear c22
        try clear c22b0
        try clear c22b1
        try clear c22b2
        try clear c23
        try clear c24
        try clear c25
        try clear c25b0
        try clear c25b1
        try clear c25b2
        try clear c26
        try clear c32
        try clear c34
        try clear c36
        try clear c36b0
        try clear c37
        try clear c37b0
        try clear c38
        try clear c38b0
        try clear c39
        try clear c39b0
        try clear c41
        try clear c43
        try clear c43b0
        try clear c44
        try clear c44b0
        try clear c45
        try clear c45b0
        try clear p46
        try clear q46
        try clear hx46
        try clear qi46
        try clear p47
        try clear q47
        try clear hx47
        try clear c48
        try clear p48
        try clear q48
        try clear hx48
        try clear c49
        try clear c50
        try clear c50b0
        try clear c51
        try clear c51b0
        try clear c52
        try clear c52b0
        try clear c59
        try clear c59b0
        try clear p64
        try clear c85
        try clear c85b0
        try clear c85b1
        try clear c86
        try clear c86b0
        try clear c86b1
        try clear c87
        try clear c87b0
        try clear c87b1
        try clear c88
        try clear c89
        try clear c90
        try clear c90b0
        try clear c91
        try clear c91b0
        try clear c92
        try clear c92b0
        try clear c92b1
        try clear c93
        try clear c93b0
        try clear c93b1
        try clear c94
        try clear c94b0
        try clear c94b1
        try clear c95
        try clear c95b0
        try clear c95b1
        try clear c96
        try clear c96b0
        try clear c96b1
        try clear c97
        try clear c97b0
        try clear c97b1
        try clear c98
        try clear c98b0
        try clear c98b1
        try clear c99
        try clear c99b0
        try clear c99b1
        try clear c108
        try clear c108b0
        try clear c108b1
        try clear c108b2
        try clear hcz54_0
        try clear hcz54_1
        try clear hcz54_2
        try clear hcz61_0
        try clear hcz61_1
        try clear hcz61_2
        try clear hcz67_0
        try clear hcz67_1
        try clear hcz67_2
        try clear hcz73_0
        try clear hcz73_1
        try clear hcz73_2
        try clear hcz79_0
        try clear hcz79_1
        try clear hcz79_2
        try clear hfz54_0
        try clear hfz54_1
        try clear hfz54_2
        try clear hfz61_0
        try clear hfz61_1
        try clear hfz61_2
        try clear hfz67_0
        try clear hfz67_1
        try clear hfz67_2
        try clear hfz73_0
        try clear hfz73_1
        try clear hfz73_2
        try clear hfz79_0
        try clear hfz79_1
        try clear hfz79_2
        try clear hx468_0
        try clear hx469_0
        try clear hx474_0
        try clear hx474_1
        try clear hx474_2
        try clear hx482_0
        try clear hx483_0
        try clear p2
        try clear p4
        try clear p46
        try clear p468
        try clear p469
        try clear p47
        try clear p474
        try clear p48
        try clear p482
        try clear p483
        try clear p6
        try clear p64
        try clear q4
        try clear q46
        try clear q468
        try clear q469
        try clear q47
        try clear q474
        try clear q48
        try clear q482
        try clear q483
        obtain ⟨kq, x230_102, rfl, HA, HJ102, HO_29, HO_31, HB⟩ := hcut
        cases kq with
        | zero => exact absurd HA.out (by simp [laws_FnReached.j4])
        | succ kj102 =>
         have H := HA.out
         clear HA
         simp only [laws_FnReached.j4] at H
         by_cases c112 : x230_102 = true
         ·subst c112
          have H1 : (some false) = some r := by rw [if_pos rfl] at H; exact H
          clear H
          have H := H1
          clear H1
          obtain rfl := Option.some.inj H
          go_wp2
          go_ret
          exact ⟨Q2, Q0⟩
         ·replace c112 := Bool.eq_false_iff.mpr c112
          subst c112
          have H1 : (if t490 = true then ((impl_FollowMoves.f kj102 t484 t485 t489).bind fun bt498 => ((impl_IsMoveList.f kj102 t484 bt498.1 t485).bind fun bt502 => (if bt498.2 = true then (if bt502.2 = true then (some bt502.1) else (some false)) else (some false)))) else ((spec_DrawFollowMoves.f kj102 l1).bind fun bt504 => ((impl_FollowMoves.f kj102 bt504.1 bt504.2.1 bt504.2.2).bind fun bt511 => ((spec_FollowMoves.f kj102 bt504.1 bt504.2.1 bt504.2.2).bind fun bt515 => (if (bt511.2 == bt515.2) = true then ((laws_uLists.f kj102 bt511.1 bt515.1).bind fun t519 => (some t519)) else (some false)))))) = some r := by rw [if_neg (show ¬ (false = true) by decide)] at H; exact H
          clear H
          have H := H1
          clear H1
          by_cases c113 : t490 = true
          ·subst c113
           have H1 : ((impl_FollowMoves.f kj102 t484 t485 t489).bind fun bt498 => ((impl_IsMoveList.f kj102 t484 bt498.1 t485).bind fun bt502 => (if bt498.2 = true then (if bt502.2 = true then (some bt502.1) else (some false)) else (some false)))) = some r := by rw [if_pos rfl] at H; exact H
           clear H
           have H := H1
           clear H1
           replace H := Z35.mp H
           obtain ⟨⟨t498, t499⟩, A1140, H⟩ := H
           replace H : ((impl_IsMoveList.f kj102 t484 t498 t485).bind fun bt502 => (if t499 = true then (if bt502.2 = true then (some bt502.1) else (some false)) else (some false))) = some r := H
           have A114 := Ya A1140
           clear A1140
           replace H := Z35.mp H
           obtain ⟨⟨t502, t503⟩, A1150, H⟩ := H
           replace H : (if t499 = true then (if t503 = true then (some t502) else (some false)) else (some false)) = some r := H
           have A115 := Ya A1150
           clear A1150
           by_cases c116 : t499 = true
           ·subst c116
            have H1 : (if t503 = true then (some t502) else (some false)) = some r := by rw [if_pos rfl] at H; exact H
            clear H
            have H := H1
            clear H1
            by_cases c117 : t503 = true
            ·subst c117
             have H1 : (some t502) = some r := by rw [if_pos rfl] at H; exact H
             clear H
             have H := H1
             clear H1
             obtain rfl := Option.some.inj H
             obtain ⟨Ao118, co118, rfl⟩ := Z17 HO_31.out
             go_wp2_with (first | ((with_reducible refine gate_callee (f := 27) rfl ?_); refine Yz 236 Try.func27 #[.int .i64 t484, .slice Ao105 t485.length co105, .slice Ao118 t489.length co118] ?_; (with_reducible refine (impl_FollowMoves.calls kj102 t484 _ _ t485 _ _ t489 t498 true _ (Yc (Kd.R_reads' HO_29.out).2.2) ((Kd.R_reads' HO_29.out).2.1) (Yc (Kd.R_reads' HO_31.out).2.2) ((Kd.R_reads' HO_31.out).2.1) A114.out).mono ?_); rintro e w119 ⟨v500, rfl, ho0, hb⟩; refine ⟨_, rfl, ?_⟩; replace HO_29 := Yw HO_29 hb; have HO501 := Ya (Kd.S_lower (Kd.S_new' ho0 (Z16 (Yr HO_31.out))) (Z7 Q12)); replace HO_31 := Yw HO_31 hb; replace HB := Yh hb; (try clear hb ho0); obtain ⟨Ao120, co120, eo120⟩ := Kd.S_slice HO501.out; subst eo120) | ((with_reducible refine gate_callee (f := 28) rfl ?_); refine Yz 243 Try.func28 #[.int .i64 t484, .slice Ao120 t498.length co120, .slice Ao105 t485.length co105] ?_; (with_reducible refine (impl_IsMoveList.calls kj102 t484 _ _ t498 _ _ t485 t502 true _ (Yc (Kd.S_reads' HO501.out).2.2) ?side2 (Yc (Kd.R_reads' HO_29.out).2.2) ((Kd.R_reads' HO_29.out).2.1) A115.out).mono ?_); (case side2 => exact (Kd.S_reads' HO501.out).2.1); rintro e w121 ⟨rfl, hb⟩; refine ⟨_, rfl, ?_⟩; replace HO_29 := Yw HO_29 hb; replace HO_31 := Yw HO_31 hb; replace HO501 := Ya (Kd.S_below (Qm2 HO501.out) hb); replace HB := Yh hb; (try clear hb)))
             go_ret
             exact ⟨Q2, Q0⟩
            ·replace c117 := Bool.eq_false_iff.mpr c117
             subst c117
             have H1 : (some false) = some r := by rw [if_neg (show ¬ (false = true) by decide)] at H; exact H
             clear H
             have H := H1
             clear H1
             obtain rfl := Option.some.inj H
             obtain ⟨Ao122, co122, rfl⟩ := Z17 HO_31.out
             go_wp2_with (first | ((with_reducible refine gate_callee (f := 27) rfl ?_); refine Yz 236 Try.func27 #[.int .i64 t484, .slice Ao105 t485.length co105, .slice Ao122 t489.length co122] ?_; (with_reducible refine (impl_FollowMoves.calls kj102 t484 _ _ t485 _ _ t489 t498 true _ (Yc (Kd.R_reads' HO_29.out).2.2) ((Kd.R_reads' HO_29.out).2.1) (Yc (Kd.R_reads' HO_31.out).2.2) ((Kd.R_reads' HO_31.out).2.1) A114.out).mono ?_); rintro e w123 ⟨v500, rfl, ho0, hb⟩; refine ⟨_, rfl, ?_⟩; replace HO_29 := Yw HO_29 hb; have HO501 := Ya (Kd.S_lower (Kd.S_new' ho0 (Z16 (Yr HO_31.out))) (Z7 Q12)); replace HO_31 := Yw HO_31 hb; replace HB := Yh hb; (try clear hb ho0); obtain ⟨Ao124, co124, eo124⟩ := Kd.S_slice HO501.out; subst eo124) | ((with_reducible refine gate_callee (f := 28) rfl ?_); refine Yz 243 Try.func28 #[.int .i64 t484, .slice Ao124 t498.length co124, .slice Ao105 t485.length co105] ?_; (with_reducible refine (impl_IsMoveList.calls kj102 t484 _ _ t498 _ _ t485 t502 false _ (Yc (Kd.S_reads' HO501.out).2.2) ?side2 (Yc (Kd.R_reads' HO_29.out).2.2) ((Kd.R_reads' HO_29.out).2.1) A115.out).mono ?_); (case side2 => exact (Kd.S_reads' HO501.out).2.1); rintro e w125 ⟨rfl, hb⟩; refine ⟨_, rfl, ?_⟩; replace HO_29 := Yw HO_29 hb; replace HO_31 := Yw HO_31 hb; replace HO501 := Ya (Kd.S_below (Qm2 HO501.out) hb); replace HB := Yh hb; (try clear hb)))
             go_ret
             exact ⟨Q2, Q0⟩
           ·replace c116 := Bool.eq_false_iff.mpr c116
            subst c116
            have H1 : (some false) = some r := by rw [if_neg (show ¬ (false = true) by decide)] at H; exact H
            clear H
            have H := H1
            clear H1
            obtain rfl := Option.some.inj H
            obtain ⟨Ao126, co126, rfl⟩ := Z17 HO_31.out
            go_wp2_with (first | ((with_reducible refine gate_callee (f := 27) rfl ?_); refine Yz 236 Try.func27 #[.int .i64 t484, .slice Ao105 t485.length co105, .slice Ao126 t489.length co126] ?_; (with_reducible refine (impl_FollowMoves.calls kj102 t484 _ _ t485 _ _ t489 t498 false _ (Yc (Kd.R_reads' HO_29.out).2.2) ((Kd.R_reads' HO_29.out).2.1) (Yc (Kd.R_reads' HO_31.out).2.2) ((Kd.R_reads' HO_31.out).2.1) A114.out).mono ?_); rintro e w127 ⟨v500, rfl, ho0, hb⟩; refine ⟨_, rfl, ?_⟩; replace HO_29 := Yw HO_29 hb; have HO501 := Ya (Kd.S_lower (Kd.S_new' ho0 (Z16 (Yr HO_31.out))) (Z7 Q12)); replace HO_31 := Yw HO_31 hb; replace HB := Yh hb; (try clear hb ho0); obtain ⟨Ao128, co128, eo128⟩ := Kd.S_slice HO501.out; subst eo128) | ((with_reducible refine gate_callee (f := 28) rfl ?_); refine Yz 243 Try.func28 #[.int .i64 t484, .slice Ao128 t498.length co128, .slice Ao105 t485.length co105] ?_; (with_reducible refine (impl_IsMoveList.calls kj102 t484 _ _ t498 _ _ t485 t502 t503 _ (Yc (Kd.S_reads' HO501.out).2.2) ?side2 (Yc (Kd.R_reads' HO_29.out).2.2) ((Kd.R_reads' HO_29.out).2.1) A115.out).mono ?_); (case side2 => exact (Kd.S_reads' HO501.out).2.1); rintro e w129 ⟨rfl, hb⟩; refine ⟨_, rfl, ?_⟩; replace HO_29 := Yw HO_29 hb; replace HO_31 := Yw HO_31 hb; replace HO501 := Ya (Kd.S_below (Qm2 HO501.out) hb); replace HB := Yh hb; (try clear hb)))
            go_ret
            exact ⟨Q2, Q0⟩
          ·replace c113 := Bool.eq_false_iff.mpr c113
           subst c113
           have H1 : ((spec_DrawFollowMoves.f kj102 l1).bind fun bt504 => ((impl_FollowMoves.f kj102 bt504.1 bt504.2.1 bt504.2.2).bind fun bt511 => ((spec_FollowMoves.f kj102 bt504.1 bt504.2.1 bt504.2.2).bind fun bt515 => (if (bt511.2 == bt515.2) = true then ((laws_uLists.f kj102 bt511.1 bt515.1).bind fun t519 => (some t519)) else (some false))))) = some r := by rw [if_neg (show ¬ (false = true) by decide)] at H; exact H
           clear H
           have H := H1
           clear H1
           replace H := Z35.mp H
           obtain ⟨⟨t504, t505, t506⟩, A1300, H⟩ := H
           replace H : ((impl_FollowMoves.f kj102 t504 t505 t506).bind fun bt511 => ((spec_FollowMoves.f kj102 t504 t505 t506).bind fun bt515 => (if (bt511.2 == bt515.2) = true then ((laws_uLists.f kj102 bt511.1 bt515.1).bind fun t519 => (some t519)) else (some false)))) = some r := H
           have A130 := Ya A1300
           clear A1300
           replace H := Z35.mp H
           obtain ⟨⟨t511, t512⟩, A1310, H⟩ := H
           replace H : ((spec_FollowMoves.f kj102 t504 t505 t506).bind fun bt515 => (if (t512 == bt515.2) = true then ((laws_uLists.f kj102 t511 bt515.1).bind fun t519 => (some t519)) else (some false))) = some r := H
           have A131 := Ya A1310
           clear A1310
           replace H := Z35.mp H
           obtain ⟨⟨t515, t516⟩, A1320, H⟩ := H
           replace H : (if (t512 == t516) = true then ((laws_uLists.f kj102 t511 t515).bind fun t519 => (some t519)) else (some false)) = some r := H
           have A132 := Ya A1320
           clear A1320
           by_cases c133 : (t512 == t516) = true
           ·rw [if_pos c133] at H
            have c133b0 : (t512 == t516) = true := c133
            (try (have c133b1 : decide (t512 = t516) = true := by simpa using c133))
            (try (have c133b2 : (t512 == t516) = true := by simpa using c133))
            clear c133
            replace H := Z35.mp H
            obtain ⟨t519, A1340, H⟩ := H
            replace H : (some t519) = some r := H
            have A134 := Ya A1340
            clear A1340
            obtain rfl := Option.some.inj H
            go_wp2_with (first | ((with_reducible refine gate_callee (f := 29) rfl ?_); refine Yz 255 Try.func29 #[.slice A1 l1.length c1] ?_; (with_reducible refine (spec_DrawFollowMoves.calls kj102 _ _ l1 t504 t505 t506 _ (Yc (Z21 HR1.out HB.out)) HC1.out A130.out).mono ?_); rintro e w135 ⟨v507, v509, rfl, ho0, ho1, hb⟩; refine ⟨_, rfl, ?_⟩; have HO508 := Yl (Kd.R_new' ho0 (Z16 (Yr HO_29.out))); replace HO_29 := Ya (Kd.R_elder' (Yr HO_29.out) (Kd.R_base ho0) hb); have HO510 := Yl (Kd.R_new' ho1 (Z16 (Yr HO_31.out))); replace HO_31 := Ya (Kd.R_elder' (Yr HO_31.out) (Kd.R_base ho1) hb); replace HB := Yh hb; (try clear hb ho0 ho1); obtain ⟨Ao136, co136, rfl⟩ := Z17 HO508.out; obtain ⟨Ao137, co137, rfl⟩ := Z17 HO510.out) | ((with_reducible refine gate_callee (f := 27) rfl ?_); refine Yz 263 Try.func27 #[.int .i64 t504, .slice Ao136 t505.length co136, .slice Ao137 t506.length co137] ?_; (with_reducible refine (impl_FollowMoves.calls kj102 t504 _ _ t505 _ _ t506 t511 t512 _ (Yc (Kd.R_reads' HO508.out).2.2) ((Kd.R_reads' HO508.out).2.1) (Yc (Kd.R_reads' HO510.out).2.2) ((Kd.R_reads' HO510.out).2.1) A131.out).mono ?_); rintro e w138 ⟨v513, rfl, ho0, hb⟩; refine ⟨_, rfl, ?_⟩; replace HO_29 := Yw HO_29 hb; replace HO508 := Yw HO508 hb; have HO514 := Ya (Kd.S_lower (Kd.S_new' (Kd.S_new' ho0 (Z16 (Yr HO_31.out))) (Z16 (Yr HO510.out))) (Z7 Q12)); replace HO_31 := Yw HO_31 hb; replace HO510 := Yw HO510 hb; replace HB := Yh hb; (try clear hb ho0)) | ((with_reducible refine gate_callee (f := 30) rfl ?_); refine Yz 270 Try.func30 #[.int .i64 t504, .slice Ao136 t505.length co136, .slice Ao137 t506.length co137] ?_; (with_reducible refine (spec_FollowMoves.calls kj102 t504 _ _ t505 _ _ t506 t515 t516 _ (Yc (Kd.R_reads' HO508.out).2.2) ((Kd.R_reads' HO508.out).2.1) (Yc (Kd.R_reads' HO510.out).2.2) ((Kd.R_reads' HO510.out).2.1) A132.out).mono ?_); rintro e w139 ⟨v517, rfl, ho0, hb⟩; refine ⟨_, rfl, ?_⟩; replace HO_29 := Yw HO_29 hb; replace HO508 := Yw HO508 hb; have HO518 := Ya (Kd.S_lower (Kd.S_new' (Kd.S_new' (Kd.S_new' ho0 (Z16 (Yr HO_31.out))) (Z16 (Yr HO510.out))) (Kd.S_lt (Qm2 HO514.out))) (Z7 Q12)); replace HO_31 := Yw HO_31 hb; replace HO510 := Yw HO510 hb; replace HO514 := Ya (Kd.S_elder' (Qm2 HO514.out) (Kd.S_base ho0) hb); replace HB := Yh hb; (try clear hb ho0); obtain ⟨Ao140, co140, eo140⟩ := Kd.S_slice HO514.out; subst eo140; obtain ⟨Ao141, co141, eo141⟩ := Kd.S_slice HO518.out; subst eo141) | (go_at_call 31; (with_reducible refine (laws_uLists.calls kj102 _ _ t511 _ _ t515 t519 _ (Yc (Kd.S_reads' HO514.out).2.2) ?side2 (Yc (Kd.S_reads' HO518.out).2.2) ?side4 A134.out).mono ?_); (case side2 => exact (Kd.S_reads' HO514.out).2.1); (case side4 => exact (Kd.S_reads' HO518.out).2.1); rintro e w' ⟨rfl, ⟨nd, rfl⟩⟩))
            go_ret
            exact ⟨Q2, Q0⟩
           ·rw [if_neg c133] at H
            have c133b0 : (t512 == t516) = false := by simpa using c133
            (try (have c133b1 : decide (t512 = t516) = false := by simpa using c133))
            (try (have c133b2 : (t512 == t516) = false := by simpa using c133))
            (try (have c133b3 : ¬ (t512 = t516) := by simpa using c133))
            clear c133
            obtain rfl := Option.some.inj H
            go_wp2_with (first | ((with_reducible refine gate_callee (f := 29) rfl ?_); refine Yz 255 Try.func29 #[.slice A1 l1.length c1] ?_; (with_reducible refine (spec_DrawFollowMoves.calls kj102 _ _ l1 t504 t505 t506 _ (Yc (Z21 HR1.out HB.out)) HC1.out A130.out).mono ?_); rintro e w142 ⟨v507, v509, rfl, ho0, ho1, hb⟩; refine ⟨_, rfl, ?_⟩; have HO508 := Yl (Kd.R_new' ho0 (Z16 (Yr HO_29.out))); replace HO_29 := Ya (Kd.R_elder' (Yr HO_29.out) (Kd.R_base ho0) hb); have HO510 := Yl (Kd.R_new' ho1 (Z16 (Yr HO_31.out))); replace HO_31 := Ya (Kd.R_elder' (Yr HO_31.out) (Kd.R_base ho1) hb); replace HB := Yh hb; (try clear hb ho0 ho1); obtain ⟨Ao143, co143, rfl⟩ := Z17 HO508.out; obtain ⟨Ao144, co144, rfl⟩ := Z17 HO510.out) | ((with_reducible refine gate_callee (f := 27) rfl ?_); refine Yz 263 Try.func27 #[.int .i64 t504, .slice Ao143 t505.length co143, .slice Ao144 t506.length co144] ?_; (with_reducible refine (impl_FollowMoves.calls kj102 t504 _ _ t505 _ _ t506 t511 t512 _ (Yc (Kd.R_reads' HO508.out).2.2) ((Kd.R_reads' HO508.out).2.1) (Yc (Kd.R_reads' HO510.out).2.2) ((Kd.R_reads' HO510.out).2.1) A131.out).mono ?_); rintro e w145 ⟨v513, rfl, ho0, hb⟩; refine ⟨_, rfl, ?_⟩; replace HO_29 := Yw HO_29 hb; replace HO508 := Yw HO508 hb; have HO514 := Ya (Kd.S_lower (Kd.S_new' (Kd.S_new' ho0 (Z16 (Yr HO_31.out))) (Z16 (Yr HO510.out))) (Z7 Q12)); replace HO_31 := Yw HO_31 hb; replace HO510 := Yw HO510 hb; replace HB := Yh hb; (try clear hb ho0)) | ((with_reducible refine gate_callee (f := 30) rfl ?_); refine Yz 270 Try.func30 #[.int .i64 t504, .slice Ao143 t505.length co143, .slice Ao144 t506.length co144] ?_; (with_reducible refine (spec_FollowMoves.calls kj102 t504 _ _ t505 _ _ t506 t515 t516 _ (Yc (Kd.R_reads' HO508.out).2.2) ((Kd.R_reads' HO508.out).2.1) (Yc (Kd.R_reads' HO510.out).2.2) ((Kd.R_reads' HO510.out).2.1) A132.out).mono ?_); rintro e w146 ⟨v517, rfl, ho0, hb⟩; refine ⟨_, rfl, ?_⟩; replace HO_29 := Yw HO_29 hb; replace HO508 := Yw HO508 hb; have HO518 := Ya (Kd.S_lower (Kd.S_new' (Kd.S_new' (Kd.S_new' ho0 (Z16 (Yr HO_31.out))) (Z16 (Yr HO510.out))) (Kd.S_lt (Qm2 HO514.out))) (Z7 Q12)); replace HO_31 := Yw HO_31 hb; replace HO510 := Yw HO510 hb; replace HO514 := Ya (Kd.S_elder' (Qm2 HO514.out) (Kd.S_base ho0) hb); replace HB := Yh hb; (try clear hb ho0)))
            go_ret
            exact ⟨Q2, Q0⟩
def laws_FnReached.Pure : Prop := ∀ (l0 : List Int) (l1 : List Int), l0.length ≤ maxLen → l0.length * 1 ≤ 140737488351232 → (∀ x ∈ l0, (Lit.int .u8 x).wf = true) → l1.length ≤ maxLen → l1.length * 1 ≤ 140737488351232 → (∀ x ∈ l1, (Lit.int .u8 x).wf = true) → ∃ k, laws_FnReached.f k l0 l1 = some true
theorem laws_FnReached.walk (P : laws_FnReached.Pure) (a0 : Option Addr) (len0 cap0 : Nat) (z0 : List Int) (a1 : Option Addr) (len1 cap1 : Nat) (z1 : List Int) (w : World) (w0 : (a0 = none ∧ len0 = 0 ∧ cap0 = 0 ∧ z0 = []) ∨ ∃ x, a0 = some x ∧ len0 ≤ cap0 ∧ cap0 ≤ maxLen ∧ z0.length = cap0 ∧ (∀ i, i < z0.length → w.cell? (x.add i) = some (.int .u8 (z0.getD i 0))) ∧ ∀ n ∈ z0, (Lit.int .u8 n).wf = true) (y0 : len0 * 1 ≤ 140737488351232) (w1 : (a1 = none ∧ len1 = 0 ∧ cap1 = 0 ∧ z1 = []) ∨ ∃ x, a1 = some x ∧ len1 ≤ cap1 ∧ cap1 ≤ maxLen ∧ z1.length = cap1 ∧ (∀ i, i < z1.length → w.cell? (x.add i) = some (.int .u8 (z1.getD i 0))) ∧ ∀ n ∈ z1, (Lit.int .u8 n).wf = true) (y1 : len1 * 1 ≤ 140737488351232) :
  Calls Try.prog 4 #[.slice a0 len0 cap0, .slice a1 len1 cap1] w fun e w' => e = .returned (.bool true) ∧ Below w.heap.size w w' := by
 obtain ⟨l0, rfl, hr0, hm0, hw0, hc0⟩ := ReadsInt.ofRowC w0
 obtain ⟨l1, rfl, hr1, hm1, hw1, hc1⟩ := ReadsInt.ofRowC w1
 obtain ⟨k, h⟩ := P l0 l1 hm0 y0 hw0 hm1 y1 hw1
 refine (laws_FnReached.calls k _ _ l0 _ _ l1 true w (Kd.C_of_reads (d := (0 : Int)) (h1 := fun _ => rfl) hr0) hc0 (Kd.C_of_reads (d := (0 : Int)) (h1 := fun _ => rfl) hr1) hc1 h).mono ?_
 rintro e w' ⟨rfl, hd⟩
 exact ⟨rfl, hd⟩
end Go.Proofs.Ytllhnnjkonghlaa.MFnReached
