/- Functions of the program as Lean functions, each with the proof that its call comes to just that: laid for this claim by this session's own program. -/
import Derived.Test.YtelajnmnbmamhaaMFnRevolvingDoorx0
import Derived.Test.YtelajnmnbmamhaaMFnRevolvingDoorx3
import Derived.Test.YtelajnmnbmamhaaMFnRevolvingDoorx4
import Derived.Test.YtelajnmnbmamhaaMFnRevolvingDoorx5
import Derived.Test.YtelajnmnbmamhaaMFnRevolvingDoorx6
import Derived.Test.YtelajnmnbmamhaaMFnRevolvingDoorx7
import Derived.Test.YtelajnmnbmamhaaMFnRevolvingDoorx8
namespace Go.Proofs.Ytelajnmnbmamhaa.MFnRevolvingDoor
open Go.RowKit Go.Proofs.YtelajnmnbmamhaaW.PrintWords Go.Proofs.YtelajnmnbmamhaaW.PrintLast Go.Proofs.YtelajnmnbmamhaaW.PrintMore
attribute [local go_sem] max2_int min2_int max_two min_two max_three min_three max_four min_four   -- for this text's walks alone
set_option linter.unusedVariables false
set_option linter.unusedSimpArgs false

/-! ### laws_FnRevolvingDoor: function 11 -/
mutual
def laws_FnRevolvingDoor.j0 : Nat → List Int → Int → Int → List (List Int) → Bool → Bool → Option (Bool)
  | 0, _, _, _, _, _, _ => none
  | k + 1, x1, x5, x6, x7, x8, x65 => if x65 = true then (some false) else (if x8 = true then ((impl_IsRoundExchange.f k x5 x6 x7).bind fun bt370 => ((impl_Binomial.f k x5 x6).bind fun bt372 => (if bt370.2 = true then (if bt370.1 = true then (if bt372.2 = true then (laws_FnRevolvingDoor.j1 k x1 x5 x7 (bt372.1 != (x7.length : Int))) else (laws_FnRevolvingDoor.j1 k x1 x5 x7 true)) else (laws_FnRevolvingDoor.j1 k x1 x5 x7 true)) else (laws_FnRevolvingDoor.j1 k x1 x5 x7 true)))) else (laws_FnRevolvingDoor.j2 k x1))
def laws_FnRevolvingDoor.j2 : Nat → List Int → Option (Bool)
  | 0, _ => none
  | k + 1, x1 => (spec_DrawRevolvingAt.f k x1).bind fun bt385 => ((impl_RevolvingAt.f k bt385.1 bt385.2.1 bt385.2.2).bind fun bt388 => ((spec_RevolvingAt.f k bt385.1 bt385.2.1 bt385.2.2).bind fun bt392 => (if (bt388.2 != bt392.2) = true then (laws_FnRevolvingDoor.j3 k x1 true) else ((laws_uSame.f k bt388.1 bt392.1).bind fun t396 => (laws_FnRevolvingDoor.j3 k x1 (!t396))))))
def laws_FnRevolvingDoor.j3 : Nat → List Int → Bool → Option (Bool)
  | 0, _, _ => none
  | k + 1, x1, x176 => if x176 = true then (some false) else ((spec_DrawNextRevolving.f k x1).bind fun bt397 => ((impl_NextRevolving.f k bt397.1 bt397.2).bind fun bt401 => ((spec_NextRevolving.f k bt397.1 bt397.2).bind fun bt405 => ((impl_RevolvingRank.f k bt397.1 bt397.2).bind fun bt409 => ((spec_RevolvingRank.f k bt397.1 bt397.2).bind fun bt411 => (if (bt401.2 == bt405.2) = true then ((laws_uSame.f k bt401.1 bt405.1).bind fun t413 => (if t413 = true then (if (bt409.2 == bt411.2) = true then (some (bt409.1 == bt411.1)) else (some false)) else (some false))) else (some false)))))))
def laws_FnRevolvingDoor.j1 : Nat → List Int → Int → List (List Int) → Bool → Option (Bool)
  | 0, _, _, _, _ => none
  | k + 1, x1, x5, x7, x95 => if x95 = true then (some false) else ((laws_numberOf.f k x1).bind fun t374 => (if (x7.length : Int) = 0 then (none) else (if 0 ≤ (Int.tmod t374 (x7.length : Int)) then (if (Int.tmod t374 (x7.length : Int)) < (x7.length : Int) then ((impl_RevolvingRank.f k x5 (rd_L1 x7 (Int.tmod t374 (x7.length : Int)))).bind fun bt376 => ((impl_NextRevolving.f k x5 (rd_L1 x7 (Int.tmod t374 (x7.length : Int)))).bind fun bt379 => (if bt376.2 = true then (if bt376.1 = (Int.tmod t374 (x7.length : Int)) then (if (bt379.2 != (decide ((wrap64 ((Int.tmod t374 (x7.length : Int)) + 1)) < (x7.length : Int)))) = true then (some false) else (if bt379.2 = true then (if 0 ≤ (wrap64 ((Int.tmod t374 (x7.length : Int)) + 1)) then (if (wrap64 ((Int.tmod t374 (x7.length : Int)) + 1)) < (x7.length : Int) then ((laws_uSame.f k bt379.1 (rd_L1 x7 (wrap64 ((Int.tmod t374 (x7.length : Int)) + 1)))).bind fun t384 => (if t384 = true then (laws_FnRevolvingDoor.j2 k x1) else (some false))) else (none)) else (none)) else (laws_FnRevolvingDoor.j2 k x1))) else (some false)) else (some false)))) else (none)) else (none))))
end
def laws_FnRevolvingDoor.f (k : Nat) (l0 : List Int) (l1 : List Int) : Option (Bool) := (laws_big.f l0 l1).bind fun t358 => (if t358 = true then (some true) else ((spec_DrawRevolvingList.f l0).bind fun bt359 => ((impl_RevolvingList.f k bt359.1 bt359.2).bind fun bt361 => ((spec_RevolvingList.f k bt359.1 bt359.2).bind fun bt365 => (if (bt361.2 != bt365.2) = true then (laws_FnRevolvingDoor.j0 k l1 bt359.1 bt359.2 bt361.1 bt361.2 true) else ((laws_uLists.f k bt361.1 bt365.1).bind fun t369 => (laws_FnRevolvingDoor.j0 k l1 bt359.1 bt359.2 bt361.1 bt361.2 (!t369))))))))
theorem laws_FnRevolvingDoor.mono_l : ∀ k, (∀ y0 y1 y2 y3 y4 y5, LeO (laws_FnRevolvingDoor.j0 k y0 y1 y2 y3 y4 y5) (laws_FnRevolvingDoor.j0 (k + 1) y0 y1 y2 y3 y4 y5)) ∧ (∀ y0, LeO (laws_FnRevolvingDoor.j2 k y0) (laws_FnRevolvingDoor.j2 (k + 1) y0)) ∧ (∀ y0 y1, LeO (laws_FnRevolvingDoor.j3 k y0 y1) (laws_FnRevolvingDoor.j3 (k + 1) y0 y1)) ∧ (∀ y0 y1 y2 y3, LeO (laws_FnRevolvingDoor.j1 k y0 y1 y2 y3) (laws_FnRevolvingDoor.j1 (k + 1) y0 y1 y2 y3))
  | 0 => ⟨fun _ _ _ _ _ _ r h => by simp [laws_FnRevolvingDoor.j0] at h, fun _ r h => by simp [laws_FnRevolvingDoor.j2] at h, fun _ _ r h => by simp [laws_FnRevolvingDoor.j3] at h, fun _ _ _ _ r h => by simp [laws_FnRevolvingDoor.j1] at h⟩
  | k + 1 => by
    obtain ⟨ih0, ih1, ih2, ih3⟩ := laws_FnRevolvingDoor.mono_l k
    refine ⟨?_, ?_, ?_, ?_⟩
    · intro y0 y1 y2 y3 y4 y5
      unfold laws_FnRevolvingDoor.j0
      repeat' first
      | (with_reducible exact ih0 _ _ _ _ _ _)
      | (with_reducible exact ih1 _)
      | (with_reducible exact ih2 _ _)
      | (with_reducible exact ih3 _ _ _ _)
      | (with_reducible exact impl_Binomial.mono _ _ _)
      | (with_reducible exact impl_IsRoundExchange.mono _ _ _ _)
      | (with_reducible exact impl_NextRevolving.mono _ _ _)
      | (with_reducible exact impl_RevolvingAt.mono _ _ _ _)
      | (with_reducible exact impl_RevolvingList.mono _ _ _)
      | (with_reducible exact impl_RevolvingRank.mono _ _ _)
      | (with_reducible exact laws_numberOf.mono _ _)
      | (with_reducible exact laws_uLists.mono _ _ _)
      | (with_reducible exact laws_uSame.mono _ _ _)
      | (with_reducible exact spec_DrawNextRevolving.mono _ _)
      | (with_reducible exact spec_DrawRevolvingAt.mono _ _)
      | (with_reducible exact spec_NextRevolving.mono _ _ _)
      | (with_reducible exact spec_RevolvingAt.mono _ _ _ _)
      | (with_reducible exact spec_RevolvingList.mono _ _ _)
      | (with_reducible exact spec_RevolvingRank.mono _ _ _)
      | (with_reducible exact LeO.refl _)
      | (with_reducible exact LeO.none _)
      | (with_reducible refine LeO.ite ?_ ?_)
      | (with_reducible refine LeO.bind ?_ (fun _ => ?_))
      | exact ih0 _ _ _ _ _ _
      | exact ih1 _
      | exact ih2 _ _
      | exact ih3 _ _ _ _
      | exact impl_Binomial.mono _ _ _
      | exact impl_IsRoundExchange.mono _ _ _ _
      | exact impl_NextRevolving.mono _ _ _
      | exact impl_RevolvingAt.mono _ _ _ _
      | exact impl_RevolvingList.mono _ _ _
      | exact impl_RevolvingRank.mono _ _ _
      | exact laws_numberOf.mono _ _
      | exact laws_uLists.mono _ _ _
      | exact laws_uSame.mono _ _ _
      | exact spec_DrawNextRevolving.mono _ _
      | exact spec_DrawRevolvingAt.mono _ _
      | exact spec_NextRevolving.mono _ _ _
      | exact spec_RevolvingAt.mono _ _ _ _
      | exact spec_RevolvingList.mono _ _ _
      | exact spec_RevolvingRank.mono _ _ _
      | exact LeO.none _
      | refine LeO.ite ?_ ?_
      | refine LeO.bind ?_ (fun _ => ?_)
    · intro y0
      unfold laws_FnRevolvingDoor.j2
      repeat' first
      | (with_reducible exact ih0 _ _ _ _ _ _)
      | (with_reducible exact ih1 _)
      | (with_reducible exact ih2 _ _)
      | (with_reducible exact ih3 _ _ _ _)
      | (with_reducible exact impl_Binomial.mono _ _ _)
      | (with_reducible exact impl_IsRoundExchange.mono _ _ _ _)
      | (with_reducible exact impl_NextRevolving.mono _ _ _)
      | (with_reducible exact impl_RevolvingAt.mono _ _ _ _)
      | (with_reducible exact impl_RevolvingList.mono _ _ _)
      | (with_reducible exact impl_RevolvingRank.mono _ _ _)
      | (with_reducible exact laws_numberOf.mono _ _)
      | (with_reducible exact laws_uLists.mono _ _ _)
      | (with_reducible exact laws_uSame.mono _ _ _)
      | (with_reducible exact spec_DrawNextRevolving.mono _ _)
      | (with_reducible exact spec_DrawRevolvingAt.mono _ _)
      | (with_reducible exact spec_NextRevolving.mono _ _ _)
      | (with_reducible exact spec_RevolvingAt.mono _ _ _ _)
      | (with_reducible exact spec_RevolvingList.mono _ _ _)
      | (with_reducible exact spec_RevolvingRank.mono _ _ _)
      | (with_reducible exact LeO.refl _)
      | (with_reducible exact LeO.none _)
      | (with_reducible refine LeO.ite ?_ ?_)
      | (with_reducible refine LeO.bind ?_ (fun _ => ?_))
      | exact ih0 _ _ _ _ _ _
      | exact ih1 _
      | exact ih2 _ _
      | exact ih3 _ _ _ _
      | exact impl_Binomial.mono _ _ _
      | exact impl_IsRoundExchange.mono _ _ _ _
      | exact impl_NextRevolving.mono _ _ _
      | exact impl_RevolvingAt.mono _ _ _ _
      | exact impl_RevolvingList.mono _ _ _
      | exact impl_RevolvingRank.mono _ _ _
      | exact laws_numberOf.mono _ _
      | exact laws_uLists.mono _ _ _
      | exact laws_uSame.mono _ _ _
      | exact spec_DrawNextRevolving.mono _ _
      | exact spec_DrawRevolvingAt.mono _ _
      | exact spec_NextRevolving.mono _ _ _
      | exact spec_RevolvingAt.mono _ _ _ _
      | exact spec_RevolvingList.mono _ _ _
      | exact spec_RevolvingRank.mono _ _ _
      | exact LeO.none _
      | refine LeO.ite ?_ ?_
      | refine LeO.bind ?_ (fun _ => ?_)
    · intro y0 y1
      unfold laws_FnRevolvingDoor.j3
      repeat' first
      | (with_reducible exact ih0 _ _ _ _ _ _)
      | (with_reducible exact ih1 _)
      | (with_reducible exact ih2 _ _)
      | (with_reducible exact ih3 _ _ _ _)
      | (with_reducible exact impl_Binomial.mono _ _ _)
      | (with_reducible exact impl_IsRoundExchange.mono _ _ _ _)
      | (with_reducible exact impl_NextRevolving.mono _ _ _)
      | (with_reducible exact impl_RevolvingAt.mono _ _ _ _)
      | (with_reducible exact impl_RevolvingList.mono _ _ _)
      | (with_reducible exact impl_RevolvingRank.mono _ _ _)
      | (with_reducible exact laws_numberOf.mono _ _)
      | (with_reducible exact laws_uLists.mono _ _ _)
      | (with_reducible exact laws_uSame.mono _ _ _)
      | (with_reducible exact spec_DrawNextRevolving.mono _ _)
      | (with_reducible exact spec_DrawRevolvingAt.mono _ _)
      | (with_reducible exact spec_NextRevolving.mono _ _ _)
      | (with_reducible exact spec_RevolvingAt.mono _ _ _ _)
      | (with_reducible exact spec_RevolvingList.mono _ _ _)
      | (with_reducible exact spec_RevolvingRank.mono _ _ _)
      | (with_reducible exact LeO.refl _)
      | (with_reducible exact LeO.none _)
      | (with_reducible refine LeO.ite ?_ ?_)
      | (with_reducible refine LeO.bind ?_ (fun _ => ?_))
      | exact ih0 _ _ _ _ _ _
      | exact ih1 _
      | exact ih2 _ _
      | exact ih3 _ _ _ _
      | exact impl_Binomial.mono _ _ _
      | exact impl_IsRoundExchange.mono _ _ _ _
      | exact impl_NextRevolving.mono _ _ _
      | exact impl_RevolvingAt.mono _ _ _ _
      | exact impl_RevolvingList.mono _ _ _
      | exact impl_RevolvingRank.mono _ _ _
      | exact laws_numberOf.mono _ _
      | exact laws_uLists.mono _ _ _
      | exact laws_uSame.mono _ _ _
      | exact spec_DrawNextRevolving.mono _ _
      | exact spec_DrawRevolvingAt.mono _ _
      | exact spec_NextRevolving.mono _ _ _
      | exact spec_RevolvingAt.mono _ _ _ _
      | exact spec_RevolvingList.mono _ _ _
      | exact spec_RevolvingRank.mono _ _ _
      | exact LeO.none _
      | refine LeO.ite ?_ ?_
      | refine LeO.bind ?_ (fun _ => ?_)
    · intro y0 y1 y2 y3
      unfold laws_FnRevolvingDoor.j1
      repeat' first
      | (with_reducible exact ih0 _ _ _ _ _ _)
      | (with_reducible exact ih1 _)
      | (with_reducible exact ih2 _ _)
      | (with_reducible exact ih3 _ _ _ _)
      | (with_reducible exact impl_Binomial.mono _ _ _)
      | (with_reducible exact impl_IsRoundExchange.mono _ _ _ _)
      | (with_reducible exact impl_NextRevolving.mono _ _ _)
      | (with_reducible exact impl_RevolvingAt.mono _ _ _ _)
      | (with_reducible exact impl_RevolvingList.mono _ _ _)
      | (with_reducible exact impl_RevolvingRank.mono _ _ _)
      | (with_reducible exact laws_numberOf.mono _ _)
      | (with_reducible exact laws_uLists.mono _ _ _)
      | (with_reducible exact laws_uSame.mono _ _ _)
      | (with_reducible exact spec_DrawNextRevolving.mono _ _)
      | (with_reducible exact spec_DrawRevolvingAt.mono _ _)
      | (with_reducible exact spec_NextRevolving.mono _ _ _)
      | (with_reducible exact spec_RevolvingAt.mono _ _ _ _)
      | (with_reducible exact spec_RevolvingList.mono _ _ _)
      | (with_reducible exact spec_RevolvingRank.mono _ _ _)
      | (with_reducible exact LeO.refl _)
      | (with_reducible exact LeO.none _)
      | (with_reducible refine LeO.ite ?_ ?_)
      | (with_reducible refine LeO.bind ?_ (fun _ => ?_))
      | exact ih0 _ _ _ _ _ _
      | exact ih1 _
      | exact ih2 _ _
      | exact ih3 _ _ _ _
      | exact impl_Binomial.mono _ _ _
      | exact impl_IsRoundExchange.mono _ _ _ _
      | exact impl_NextRevolving.mono _ _ _
      | exact impl_RevolvingAt.mono _ _ _ _
      | exact impl_RevolvingList.mono _ _ _
      | exact impl_RevolvingRank.mono _ _ _
      | exact laws_numberOf.mono _ _
      | exact laws_uLists.mono _ _ _
      | exact laws_uSame.mono _ _ _
      | exact spec_DrawNextRevolving.mono _ _
      | exact spec_DrawRevolvingAt.mono _ _
      | exact spec_NextRevolving.mono _ _ _
      | exact spec_RevolvingAt.mono _ _ _ _
      | exact spec_RevolvingList.mono _ _ _
      | exact spec_RevolvingRank.mono _ _ _
      | exact LeO.none _
      | refine LeO.ite ?_ ?_
      | refine LeO.bind ?_ (fun _ => ?_)
theorem laws_FnRevolvingDoor.mono : ∀ a0 a1 k, LeO (laws_FnRevolvingDoor.f k a0 a1) (laws_FnRevolvingDoor.f (k + 1) a0 a1) := by
  intro a0 a1 k
  obtain ⟨ih0, ih1, ih2, ih3⟩ := laws_FnRevolvingDoor.mono_l k
  unfold laws_FnRevolvingDoor.f
  repeat' first
      | (with_reducible exact ih0 _ _ _ _ _ _)
      | (with_reducible exact ih1 _)
      | (with_reducible exact ih2 _ _)
      | (with_reducible exact ih3 _ _ _ _)
      | (with_reducible exact impl_Binomial.mono _ _ _)
      | (with_reducible exact impl_IsRoundExchange.mono _ _ _ _)
      | (with_reducible exact impl_NextRevolving.mono _ _ _)
      | (with_reducible exact impl_RevolvingAt.mono _ _ _ _)
      | (with_reducible exact impl_RevolvingList.mono _ _ _)
      | (with_reducible exact impl_RevolvingRank.mono _ _ _)
      | (with_reducible exact laws_numberOf.mono _ _)
      | (with_reducible exact laws_uLists.mono _ _ _)
      | (with_reducible exact laws_uSame.mono _ _ _)
      | (with_reducible exact spec_DrawNextRevolving.mono _ _)
      | (with_reducible exact spec_DrawRevolvingAt.mono _ _)
      | (with_reducible exact spec_NextRevolving.mono _ _ _)
      | (with_reducible exact spec_RevolvingAt.mono _ _ _ _)
      | (with_reducible exact spec_RevolvingList.mono _ _ _)
      | (with_reducible exact spec_RevolvingRank.mono _ _ _)
      | (with_reducible exact LeO.refl _)
      | (with_reducible exact LeO.none _)
      | (with_reducible refine LeO.ite ?_ ?_)
      | (with_reducible refine LeO.bind ?_ (fun _ => ?_))
      | exact ih0 _ _ _ _ _ _
      | exact ih1 _
      | exact ih2 _ _
      | exact ih3 _ _ _ _
      | exact impl_Binomial.mono _ _ _
      | exact impl_IsRoundExchange.mono _ _ _ _
      | exact impl_NextRevolving.mono _ _ _
      | exact impl_RevolvingAt.mono _ _ _ _
      | exact impl_RevolvingList.mono _ _ _
      | exact impl_RevolvingRank.mono _ _ _
      | exact laws_numberOf.mono _ _
      | exact laws_uLists.mono _ _ _
      | exact laws_uSame.mono _ _ _
      | exact spec_DrawNextRevolving.mono _ _
      | exact spec_DrawRevolvingAt.mono _ _
      | exact spec_NextRevolving.mono _ _ _
      | exact spec_RevolvingAt.mono _ _ _ _
      | exact spec_RevolvingList.mono _ _ _
      | exact spec_RevolvingRank.mono _ _ _
      | exact LeO.none _
      | refine LeO.ite ?_ ?_
      | refine LeO.bind ?_ (fun _ => ?_)
set_option maxHeartbeats 8000000 in
set_option maxRecDepth 100000 in
theorem laws_FnRevolvingDoor.calls (k : Nat) (A0 : Option Addr) (c0 : Nat) (l0 : List Int) (A1 : Option Addr) (c1 : Nat) (l1 : List Int) (r : Bool) (w : World) (hr0 : Kd.C (Kd.int .u8) w A0 l0.length l0) (hc0 : l0.length ≤ c0) (hr1 : Kd.C (Kd.int .u8) w A1 l1.length l1) (hc1 : l1.length ≤ c1) (h : laws_FnRevolvingDoor.f k l0 l1 = some r) :
    Calls Try.prog 11 #[.slice A0 l0.length c0, .slice A1 l1.length c1] w fun e w' => e = .returned (.bool r) ∧ Below w.heap.size w w' := by
  have HR0 := Aside0.mk hr0
  have HC0 := Aside0.mk hc0
  clear hr0 hc0
  have HR1 := Aside0.mk hr1
  have HC1 := Aside0.mk hc1
  clear hr1 hc1
  have HB := Aside0.mk (Below.refl w.heap.size w)
  have H : ((laws_big.f l0 l1).bind fun t358 => (if t358 = true then (some true) else ((spec_DrawRevolvingList.f l0).bind fun bt359 => ((impl_RevolvingList.f k bt359.1 bt359.2).bind fun bt361 => ((spec_RevolvingList.f k bt359.1 bt359.2).bind fun bt365 => (if (bt361.2 != bt365.2) = true then (laws_FnRevolvingDoor.j0 k l1 bt359.1 bt359.2 bt361.1 bt361.2 true) else ((laws_uLists.f k bt361.1 bt365.1).bind fun t369 => (laws_FnRevolvingDoor.j0 k l1 bt359.1 bt359.2 bt361.1 bt361.2 (!t369))))))))) = some r := h
  clear h
  replace H := Option.bind_eq_some_iff.mp H
  obtain ⟨t358, A30, H⟩ := H
  replace H : (if t358 = true then (some true) else ((spec_DrawRevolvingList.f l0).bind fun bt359 => ((impl_RevolvingList.f k bt359.1 bt359.2).bind fun bt361 => ((spec_RevolvingList.f k bt359.1 bt359.2).bind fun bt365 => (if (bt361.2 != bt365.2) = true then (laws_FnRevolvingDoor.j0 k l1 bt359.1 bt359.2 bt361.1 bt361.2 true) else ((laws_uLists.f k bt361.1 bt365.1).bind fun t369 => (laws_FnRevolvingDoor.j0 k l1 bt359.1 bt359.2 bt361.1 bt361.2 (!t369)))))))) = some r := H
  have A3 := Aside0.mk A30
  clear A30
  by_cases c4 : t358 = true
  · subst c4
    have H1 : (some true) = some r := by rw [if_pos rfl] at H; exact H
    clear H
    have H := H1
    clear H1
    obtain rfl := Option.some.inj H
    go_enter Try.func11, Try.ntmps11
    go_wp2_with (first | ((with_reducible refine gate_callee (f := 32) rfl ?_); refine goesL_ (some 39) rfl rfl Try.func32 (by kernel_rfl) rfl #[.slice A0 l0.length c0, .slice A1 l1.length c1] rfl (by (try simp only [List.map_toArray, List.map_cons, List.map_nil]); first | done | rfl | (simp only [List.length_drop, List.length_take]; rfl)) ?_; (with_reducible refine (laws_big.calls _ _ l0 _ _ l1 true _ ?side1 ?side2 ?side3 ?side4 A3.out).mono ?_); (case side1 => repeat (first | exact HR0.out | (with_reducible refine Kd.C_alloc ?_ _) | (with_reducible refine Kd.C_drewN ?_ _) | (with_reducible refine Kd.C_drew ?_))); (case side2 => exact HC0.out); (case side3 => repeat (first | exact HR1.out | (with_reducible refine Kd.C_alloc ?_ _) | (with_reducible refine Kd.C_drewN ?_ _) | (with_reducible refine Kd.C_drew ?_))); (case side4 => exact HC1.out); rintro e w' ⟨rfl, ⟨nd, rfl⟩⟩; refine ⟨_, rfl, ?_⟩))
    go_ret
    exact ⟨by first | rfl | (simp [errW_none, errW_some] <;> rfl) | (simp [*, errW_none, errW_some] <;> rfl), by repeat (first | (with_reducible first | exact HB.out | apply below_alloc | apply pw_below_drewN | apply below_drew1) | exact HB.out)⟩
  · replace c4 := Bool.eq_false_iff.mpr c4
    subst c4
    have H1 : ((spec_DrawRevolvingList.f l0).bind fun bt359 => ((impl_RevolvingList.f k bt359.1 bt359.2).bind fun bt361 => ((spec_RevolvingList.f k bt359.1 bt359.2).bind fun bt365 => (if (bt361.2 != bt365.2) = true then (laws_FnRevolvingDoor.j0 k l1 bt359.1 bt359.2 bt361.1 bt361.2 true) else ((laws_uLists.f k bt361.1 bt365.1).bind fun t369 => (laws_FnRevolvingDoor.j0 k l1 bt359.1 bt359.2 bt361.1 bt361.2 (!t369))))))) = some r := by rw [if_neg (show ¬ (false = true) by decide)] at H; exact H
    clear H
    have H := H1
    clear H1
    replace H := Option.bind_eq_some_iff.mp H
    obtain ⟨⟨t359, t360⟩, A50, H⟩ := H
    replace H : ((impl_RevolvingList.f k t359 t360).bind fun bt361 => ((spec_RevolvingList.f k t359 t360).bind fun bt365 => (if (bt361.2 != bt365.2) = true then (laws_FnRevolvingDoor.j0 k l1 t359 t360 bt361.1 bt361.2 true) else ((laws_uLists.f k bt361.1 bt365.1).bind fun t369 => (laws_FnRevolvingDoor.j0 k l1 t359 t360 bt361.1 bt361.2 (!t369)))))) = some r := H
    have A5 := Aside0.mk A50
    clear A50
    replace H := Option.bind_eq_some_iff.mp H
    obtain ⟨⟨t361, t362⟩, A60, H⟩ := H
    replace H : ((spec_RevolvingList.f k t359 t360).bind fun bt365 => (if (t362 != bt365.2) = true then (laws_FnRevolvingDoor.j0 k l1 t359 t360 t361 t362 true) else ((laws_uLists.f k t361 bt365.1).bind fun t369 => (laws_FnRevolvingDoor.j0 k l1 t359 t360 t361 t362 (!t369))))) = some r := H
    have A6 := Aside0.mk A60
    clear A60
    replace H := Option.bind_eq_some_iff.mp H
    obtain ⟨⟨t365, t368⟩, A70, H⟩ := H
    replace H : (if (t362 != t368) = true then (laws_FnRevolvingDoor.j0 k l1 t359 t360 t361 t362 true) else ((laws_uLists.f k t361 t365).bind fun t369 => (laws_FnRevolvingDoor.j0 k l1 t359 t360 t361 t362 (!t369)))) = some r := H
    have A7 := Aside0.mk A70
    clear A70
    have HC8 := Aside0.mk H
    clear H
    go_enter Try.func11, Try.ntmps11
    go_upto_region 6 with (first | ((with_reducible refine gate_callee (f := 32) rfl ?_); refine goesL_ (some 39) rfl rfl Try.func32 (by kernel_rfl) rfl #[.slice A0 l0.length c0, .slice A1 l1.length c1] rfl (by (try simp only [List.map_toArray, List.map_cons, List.map_nil]); first | done | rfl | (simp only [List.length_drop, List.length_take]; rfl)) ?_; (with_reducible refine (laws_big.calls _ _ l0 _ _ l1 false _ ?side1 ?side2 ?side3 ?side4 A3.out).mono ?_); (case side1 => repeat (first | exact HR0.out | (with_reducible refine Kd.C_alloc ?_ _) | (with_reducible refine Kd.C_drewN ?_ _) | (with_reducible refine Kd.C_drew ?_))); (case side2 => exact HC0.out); (case side3 => repeat (first | exact HR1.out | (with_reducible refine Kd.C_alloc ?_ _) | (with_reducible refine Kd.C_drewN ?_ _) | (with_reducible refine Kd.C_drew ?_))); (case side4 => exact HC1.out); rintro e w' ⟨rfl, ⟨nd, rfl⟩⟩; refine ⟨_, rfl, ?_⟩) | ((with_reducible refine gate_callee (f := 51) rfl ?_); refine goesL_ (some 42) rfl rfl Try.func51 (by kernel_rfl) rfl #[.slice A0 l0.length c0] rfl (by (try simp only [List.map_toArray, List.map_cons, List.map_nil]); first | done | rfl | (simp only [List.length_drop, List.length_take]; rfl)) ?_; (with_reducible refine (spec_DrawRevolvingList.calls _ _ l0 t359 t360 _ ?side1 ?side2 A5.out).mono ?_); (case side1 => repeat (first | exact HR0.out | (with_reducible refine Kd.C_alloc ?_ _) | (with_reducible refine Kd.C_drewN ?_ _) | (with_reducible refine Kd.C_drew ?_))); (case side2 => exact HC0.out); rintro e w9 ⟨rfl, hb⟩; refine ⟨_, rfl, ?_⟩; have n0_ := Aside0.mk (below_step (by repeat (first | (with_reducible first | exact HB.out | apply below_alloc | apply pw_below_drewN | apply below_drew1) | exact HB.out)) hb); clear HB; have HB := n0_; clear n0_; (try clear hb); (try clear hb2); (try clear hk); (try clear hi)) | ((with_reducible refine gate_callee (f := 52) rfl ?_); refine goesL_ (some 48) rfl rfl Try.func52 (by kernel_rfl) rfl #[.int .i64 t359, .int .i64 t360] rfl (by (try simp only [List.map_toArray, List.map_cons, List.map_nil]); first | done | rfl | (simp only [List.length_drop, List.length_take]; rfl)) ?_; (with_reducible refine (impl_RevolvingList.calls k t359 t360 t361 t362 _ A6.out).mono ?_); rintro e w10 ⟨v363, rfl, ho0, hb⟩; refine ⟨_, rfl, ?_⟩; have n0_ := Aside0.mk (Kd.N_lower (Kd.N_mono (ok' := fun k_ => True) (Kd.S_N (Kd.S_bound ho0)) (fun k_ hk_ => trivial)) (below_size (by repeat (first | (with_reducible first | exact HB.out | apply below_alloc | apply pw_below_drewN | apply below_drew1) | exact HB.out)))); have n1_ := Aside0.mk (below_step (by repeat (first | (with_reducible first | exact HB.out | apply below_alloc | apply pw_below_drewN | apply below_drew1) | exact HB.out)) hb); clear HB; have HO364 := n0_; have HB := n1_; clear n0_ n1_; (try clear hb); (try clear hb2); (try clear hk); (try clear hi); (try clear ho0)) | ((with_reducible refine gate_callee (f := 53) rfl ?_); refine goesL_ (some 54) rfl rfl Try.func53 (by kernel_rfl) rfl #[.int .i64 t359, .int .i64 t360] rfl (by (try simp only [List.map_toArray, List.map_cons, List.map_nil]); first | done | rfl | (simp only [List.length_drop, List.length_take]; rfl)) ?_; (with_reducible refine (spec_RevolvingList.calls k t359 t360 t365 t368 _ A7.out).mono ?_); rintro e w11 ⟨v366, rfl, ho0, hb⟩; refine ⟨_, rfl, ?_⟩; have n0_ := Aside0.mk (Kd.N_elder' (by (with_reducible repeat (first | apply Kd.N_alloc | apply Kd.N_drewN | apply Kd.N_drew)); exact HO364.out) (Kd.N_base ho0) hb); have n1_ := Aside0.mk (Kd.N_lower (Kd.N_mono (ok' := fun k_ => some k_ ≠ (v363 : Value).ownBlock) ho0 (fun k_ hk_ => (Kd.fresh' (Kd.N_lt (by (with_reducible repeat (first | apply Kd.N_alloc | apply Kd.N_drewN | apply Kd.N_drew)); exact HO364.out)) k_ hk_))) (below_size (by repeat (first | (with_reducible first | exact HB.out | apply below_alloc | apply pw_below_drewN | apply below_drew1) | exact HB.out)))); have n2_ := Aside0.mk (below_step (by repeat (first | (with_reducible first | exact HB.out | apply below_alloc | apply pw_below_drewN | apply below_drew1) | exact HB.out)) hb); clear HO364; clear HB; have HO364 := n0_; have HO367 := n1_; have HB := n2_; clear n0_ n1_ n2_; (try clear hb); (try clear hb2); (try clear hk); (try clear hi); (try clear ho0)))
    (try simp only [Act.put, List.setIfInBounds_toArray, List.set_cons_zero, List.set_cons_succ])
    go_cut [65] (fun v65 wc => ∃ (kq : Nat) (x65_7 : Bool), v65 = .bool x65_7 ∧ Aside0 (laws_FnRevolvingDoor.j0 kq l1 t359 t360 t361 t362 x65_7 = some r) ∧ Aside0 (kq ≤ k) ∧ Aside0 (Kd.N (Kd.slice 3 (Kd.int .i64)) 22 wc w.heap.size (fun _ => True) v363 t361) ∧ Aside0 (Below w.heap.size w wc))
    case first =>
      have H := HC8.out
      clear HC8
      by_cases c12 : (t362 != t368) = true
      · rw [if_pos c12] at H
        have c12b0 : (t362 != t368) = true := c12
        (try (have c12b1 : decide (t362 = t368) = false := by simpa using c12))
        (try (have c12b2 : (t362 == t368) = false := by simpa using c12))
        (try (have c12b3 : ¬ (t362 = t368) := by simpa using c12))
        clear c12
        (first | rw [c12b0] | (simp only [i64_w, i32_w]; rw [c12b0]) | skip)
        have H' := Aside0.mk H
        clear H
        go_wp2
        go_meet
        case rel => exact ⟨_, (true), (by first | rfl | (simp; done) | (simp [*]; done)), H', ⟨by first | omega | exact Nat.le_refl _⟩, ⟨by (with_reducible repeat (first | apply Kd.N_alloc | apply Kd.N_drewN | apply Kd.N_drew)); exact Kd.N_mono HO364.out (fun _ hk => trivial)⟩, ⟨by repeat (first | (with_reducible first | exact HB.out | apply below_alloc | apply pw_below_drewN | apply below_drew1) | exact HB.out)⟩⟩
      · rw [if_neg c12] at H
        have c12b0 : (t362 != t368) = false := by simpa using c12
        (try (have c12b1 : decide (t362 = t368) = true := by simpa using c12))
        (try (have c12b2 : (t362 == t368) = true := by simpa using c12))
        clear c12
        (first | rw [c12b0] | (simp only [i64_w, i32_w]; rw [c12b0]) | skip)
        replace H := Option.bind_eq_some_iff.mp H
        obtain ⟨t369, A130, H⟩ := H
        replace H : (laws_FnRevolvingDoor.j0 k l1 t359 t360 t361 t362 (!t369)) = some r := H
        have A13 := Aside0.mk A130
        clear A130
        have H' := Aside0.mk H
        clear H
        obtain ⟨Ao14, co14, eo14⟩ := Kd.N_slice HO364.out
        subst eo14
        obtain ⟨Ao15, co15, eo15⟩ := Kd.N_slice HO367.out
        subst eo15
        go_wp2_with (first | (go_at_call 36; (with_reducible refine (laws_uLists.calls k _ _ t361 _ _ t365 t369 _ ?side1 ?side2 ?side3 ?side4 A13.out).mono ?_); (case side1 => repeat (first | exact (Kd.N_reads' HO364.out).2.2 | (with_reducible refine Kd.C_alloc ?_ _) | (with_reducible refine Kd.C_drewN ?_ _) | (with_reducible refine Kd.C_drew ?_))); (case side2 => exact (Kd.N_reads' HO364.out).2.1); (case side3 => repeat (first | exact (Kd.N_reads' HO367.out).2.2 | (with_reducible refine Kd.C_alloc ?_ _) | (with_reducible refine Kd.C_drewN ?_ _) | (with_reducible refine Kd.C_drew ?_))); (case side4 => exact (Kd.N_reads' HO367.out).2.1); rintro e w' ⟨rfl, ⟨nd, rfl⟩⟩))
        go_meet
        case rel => exact ⟨_, (!t369), (by first | rfl | (simp; done) | (simp [*]; done)), H', ⟨by first | omega | exact Nat.le_refl _⟩, ⟨by (with_reducible repeat (first | apply Kd.N_alloc | apply Kd.N_drewN | apply Kd.N_drew)); exact Kd.N_mono HO364.out (fun _ hk => trivial)⟩, ⟨by repeat (first | (with_reducible first | exact HB.out | apply below_alloc | apply pw_below_drewN | apply below_drew1) | exact HB.out)⟩⟩
    case rest => as_aux_lemma =>
      clear HC8
      try clear c1
      try clear p2
      try clear c3
      try clear c4
      try clear c5
      try clear c11
      try clear c12
      try clear c12b0
      try clear c12b1
      try clear c12b2
      obtain ⟨kq, x65_7, rfl, HA, HJ7, HO_7, HB⟩ := hcut
      cases kq with
      | zero => exact absurd HA.out (by simp [laws_FnRevolvingDoor.j0])
      | succ kj7 =>
        have H := HA.out
        clear HA
        simp only [laws_FnRevolvingDoor.j0] at H
        by_cases c16 : x65_7 = true
        · subst c16
          have H1 : (some false) = some r := by rw [if_pos rfl] at H; exact H
          clear H
          have H := H1
          clear H1
          obtain rfl := Option.some.inj H
          go_wp2
          go_ret
          exact ⟨by first | rfl | (simp [errW_none, errW_some] <;> rfl) | (simp [*, errW_none, errW_some] <;> rfl), by repeat (first | (with_reducible first | exact HB.out | apply below_alloc | apply pw_below_drewN | apply below_drew1) | exact HB.out)⟩
        · replace c16 := Bool.eq_false_iff.mpr c16
          subst c16
          have H1 : (if t362 = true then ((impl_IsRoundExchange.f kj7 t359 t360 t361).bind fun bt370 => ((impl_Binomial.f kj7 t359 t360).bind fun bt372 => (if bt370.2 = true then (if bt370.1 = true then (if bt372.2 = true then (laws_FnRevolvingDoor.j1 kj7 l1 t359 t361 (bt372.1 != (t361.length : Int))) else (laws_FnRevolvingDoor.j1 kj7 l1 t359 t361 true)) else (laws_FnRevolvingDoor.j1 kj7 l1 t359 t361 true)) else (laws_FnRevolvingDoor.j1 kj7 l1 t359 t361 true)))) else (laws_FnRevolvingDoor.j2 kj7 l1)) = some r := by rw [if_neg (show ¬ (false = true) by decide)] at H; exact H
          clear H
          have H := H1
          clear H1
          have HC17 := Aside0.mk H
          clear H
          go_upto_if 66 with (fail)
          go_cut [] (fun wc => ∃ (kq : Nat), Aside0 (laws_FnRevolvingDoor.j2 kq l1 = some r) ∧ Aside0 (kq ≤ kj7) ∧ Aside0 (Below w.heap.size w wc))
          case first =>
            have H := HC17.out
            clear HC17
            by_cases c18 : t362 = true
            · subst c18
              have H1 : ((impl_IsRoundExchange.f kj7 t359 t360 t361).bind fun bt370 => ((impl_Binomial.f kj7 t359 t360).bind fun bt372 => (if bt370.2 = true then (if bt370.1 = true then (if bt372.2 = true then (laws_FnRevolvingDoor.j1 kj7 l1 t359 t361 (bt372.1 != (t361.length : Int))) else (laws_FnRevolvingDoor.j1 kj7 l1 t359 t361 true)) else (laws_FnRevolvingDoor.j1 kj7 l1 t359 t361 true)) else (laws_FnRevolvingDoor.j1 kj7 l1 t359 t361 true)))) = some r := by rw [if_pos rfl] at H; exact H
              clear H
              have H := H1
              clear H1
              replace H := Option.bind_eq_some_iff.mp H
              obtain ⟨⟨t370, t371⟩, A190, H⟩ := H
              replace H : ((impl_Binomial.f kj7 t359 t360).bind fun bt372 => (if t371 = true then (if t370 = true then (if bt372.2 = true then (laws_FnRevolvingDoor.j1 kj7 l1 t359 t361 (bt372.1 != (t361.length : Int))) else (laws_FnRevolvingDoor.j1 kj7 l1 t359 t361 true)) else (laws_FnRevolvingDoor.j1 kj7 l1 t359 t361 true)) else (laws_FnRevolvingDoor.j1 kj7 l1 t359 t361 true))) = some r := H
              have A19 := Aside0.mk A190
              clear A190
              replace H := Option.bind_eq_some_iff.mp H
              obtain ⟨⟨t372, t373⟩, A200, H⟩ := H
              replace H : (if t371 = true then (if t370 = true then (if t373 = true then (laws_FnRevolvingDoor.j1 kj7 l1 t359 t361 (t372 != (t361.length : Int))) else (laws_FnRevolvingDoor.j1 kj7 l1 t359 t361 true)) else (laws_FnRevolvingDoor.j1 kj7 l1 t359 t361 true)) else (laws_FnRevolvingDoor.j1 kj7 l1 t359 t361 true)) = some r := H
              have A20 := Aside0.mk A200
              clear A200
              have HC21 := Aside0.mk H
              clear H
              obtain ⟨Ao22, co22, eo22⟩ := Kd.N_slice HO_7.out
              subst eo22
              go_upto_region 11 with (first | ((with_reducible refine gate_callee (f := 29) rfl ?_); refine goesL_ (some 71) rfl rfl Try.func29 (by kernel_rfl) rfl #[.int .i64 t359, .int .i64 t360, .slice Ao22 t361.length co22] rfl (by (try simp only [List.map_toArray, List.map_cons, List.map_nil]); first | done | rfl | (simp only [List.length_drop, List.length_take]; rfl)) ?_; (with_reducible refine (impl_IsRoundExchange.calls kj7 t359 t360 _ _ t361 t370 t371 _ ?side1 ?side2 A19.out).mono ?_); (case side1 => repeat (first | exact (Kd.N_reads' HO_7.out).2.2 | (with_reducible refine Kd.C_alloc ?_ _) | (with_reducible refine Kd.C_drewN ?_ _) | (with_reducible refine Kd.C_drew ?_))); (case side2 => exact (Kd.N_reads' HO_7.out).2.1); rintro e w23 ⟨rfl, hb⟩; refine ⟨_, rfl, ?_⟩; have n0_ := Aside0.mk (Kd.N_below (by (with_reducible repeat (first | apply Kd.N_alloc | apply Kd.N_drewN | apply Kd.N_drew)); exact HO_7.out) hb); have n1_ := Aside0.mk (below_step (by repeat (first | (with_reducible first | exact HB.out | apply below_alloc | apply pw_below_drewN | apply below_drew1) | exact HB.out)) hb); clear HO_7; clear HB; have HO_7 := n0_; have HB := n1_; clear n0_ n1_; (try clear hb); (try clear hb2); (try clear hk); (try clear hi)) | ((with_reducible refine gate_callee (f := 37) rfl ?_); refine goesL_ (some 77) rfl rfl Try.func37 (by kernel_rfl) rfl #[.int .i64 t359, .int .i64 t360] rfl (by (try simp only [List.map_toArray, List.map_cons, List.map_nil]); first | done | rfl | (simp only [List.length_drop, List.length_take]; rfl)) ?_; (with_reducible refine (impl_Binomial.calls kj7 t359 t360 t372 t373 _ A20.out).mono ?_); rintro e w' ⟨rfl, ⟨nd, rfl⟩⟩; refine ⟨_, rfl, ?_⟩))
              (try simp only [Act.put, List.setIfInBounds_toArray, List.set_cons_zero, List.set_cons_succ])
              go_cut [95] (fun v95 wc => ∃ (kq : Nat) (x95_20 : Bool), v95 = .bool x95_20 ∧ Aside0 (laws_FnRevolvingDoor.j1 kq l1 t359 t361 x95_20 = some r) ∧ Aside0 (kq ≤ kj7) ∧ Aside0 (Kd.N (Kd.slice 3 (Kd.int .i64)) 22 wc w.heap.size (fun _ => True) (.slice Ao22 t361.length co22) t361) ∧ Aside0 (Below w.heap.size w wc))
              case first =>
                have H := HC21.out
                clear HC21
                by_cases c24 : t371 = true
                · subst c24
                  have H1 : (if t370 = true then (if t373 = true then (laws_FnRevolvingDoor.j1 kj7 l1 t359 t361 (t372 != (t361.length : Int))) else (laws_FnRevolvingDoor.j1 kj7 l1 t359 t361 true)) else (laws_FnRevolvingDoor.j1 kj7 l1 t359 t361 true)) = some r := by rw [if_pos rfl] at H; exact H
                  clear H
                  have H := H1
                  clear H1
                  by_cases c25 : t370 = true
                  · subst c25
                    have H1 : (if t373 = true then (laws_FnRevolvingDoor.j1 kj7 l1 t359 t361 (t372 != (t361.length : Int))) else (laws_FnRevolvingDoor.j1 kj7 l1 t359 t361 true)) = some r := by rw [if_pos rfl] at H; exact H
                    clear H
                    have H := H1
                    clear H1
                    by_cases c26 : t373 = true
                    · subst c26
                      have H1 : (laws_FnRevolvingDoor.j1 kj7 l1 t359 t361 (t372 != (t361.length : Int))) = some r := by rw [if_pos rfl] at H; exact H
                      clear H
                      have H := H1
                      clear H1
                      have H' := Aside0.mk H
                      clear H
                      go_wp2
                      go_meet
                      case rel => exact ⟨_, ((t372 != (t361.length : Int))), (by first | rfl | (simp; done) | (simp [*]; done)), H', ⟨by have := HJ7.out; first | omega | exact Nat.le_refl _⟩, ⟨by (with_reducible repeat (first | apply Kd.N_alloc | apply Kd.N_drewN | apply Kd.N_drew)); exact HO_7.out⟩, ⟨by repeat (first | (with_reducible first | exact HB.out | apply below_alloc | apply pw_below_drewN | apply below_drew1) | exact HB.out)⟩⟩
                    · replace c26 := Bool.eq_false_iff.mpr c26
                      subst c26
                      have H1 : (laws_FnRevolvingDoor.j1 kj7 l1 t359 t361 true) = some r := by rw [if_neg (show ¬ (false = true) by decide)] at H; exact H
                      clear H
                      have H := H1
                      clear H1
                      have H' := Aside0.mk H
                      clear H
                      go_wp2
                      go_meet
                      case rel => exact ⟨_, (true), (by first | rfl | (simp; done) | (simp [*]; done)), H', ⟨by have := HJ7.out; first | omega | exact Nat.le_refl _⟩, ⟨by (with_reducible repeat (first | apply Kd.N_alloc | apply Kd.N_drewN | apply Kd.N_drew)); exact HO_7.out⟩, ⟨by repeat (first | (with_reducible first | exact HB.out | apply below_alloc | apply pw_below_drewN | apply below_drew1) | exact HB.out)⟩⟩
                  · replace c25 := Bool.eq_false_iff.mpr c25
                    subst c25
                    have H1 : (laws_FnRevolvingDoor.j1 kj7 l1 t359 t361 true) = some r := by rw [if_neg (show ¬ (false = true) by decide)] at H; exact H
                    clear H
                    have H := H1
                    clear H1
                    have H' := Aside0.mk H
                    clear H
                    go_wp2
                    go_meet
                    case rel => exact ⟨_, (true), (by first | rfl | (simp; done) | (simp [*]; done)), H', ⟨by have := HJ7.out; first | omega | exact Nat.le_refl _⟩, ⟨by (with_reducible repeat (first | apply Kd.N_alloc | apply Kd.N_drewN | apply Kd.N_drew)); exact HO_7.out⟩, ⟨by repeat (first | (with_reducible first | exact HB.out | apply below_alloc | apply pw_below_drewN | apply below_drew1) | exact HB.out)⟩⟩
                · replace c24 := Bool.eq_false_iff.mpr c24
                  subst c24
                  have H1 : (laws_FnRevolvingDoor.j1 kj7 l1 t359 t361 true) = some r := by rw [if_neg (show ¬ (false = true) by decide)] at H; exact H
                  clear H
                  have H := H1
                  clear H1
                  have H' := Aside0.mk H
                  clear H
                  go_wp2
                  go_meet
                  case rel => exact ⟨_, (true), (by first | rfl | (simp; done) | (simp [*]; done)), H', ⟨by have := HJ7.out; first | omega | exact Nat.le_refl _⟩, ⟨by (with_reducible repeat (first | apply Kd.N_alloc | apply Kd.N_drewN | apply Kd.N_drew)); exact HO_7.out⟩, ⟨by repeat (first | (with_reducible first | exact HB.out | apply below_alloc | apply pw_below_drewN | apply below_drew1) | exact HB.out)⟩⟩
              case rest => as_aux_lemma =>
                clear HC21
                try clear c1
                try clear c2
                try clear p2
                try clear c3
                try clear c4
                try clear c5
                try clear c11
                try clear c12
                try clear c12b0
                try clear c12b1
                try clear c12b2
                try clear c16
                try clear c18
                try clear c24
                try clear c25
                try clear c26
                try clear p2
                obtain ⟨kq, x95_20, rfl, HA, HJ20, HO_7, HB⟩ := hcut
                cases kq with
                | zero => exact absurd HA.out (by simp [laws_FnRevolvingDoor.j1])
                | succ kj20 =>
                  have H := HA.out
                  clear HA
                  simp only [laws_FnRevolvingDoor.j1] at H
                  by_cases c27 : x95_20 = true
                  · subst c27
                    have H1 : (some false) = some r := by rw [if_pos rfl] at H; exact H
                    clear H
                    have H := H1
                    clear H1
                    obtain rfl := Option.some.inj H
                    go_wp2
                    go_ret
                    exact ⟨by first | rfl | (simp [errW_none, errW_some] <;> rfl) | (simp [*, errW_none, errW_some] <;> rfl), by repeat (first | (with_reducible first | exact HB.out | apply below_alloc | apply pw_below_drewN | apply below_drew1) | exact HB.out)⟩
                  · replace c27 := Bool.eq_false_iff.mpr c27
                    subst c27
                    have H1 : ((laws_numberOf.f kj20 l1).bind fun t374 => (if (t361.length : Int) = 0 then (none) else (if 0 ≤ (Int.tmod t374 (t361.length : Int)) then (if (Int.tmod t374 (t361.length : Int)) < (t361.length : Int) then ((impl_RevolvingRank.f kj20 t359 (rd_L1 t361 (Int.tmod t374 (t361.length : Int)))).bind fun bt376 => ((impl_NextRevolving.f kj20 t359 (rd_L1 t361 (Int.tmod t374 (t361.length : Int)))).bind fun bt379 => (if bt376.2 = true then (if bt376.1 = (Int.tmod t374 (t361.length : Int)) then (if (bt379.2 != (decide ((wrap64 ((Int.tmod t374 (t361.length : Int)) + 1)) < (t361.length : Int)))) = true then (some false) else (if bt379.2 = true then (if 0 ≤ (wrap64 ((Int.tmod t374 (t361.length : Int)) + 1)) then (if (wrap64 ((Int.tmod t374 (t361.length : Int)) + 1)) < (t361.length : Int) then ((laws_uSame.f kj20 bt379.1 (rd_L1 t361 (wrap64 ((Int.tmod t374 (t361.length : Int)) + 1)))).bind fun t384 => (if t384 = true then (laws_FnRevolvingDoor.j2 kj20 l1) else (some false))) else (none)) else (none)) else (laws_FnRevolvingDoor.j2 kj20 l1))) else (some false)) else (some false)))) else (none)) else (none)))) = some r := by rw [if_neg (show ¬ (false = true) by decide)] at H; exact H
                    clear H
                    have H := H1
                    clear H1
                    replace H := Option.bind_eq_some_iff.mp H
                    obtain ⟨t374, A280, H⟩ := H
                    replace H : (if (t361.length : Int) = 0 then (none) else (if 0 ≤ (Int.tmod t374 (t361.length : Int)) then (if (Int.tmod t374 (t361.length : Int)) < (t361.length : Int) then ((impl_RevolvingRank.f kj20 t359 (rd_L1 t361 (Int.tmod t374 (t361.length : Int)))).bind fun bt376 => ((impl_NextRevolving.f kj20 t359 (rd_L1 t361 (Int.tmod t374 (t361.length : Int)))).bind fun bt379 => (if bt376.2 = true then (if bt376.1 = (Int.tmod t374 (t361.length : Int)) then (if (bt379.2 != (decide ((wrap64 ((Int.tmod t374 (t361.length : Int)) + 1)) < (t361.length : Int)))) = true then (some false) else (if bt379.2 = true then (if 0 ≤ (wrap64 ((Int.tmod t374 (t361.length : Int)) + 1)) then (if (wrap64 ((Int.tmod t374 (t361.length : Int)) + 1)) < (t361.length : Int) then ((laws_uSame.f kj20 bt379.1 (rd_L1 t361 (wrap64 ((Int.tmod t374 (t361.length : Int)) + 1)))).bind fun t384 => (if t384 = true then (laws_FnRevolvingDoor.j2 kj20 l1) else (some false))) else (none)) else (none)) else (laws_FnRevolvingDoor.j2 kj20 l1))) else (some false)) else (some false)))) else (none)) else (none))) = some r := H
                    have A28 := Aside0.mk A280
                    clear A280
                    by_cases c29 : (t361.length : Int) = 0
                    · rw [if_pos c29] at H
                      exact absurd H (by simp)
                    · rw [if_neg c29] at H
                      have c29b0 : ((t361.length : Int) == 0) = false := beq_eq_false_iff_ne.mpr c29
                      have c29b1 : ((t361.length : Int) != 0) = true := bne_iff_ne.mpr c29
                      have c29b2 : ¬ (t361 = []) := fun h_ => c29 (by rw [h_]; rfl)
                      obtain ⟨ji30, hji30⟩ : ∃ j_ : Int, (Int.tmod t374 (t361.length : Int)) = j_ := ⟨_, rfl⟩
                      replace H : (if 0 ≤ (ji30) then (if (ji30) < (t361.length : Int) then ((impl_RevolvingRank.f kj20 t359 (rd_L1 t361 (ji30))).bind fun bt376 => ((impl_NextRevolving.f kj20 t359 (rd_L1 t361 (ji30))).bind fun bt379 => (if bt376.2 = true then (if bt376.1 = (ji30) then (if (bt379.2 != (decide ((wrap64 ((ji30) + 1)) < (t361.length : Int)))) = true then (some false) else (if bt379.2 = true then (if 0 ≤ (wrap64 ((ji30) + 1)) then (if (wrap64 ((ji30) + 1)) < (t361.length : Int) then ((laws_uSame.f kj20 bt379.1 (rd_L1 t361 (wrap64 ((ji30) + 1)))).bind fun t384 => (if t384 = true then (laws_FnRevolvingDoor.j2 kj20 l1) else (some false))) else (none)) else (none)) else (laws_FnRevolvingDoor.j2 kj20 l1))) else (some false)) else (some false)))) else (none)) else (none)) = some r := by first | (rw [hji30] at H; exact H) | (simp only [hji30] at H ⊢; exact H)
                      (try rw [hji30] at A28)
                      by_cases c31 : 0 ≤ (ji30)
                      · rw [if_pos c31] at H
                        have c31b0 : decide (0 ≤ (ji30)) = true := decide_eq_true c31
                        clear c31
                        by_cases c32 : (ji30) < (t361.length : Int)
                        · rw [if_pos c32] at H
                          have c32b0 : decide ((ji30) < (t361.length : Int)) = true := decide_eq_true c32
                          clear c32
                          replace H := Option.bind_eq_some_iff.mp H
                          obtain ⟨⟨t376, t377⟩, A330, H⟩ := H
                          replace H : ((impl_NextRevolving.f kj20 t359 (rd_L1 t361 (ji30))).bind fun bt379 => (if t377 = true then (if t376 = (ji30) then (if (bt379.2 != (decide ((wrap64 ((ji30) + 1)) < (t361.length : Int)))) = true then (some false) else (if bt379.2 = true then (if 0 ≤ (wrap64 ((ji30) + 1)) then (if (wrap64 ((ji30) + 1)) < (t361.length : Int) then ((laws_uSame.f kj20 bt379.1 (rd_L1 t361 (wrap64 ((ji30) + 1)))).bind fun t384 => (if t384 = true then (laws_FnRevolvingDoor.j2 kj20 l1) else (some false))) else (none)) else (none)) else (laws_FnRevolvingDoor.j2 kj20 l1))) else (some false)) else (some false))) = some r := H
                          have A33 := Aside0.mk A330
                          clear A330
                          replace H := Option.bind_eq_some_iff.mp H
                          obtain ⟨⟨t379, t380⟩, A340, H⟩ := H
                          replace H : (if t377 = true then (if t376 = (ji30) then (if (t380 != (decide ((wrap64 ((ji30) + 1)) < (t361.length : Int)))) = true then (some false) else (if t380 = true then (if 0 ≤ (wrap64 ((ji30) + 1)) then (if (wrap64 ((ji30) + 1)) < (t361.length : Int) then ((laws_uSame.f kj20 t379 (rd_L1 t361 (wrap64 ((ji30) + 1)))).bind fun t384 => (if t384 = true then (laws_FnRevolvingDoor.j2 kj20 l1) else (some false))) else (none)) else (none)) else (laws_FnRevolvingDoor.j2 kj20 l1))) else (some false)) else (some false)) = some r := H
                          have A34 := Aside0.mk A340
                          clear A340
                          by_cases c35 : t377 = true
                          · subst c35
                            have H1 : (if t376 = (ji30) then (if (t380 != (decide ((wrap64 ((ji30) + 1)) < (t361.length : Int)))) = true then (some false) else (if t380 = true then (if 0 ≤ (wrap64 ((ji30) + 1)) then (if (wrap64 ((ji30) + 1)) < (t361.length : Int) then ((laws_uSame.f kj20 t379 (rd_L1 t361 (wrap64 ((ji30) + 1)))).bind fun t384 => (if t384 = true then (laws_FnRevolvingDoor.j2 kj20 l1) else (some false))) else (none)) else (none)) else (laws_FnRevolvingDoor.j2 kj20 l1))) else (some false)) = some r := by rw [if_pos rfl] at H; exact H
                            clear H
                            have H := H1
                            clear H1
                            by_cases c36 : t376 = (ji30)
                            · rw [if_pos c36] at H
                              have c36b0 : (t376 == (ji30)) = true := beq_iff_eq.mpr c36
                              have c36b1 : (t376 != (ji30)) = false := bne_eq_false_iff_eq.mpr c36
                              clear c36
                              by_cases c37 : (t380 != (decide ((wrap64 ((ji30) + 1)) < (t361.length : Int)))) = true
                              · rw [if_pos c37] at H
                                have c37b0 : (t380 != (decide ((wrap64 ((ji30) + 1)) < (t361.length : Int)))) = true := c37
                                (try (have c37b1 : decide (t380 = (decide ((wrap64 ((ji30) + 1)) < (t361.length : Int)))) = false := by simpa using c37))
                                (try (have c37b2 : (t380 == (decide ((wrap64 ((ji30) + 1)) < (t361.length : Int)))) = false := by simpa using c37))
                                (try (have c37b3 : ¬ (t380 = (decide ((wrap64 ((ji30) + 1)) < (t361.length : Int)))) := by simpa using c37))
                                clear c37
                                obtain rfl := Option.some.inj H
                                go_wp2_with (first | ((with_reducible refine gate_callee (f := 42) rfl ?_); refine goesL_ (some 97) rfl rfl Try.func42 (by kernel_rfl) rfl #[.slice A1 l1.length c1] rfl (by (try simp only [List.map_toArray, List.map_cons, List.map_nil]); first | done | rfl | (simp only [List.length_drop, List.length_take]; rfl)) ?_; (with_reducible refine (laws_numberOf.calls kj20 _ _ l1 t374 _ ?side1 ?side2 A28.out).mono ?_); (case side1 => repeat (first | exact (Kd.C_below HR1.out HB.out) | (with_reducible refine Kd.C_alloc ?_ _) | (with_reducible refine Kd.C_drewN ?_ _) | (with_reducible refine Kd.C_drew ?_))); (case side2 => exact HC1.out); rintro e w' ⟨rfl, ⟨nd, rfl⟩⟩; refine ⟨_, rfl, ?_⟩; have p375 : 0 ≤ ((ji30) : Int) := of_decide_eq_true (by first | (with_reducible assumption) | assumption); have q375 : (ji30) < (t361.length : Int) := of_decide_eq_true (by first | (with_reducible assumption) | assumption); obtain ⟨ad375, A375_0, c375_0, e375, hx375_0, hl375_0, hi375_0⟩ := at_L1 (Kd.N_reads' HO_7.out).2.2 (ji30) p375 q375; cases e375; obtain ⟨ce375, hce375, hMe375, hcc375⟩ := Kd.N_get HO_7.out [] (ji30) p375 (by first | exact q375 | exact of_decide_eq_true (by first | (with_reducible assumption) | assumption) | (have e_ := (Kd.N_reads' HO_7.out).1; omega)); obtain ⟨ua375_0, uc375_0, rfl, ul375_0, ge375_0⟩ := Kd.FK_slice_open hMe375; have hv375_0 := hcc375 0 _ rfl; rw [Nat.add_zero, show ((Kd.slice 3 (Kd.int .i64))).sz = 1 from rfl, Nat.mul_one] at hv375_0; replace hv375_0 := Option.some.inj (hv375_0.symm.trans hx375_0); injection hv375_0 with hva_ hvn_ hvc_; rw [hva_] at ge375_0; rw [hvc_] at ul375_0; have HL375_0 := Aside0.mk (show Kd.V (Kd.int .i64) 3 _ w.heap.size _ _ (rd_L1 t361 (ji30)) from Kd.V_mk ul375_0 ge375_0); clear hva_ hvn_ hvc_ ge375_0 ul375_0; clear hcc375 hce375; have HR375_0 := Aside0.mk hi375_0; have HC375_0 := Aside0.mk hl375_0; clear hi375_0 hl375_0; replace p375 := eq_true p375; replace q375 := eq_true q375) | ((with_reducible refine gate_callee (f := 54) rfl ?_); refine goesL_ (some 107) rfl rfl Try.func54 (by kernel_rfl) rfl #[.int .i64 t359, .slice A375_0 (rd_L1 t361 (ji30)).length c375_0] rfl (by (try simp only [List.map_toArray, List.map_cons, List.map_nil]); first | done | (simp only [hji30]; rfl) | rfl | (simp only [List.length_drop, List.length_take]; rfl)) ?_; (with_reducible refine (impl_RevolvingRank.calls kj20 t359 _ _ (rd_L1 t361 (ji30)) t376 true _ ?side1 ?side2 A33.out).mono ?_); (case side1 => repeat (first | exact (by repeat (first | (with_reducible exact HR375_0.out) | (with_reducible refine Kd.C_alloc ?_ _) | (with_reducible refine Kd.C_drewN ?_ _) | (with_reducible refine Kd.C_drew ?_) | exact HR375_0.out)) | (with_reducible refine Kd.C_alloc ?_ _) | (with_reducible refine Kd.C_drewN ?_ _) | (with_reducible refine Kd.C_drew ?_))); (case side2 => exact HC375_0.out); rintro e w38 ⟨rfl, hb⟩; refine ⟨_, rfl, ?_⟩; have n0_ := Aside0.mk (Kd.N_below (by (with_reducible repeat (first | apply Kd.N_alloc | apply Kd.N_drewN | apply Kd.N_drew)); exact HO_7.out) hb); have n1_ := Aside0.mk (Kd.V_below (by (with_reducible repeat (first | apply Kd.V_alloc | apply Kd.V_drewN | apply Kd.V_drew)); exact HL375_0.out) hb); have n2_ := Aside0.mk (Kd.C_below (by first | (with_reducible exact HR375_0.out) | (with_reducible exact Kd.C_drewN HR375_0.out _) | (with_reducible exact Kd.C_drew HR375_0.out) | (with_reducible exact Kd.C_alloc HR375_0.out _) | repeat (first | (with_reducible exact HR375_0.out) | (with_reducible refine Kd.C_alloc ?_ _) | (with_reducible refine Kd.C_drewN ?_ _) | (with_reducible refine Kd.C_drew ?_) | exact HR375_0.out)) hb); have n3_ := Aside0.mk (below_step (by repeat (first | (with_reducible first | exact HB.out | apply below_alloc | apply pw_below_drewN | apply below_drew1) | exact HB.out)) hb); clear HO_7; clear HL375_0; clear HR375_0; clear HB; have HO_7 := n0_; have HL375_0 := n1_; have HR375_0 := n2_; have HB := n3_; clear n0_ n1_ n2_ n3_; (try clear hb); (try clear hb2); (try clear hk); (try clear hi); have p378 : 0 ≤ ((ji30) : Int) := of_decide_eq_true (by first | (with_reducible assumption) | assumption); have q378 : (ji30) < (t361.length : Int) := of_decide_eq_true (by first | (with_reducible assumption) | assumption); obtain ⟨ad378, A378_0, c378_0, e378, hx378_0, hl378_0, hi378_0⟩ := at_L1 (Kd.N_reads' HO_7.out).2.2 (ji30) p378 q378; obtain rfl : ad375 = ad378 := (by injection e378); obtain ⟨ce378, hce378, hMe378, hcc378⟩ := Kd.N_get HO_7.out [] (ji30) p378 (by first | exact q378 | exact of_decide_eq_true (by first | (with_reducible assumption) | assumption) | (have e_ := (Kd.N_reads' HO_7.out).1; omega)); obtain ⟨ua378_0, uc378_0, rfl, ul378_0, ge378_0⟩ := Kd.FK_slice_open hMe378; have hv378_0 := hcc378 0 _ rfl; rw [Nat.add_zero, show ((Kd.slice 3 (Kd.int .i64))).sz = 1 from rfl, Nat.mul_one] at hv378_0; replace hv378_0 := Option.some.inj (hv378_0.symm.trans hx378_0); injection hv378_0 with hva_ hvn_ hvc_; rw [hva_] at ge378_0; rw [hvc_] at ul378_0; have HL378_0 := Aside0.mk (show Kd.V (Kd.int .i64) 3 _ w.heap.size _ _ (rd_L1 t361 (ji30)) from Kd.V_mk ul378_0 ge378_0); clear hva_ hvn_ hvc_ ge378_0 ul378_0; clear hcc378 hce378; have HR378_0 := Aside0.mk hi378_0; have HC378_0 := Aside0.mk hl378_0; clear hi378_0 hl378_0; replace p378 := eq_true p378; replace q378 := eq_true q378) | ((with_reducible refine gate_callee (f := 55) rfl ?_); refine goesL_ (some 116) rfl rfl Try.func55 (by kernel_rfl) rfl #[.int .i64 t359, .slice A378_0 (rd_L1 t361 (ji30)).length c378_0] rfl (by (try simp only [List.map_toArray, List.map_cons, List.map_nil]); first | done | (simp only [hji30]; rfl) | rfl | (simp only [List.length_drop, List.length_take]; rfl)) ?_; (with_reducible refine (impl_NextRevolving.calls kj20 t359 _ _ (rd_L1 t361 (ji30)) t379 t380 _ ?side1 ?side2 A34.out).mono ?_); (case side1 => repeat (first | exact (by repeat (first | (with_reducible exact HR378_0.out) | (with_reducible refine Kd.C_alloc ?_ _) | (with_reducible refine Kd.C_drewN ?_ _) | (with_reducible refine Kd.C_drew ?_) | exact HR378_0.out)) | (with_reducible refine Kd.C_alloc ?_ _) | (with_reducible refine Kd.C_drewN ?_ _) | (with_reducible refine Kd.C_drew ?_))); (case side2 => exact HC378_0.out); rintro e w39 ⟨v381, rfl, ho0, hb⟩; refine ⟨_, rfl, ?_⟩; have n0_ := Aside0.mk (Kd.N_elder' (by (with_reducible repeat (first | apply Kd.N_alloc | apply Kd.N_drewN | apply Kd.N_drew)); exact HO_7.out) (Kd.R_base ho0) hb); have n1_ := Aside0.mk (Kd.V_elder' (by (with_reducible repeat (first | apply Kd.V_alloc | apply Kd.V_drewN | apply Kd.V_drew)); exact HL375_0.out) (Kd.R_base ho0) hb); have n2_ := Aside0.mk (Kd.V_elder' (by (with_reducible repeat (first | apply Kd.V_alloc | apply Kd.V_drewN | apply Kd.V_drew)); exact HL378_0.out) (Kd.R_base ho0) hb); have n3_ := Aside0.mk (Kd.R_lower ho0 (below_size (by repeat (first | (with_reducible first | exact HB.out | apply below_alloc | apply pw_below_drewN | apply below_drew1) | exact HB.out)))); have n4_ := Aside0.mk (Kd.C_below (by first | (with_reducible exact HR375_0.out) | (with_reducible exact Kd.C_drewN HR375_0.out _) | (with_reducible exact Kd.C_drew HR375_0.out) | (with_reducible exact Kd.C_alloc HR375_0.out _) | repeat (first | (with_reducible exact HR375_0.out) | (with_reducible refine Kd.C_alloc ?_ _) | (with_reducible refine Kd.C_drewN ?_ _) | (with_reducible refine Kd.C_drew ?_) | exact HR375_0.out)) hb); have n5_ := Aside0.mk (Kd.C_below (by first | (with_reducible exact HR378_0.out) | (with_reducible exact Kd.C_drewN HR378_0.out _) | (with_reducible exact Kd.C_drew HR378_0.out) | (with_reducible exact Kd.C_alloc HR378_0.out _) | repeat (first | (with_reducible exact HR378_0.out) | (with_reducible refine Kd.C_alloc ?_ _) | (with_reducible refine Kd.C_drewN ?_ _) | (with_reducible refine Kd.C_drew ?_) | exact HR378_0.out)) hb); have n6_ := Aside0.mk (below_step (by repeat (first | (with_reducible first | exact HB.out | apply below_alloc | apply pw_below_drewN | apply below_drew1) | exact HB.out)) hb); clear HO_7; clear HL375_0; clear HL378_0; clear HR375_0; clear HR378_0; clear HB; have HO_7 := n0_; have HL375_0 := n1_; have HL378_0 := n2_; have HO382 := n3_; have HR375_0 := n4_; have HR378_0 := n5_; have HB := n6_; clear n0_ n1_ n2_ n3_ n4_ n5_ n6_; (try clear hb); (try clear hb2); (try clear hk); (try clear hi); (try clear ho0)))
                                go_ret
                                exact ⟨by first | rfl | (simp [errW_none, errW_some] <;> rfl) | (simp only [← hji30]; first | rfl | (simp [errW_none, errW_some] <;> rfl)) | (simp [*, errW_none, errW_some] <;> rfl), by repeat (first | (with_reducible first | exact HB.out | apply below_alloc | apply pw_below_drewN | apply below_drew1) | exact HB.out)⟩
                              · rw [if_neg c37] at H
                                have c37b0 : (t380 != (decide ((wrap64 ((ji30) + 1)) < (t361.length : Int)))) = false := by simpa using c37
                                (try (have c37b1 : decide (t380 = (decide ((wrap64 ((ji30) + 1)) < (t361.length : Int)))) = true := by simpa using c37))
                                (try (have c37b2 : (t380 == (decide ((wrap64 ((ji30) + 1)) < (t361.length : Int)))) = true := by simpa using c37))
                                clear c37
                                by_cases c40 : t380 = true
                                · subst c40
                                  have H1 : (if 0 ≤ (wrap64 ((ji30) + 1)) then (if (wrap64 ((ji30) + 1)) < (t361.length : Int) then ((laws_uSame.f kj20 t379 (rd_L1 t361 (wrap64 ((ji30) + 1)))).bind fun t384 => (if t384 = true then (laws_FnRevolvingDoor.j2 kj20 l1) else (some false))) else (none)) else (none)) = some r := by rw [if_pos rfl] at H; exact H
                                  clear H
                                  have H := H1
                                  clear H1
                                  obtain ⟨ji41, hji41⟩ : ∃ j_ : Int, (wrap64 ((ji30) + 1)) = j_ := ⟨_, rfl⟩
                                  replace H : (if 0 ≤ (ji41) then (if (ji41) < (t361.length : Int) then ((laws_uSame.f kj20 t379 (rd_L1 t361 (ji41))).bind fun t384 => (if t384 = true then (laws_FnRevolvingDoor.j2 kj20 l1) else (some false))) else (none)) else (none)) = some r := by first | (rw [hji41] at H; exact H) | (simp only [hji41] at H ⊢; exact H)
                                  (try rw [hji41] at c37b0)
                                  (try rw [hji41] at c37b1)
                                  (try rw [hji41] at c37b2)
                                  (try rw [hji41] at A28)
                                  (try rw [hji41] at A33)
                                  (try rw [hji41] at A34)
                                  have hji41w : (IntKind.i64.wrap ((ji30) + 1)) = ji41 := (i64_w _).trans hji41
                                  by_cases c42 : 0 ≤ (ji41)
                                  · rw [if_pos c42] at H
                                    have c42b0 : decide (0 ≤ (ji41)) = true := decide_eq_true c42
                                    clear c42
                                    by_cases c43 : (ji41) < (t361.length : Int)
                                    · rw [if_pos c43] at H
                                      have c43b0 : decide ((ji41) < (t361.length : Int)) = true := decide_eq_true c43
                                      clear c43
                                      replace H := Option.bind_eq_some_iff.mp H
                                      obtain ⟨t384, A440, H⟩ := H
                                      replace H : (if t384 = true then (laws_FnRevolvingDoor.j2 kj20 l1) else (some false)) = some r := H
                                      have A44 := Aside0.mk A440
                                      clear A440
                                      by_cases c45 : t384 = true
                                      · subst c45
                                        have H1 : (laws_FnRevolvingDoor.j2 kj20 l1) = some r := by rw [if_pos rfl] at H; exact H
                                        clear H
                                        have H := H1
                                        clear H1
                                        have H' := Aside0.mk H
                                        clear H
                                        go_wp2_with (first | ((with_reducible refine gate_callee (f := 42) rfl ?_); refine goesL_ (some 97) rfl rfl Try.func42 (by kernel_rfl) rfl #[.slice A1 l1.length c1] rfl (by (try simp only [List.map_toArray, List.map_cons, List.map_nil]); first | done | rfl | (simp only [List.length_drop, List.length_take]; rfl)) ?_; (with_reducible refine (laws_numberOf.calls kj20 _ _ l1 t374 _ ?side1 ?side2 A28.out).mono ?_); (case side1 => repeat (first | exact (Kd.C_below HR1.out HB.out) | (with_reducible refine Kd.C_alloc ?_ _) | (with_reducible refine Kd.C_drewN ?_ _) | (with_reducible refine Kd.C_drew ?_))); (case side2 => exact HC1.out); rintro e w' ⟨rfl, ⟨nd, rfl⟩⟩; refine ⟨_, rfl, ?_⟩; have p375 : 0 ≤ ((ji30) : Int) := of_decide_eq_true (by first | (with_reducible assumption) | assumption); have q375 : (ji30) < (t361.length : Int) := of_decide_eq_true (by first | (with_reducible assumption) | assumption); obtain ⟨ad375, A375_0, c375_0, e375, hx375_0, hl375_0, hi375_0⟩ := at_L1 (Kd.N_reads' HO_7.out).2.2 (ji30) p375 q375; cases e375; obtain ⟨ce375, hce375, hMe375, hcc375⟩ := Kd.N_get HO_7.out [] (ji30) p375 (by first | exact q375 | exact of_decide_eq_true (by first | (with_reducible assumption) | assumption) | (have e_ := (Kd.N_reads' HO_7.out).1; omega)); obtain ⟨ua375_0, uc375_0, rfl, ul375_0, ge375_0⟩ := Kd.FK_slice_open hMe375; have hv375_0 := hcc375 0 _ rfl; rw [Nat.add_zero, show ((Kd.slice 3 (Kd.int .i64))).sz = 1 from rfl, Nat.mul_one] at hv375_0; replace hv375_0 := Option.some.inj (hv375_0.symm.trans hx375_0); injection hv375_0 with hva_ hvn_ hvc_; rw [hva_] at ge375_0; rw [hvc_] at ul375_0; have HL375_0 := Aside0.mk (show Kd.V (Kd.int .i64) 3 _ w.heap.size _ _ (rd_L1 t361 (ji30)) from Kd.V_mk ul375_0 ge375_0); clear hva_ hvn_ hvc_ ge375_0 ul375_0; clear hcc375 hce375; have HR375_0 := Aside0.mk hi375_0; have HC375_0 := Aside0.mk hl375_0; clear hi375_0 hl375_0; replace p375 := eq_true p375; replace q375 := eq_true q375) | ((with_reducible refine gate_callee (f := 54) rfl ?_); refine goesL_ (some 107) rfl rfl Try.func54 (by kernel_rfl) rfl #[.int .i64 t359, .slice A375_0 (rd_L1 t361 (ji30)).length c375_0] rfl (by (try simp only [List.map_toArray, List.map_cons, List.map_nil]); first | done | (simp only [hji30]; rfl) | rfl | (simp only [List.length_drop, List.length_take]; rfl)) ?_; (with_reducible refine (impl_RevolvingRank.calls kj20 t359 _ _ (rd_L1 t361 (ji30)) t376 true _ ?side1 ?side2 A33.out).mono ?_); (case side1 => repeat (first | exact (by repeat (first | (with_reducible exact HR375_0.out) | (with_reducible refine Kd.C_alloc ?_ _) | (with_reducible refine Kd.C_drewN ?_ _) | (with_reducible refine Kd.C_drew ?_) | exact HR375_0.out)) | (with_reducible refine Kd.C_alloc ?_ _) | (with_reducible refine Kd.C_drewN ?_ _) | (with_reducible refine Kd.C_drew ?_))); (case side2 => exact HC375_0.out); rintro e w46 ⟨rfl, hb⟩; refine ⟨_, rfl, ?_⟩; have n0_ := Aside0.mk (Kd.N_below (by (with_reducible repeat (first | apply Kd.N_alloc | apply Kd.N_drewN | apply Kd.N_drew)); exact HO_7.out) hb); have n1_ := Aside0.mk (Kd.V_below (by (with_reducible repeat (first | apply Kd.V_alloc | apply Kd.V_drewN | apply Kd.V_drew)); exact HL375_0.out) hb); have n2_ := Aside0.mk (Kd.C_below (by first | (with_reducible exact HR375_0.out) | (with_reducible exact Kd.C_drewN HR375_0.out _) | (with_reducible exact Kd.C_drew HR375_0.out) | (with_reducible exact Kd.C_alloc HR375_0.out _) | repeat (first | (with_reducible exact HR375_0.out) | (with_reducible refine Kd.C_alloc ?_ _) | (with_reducible refine Kd.C_drewN ?_ _) | (with_reducible refine Kd.C_drew ?_) | exact HR375_0.out)) hb); have n3_ := Aside0.mk (below_step (by repeat (first | (with_reducible first | exact HB.out | apply below_alloc | apply pw_below_drewN | apply below_drew1) | exact HB.out)) hb); clear HO_7; clear HL375_0; clear HR375_0; clear HB; have HO_7 := n0_; have HL375_0 := n1_; have HR375_0 := n2_; have HB := n3_; clear n0_ n1_ n2_ n3_; (try clear hb); (try clear hb2); (try clear hk); (try clear hi); have p378 : 0 ≤ ((ji30) : Int) := of_decide_eq_true (by first | (with_reducible assumption) | assumption); have q378 : (ji30) < (t361.length : Int) := of_decide_eq_true (by first | (with_reducible assumption) | assumption); obtain ⟨ad378, A378_0, c378_0, e378, hx378_0, hl378_0, hi378_0⟩ := at_L1 (Kd.N_reads' HO_7.out).2.2 (ji30) p378 q378; obtain rfl : ad375 = ad378 := (by injection e378); obtain ⟨ce378, hce378, hMe378, hcc378⟩ := Kd.N_get HO_7.out [] (ji30) p378 (by first | exact q378 | exact of_decide_eq_true (by first | (with_reducible assumption) | assumption) | (have e_ := (Kd.N_reads' HO_7.out).1; omega)); obtain ⟨ua378_0, uc378_0, rfl, ul378_0, ge378_0⟩ := Kd.FK_slice_open hMe378; have hv378_0 := hcc378 0 _ rfl; rw [Nat.add_zero, show ((Kd.slice 3 (Kd.int .i64))).sz = 1 from rfl, Nat.mul_one] at hv378_0; replace hv378_0 := Option.some.inj (hv378_0.symm.trans hx378_0); injection hv378_0 with hva_ hvn_ hvc_; rw [hva_] at ge378_0; rw [hvc_] at ul378_0; have HL378_0 := Aside0.mk (show Kd.V (Kd.int .i64) 3 _ w.heap.size _ _ (rd_L1 t361 (ji30)) from Kd.V_mk ul378_0 ge378_0); clear hva_ hvn_ hvc_ ge378_0 ul378_0; clear hcc378 hce378; have HR378_0 := Aside0.mk hi378_0; have HC378_0 := Aside0.mk hl378_0; clear hi378_0 hl378_0; replace p378 := eq_true p378; replace q378 := eq_true q378) | ((with_reducible refine gate_callee (f := 55) rfl ?_); refine goesL_ (some 116) rfl rfl Try.func55 (by kernel_rfl) rfl #[.int .i64 t359, .slice A378_0 (rd_L1 t361 (ji30)).length c378_0] rfl (by (try simp only [List.map_toArray, List.map_cons, List.map_nil]); first | done | (simp only [hji30]; rfl) | rfl | (simp only [List.length_drop, List.length_take]; rfl)) ?_; (with_reducible refine (impl_NextRevolving.calls kj20 t359 _ _ (rd_L1 t361 (ji30)) t379 true _ ?side1 ?side2 A34.out).mono ?_); (case side1 => repeat (first | exact (by repeat (first | (with_reducible exact HR378_0.out) | (with_reducible refine Kd.C_alloc ?_ _) | (with_reducible refine Kd.C_drewN ?_ _) | (with_reducible refine Kd.C_drew ?_) | exact HR378_0.out)) | (with_reducible refine Kd.C_alloc ?_ _) | (with_reducible refine Kd.C_drewN ?_ _) | (with_reducible refine Kd.C_drew ?_))); (case side2 => exact HC378_0.out); rintro e w47 ⟨v381, rfl, ho0, hb⟩; refine ⟨_, rfl, ?_⟩; have n0_ := Aside0.mk (Kd.N_elder' (by (with_reducible repeat (first | apply Kd.N_alloc | apply Kd.N_drewN | apply Kd.N_drew)); exact HO_7.out) (Kd.R_base ho0) hb); have n1_ := Aside0.mk (Kd.V_elder' (by (with_reducible repeat (first | apply Kd.V_alloc | apply Kd.V_drewN | apply Kd.V_drew)); exact HL375_0.out) (Kd.R_base ho0) hb); have n2_ := Aside0.mk (Kd.V_elder' (by (with_reducible repeat (first | apply Kd.V_alloc | apply Kd.V_drewN | apply Kd.V_drew)); exact HL378_0.out) (Kd.R_base ho0) hb); have n3_ := Aside0.mk (Kd.R_lower ho0 (below_size (by repeat (first | (with_reducible first | exact HB.out | apply below_alloc | apply pw_below_drewN | apply below_drew1) | exact HB.out)))); have n4_ := Aside0.mk (Kd.C_below (by first | (with_reducible exact HR375_0.out) | (with_reducible exact Kd.C_drewN HR375_0.out _) | (with_reducible exact Kd.C_drew HR375_0.out) | (with_reducible exact Kd.C_alloc HR375_0.out _) | repeat (first | (with_reducible exact HR375_0.out) | (with_reducible refine Kd.C_alloc ?_ _) | (with_reducible refine Kd.C_drewN ?_ _) | (with_reducible refine Kd.C_drew ?_) | exact HR375_0.out)) hb); have n5_ := Aside0.mk (Kd.C_below (by first | (with_reducible exact HR378_0.out) | (with_reducible exact Kd.C_drewN HR378_0.out _) | (with_reducible exact Kd.C_drew HR378_0.out) | (with_reducible exact Kd.C_alloc HR378_0.out _) | repeat (first | (with_reducible exact HR378_0.out) | (with_reducible refine Kd.C_alloc ?_ _) | (with_reducible refine Kd.C_drewN ?_ _) | (with_reducible refine Kd.C_drew ?_) | exact HR378_0.out)) hb); have n6_ := Aside0.mk (below_step (by repeat (first | (with_reducible first | exact HB.out | apply below_alloc | apply pw_below_drewN | apply below_drew1) | exact HB.out)) hb); clear HO_7; clear HL375_0; clear HL378_0; clear HR375_0; clear HR378_0; clear HB; have HO_7 := n0_; have HL375_0 := n1_; have HL378_0 := n2_; have HO382 := n3_; have HR375_0 := n4_; have HR378_0 := n5_; have HB := n6_; clear n0_ n1_ n2_ n3_ n4_ n5_ n6_; (try clear hb); (try clear hb2); (try clear hk); (try clear hi); (try clear ho0); have p383 : 0 ≤ ((ji41) : Int) := of_decide_eq_true (by first | (with_reducible assumption) | assumption); have q383 : (ji41) < (t361.length : Int) := of_decide_eq_true (by first | (with_reducible assumption) | assumption); obtain ⟨ad383, A383_0, c383_0, e383, hx383_0, hl383_0, hi383_0⟩ := at_L1 (Kd.N_reads' HO_7.out).2.2 (ji41) p383 q383; obtain rfl : ad375 = ad383 := (by injection e383); obtain ⟨ce383, hce383, hMe383, hcc383⟩ := Kd.N_get HO_7.out [] (ji41) p383 (by first | exact q383 | exact of_decide_eq_true (by first | (with_reducible assumption) | assumption) | (have e_ := (Kd.N_reads' HO_7.out).1; omega)); obtain ⟨ua383_0, uc383_0, rfl, ul383_0, ge383_0⟩ := Kd.FK_slice_open hMe383; have hv383_0 := hcc383 0 _ rfl; rw [Nat.add_zero, show ((Kd.slice 3 (Kd.int .i64))).sz = 1 from rfl, Nat.mul_one] at hv383_0; replace hv383_0 := Option.some.inj (hv383_0.symm.trans hx383_0); injection hv383_0 with hva_ hvn_ hvc_; rw [hva_] at ge383_0; rw [hvc_] at ul383_0; have HL383_0 := Aside0.mk (show Kd.V (Kd.int .i64) 3 _ w.heap.size _ _ (rd_L1 t361 (ji41)) from Kd.V_mk ul383_0 ge383_0); clear hva_ hvn_ hvc_ ge383_0 ul383_0; clear hcc383 hce383; have HR383_0 := Aside0.mk hi383_0; have HC383_0 := Aside0.mk hl383_0; clear hi383_0 hl383_0; replace p383 := eq_true p383; replace q383 := eq_true q383; obtain ⟨Ao48, co48, eo48⟩ := Kd.R_slice HO382.out; subst eo48) | (go_at_call 41; (with_reducible refine (laws_uSame.calls kj20 _ _ t379 _ _ (rd_L1 t361 (ji41)) true _ ?side1 ?side2 ?side3 ?side4 A44.out).mono ?_); (case side1 => repeat (first | exact (Kd.R_reads' HO382.out).2.2 | (with_reducible refine Kd.C_alloc ?_ _) | (with_reducible refine Kd.C_drewN ?_ _) | (with_reducible refine Kd.C_drew ?_))); (case side2 => exact (Kd.R_reads' HO382.out).2.1); (case side3 => repeat (first | exact (by repeat (first | (with_reducible exact HR383_0.out) | (with_reducible refine Kd.C_alloc ?_ _) | (with_reducible refine Kd.C_drewN ?_ _) | (with_reducible refine Kd.C_drew ?_) | exact HR383_0.out)) | (with_reducible refine Kd.C_alloc ?_ _) | (with_reducible refine Kd.C_drewN ?_ _) | (with_reducible refine Kd.C_drew ?_))); (case side4 => exact HC383_0.out); rintro e w' ⟨rfl, ⟨nd, rfl⟩⟩))
                                        go_meet
                                        case rel => exact ⟨_, H', ⟨by have := HJ7.out; have := HJ20.out; first | omega | exact Nat.le_refl _⟩, ⟨by repeat (first | (with_reducible first | exact HB.out | apply below_alloc | apply pw_below_drewN | apply below_drew1) | exact HB.out)⟩⟩
                                      · replace c45 := Bool.eq_false_iff.mpr c45
                                        subst c45
                                        have H1 : (some false) = some r := by rw [if_neg (show ¬ (false = true) by decide)] at H; exact H
                                        clear H
                                        have H := H1
                                        clear H1
                                        obtain rfl := Option.some.inj H
                                        go_wp2_with (first | ((with_reducible refine gate_callee (f := 42) rfl ?_); refine goesL_ (some 97) rfl rfl Try.func42 (by kernel_rfl) rfl #[.slice A1 l1.length c1] rfl (by (try simp only [List.map_toArray, List.map_cons, List.map_nil]); first | done | rfl | (simp only [List.length_drop, List.length_take]; rfl)) ?_; (with_reducible refine (laws_numberOf.calls kj20 _ _ l1 t374 _ ?side1 ?side2 A28.out).mono ?_); (case side1 => repeat (first | exact (Kd.C_below HR1.out HB.out) | (with_reducible refine Kd.C_alloc ?_ _) | (with_reducible refine Kd.C_drewN ?_ _) | (with_reducible refine Kd.C_drew ?_))); (case side2 => exact HC1.out); rintro e w' ⟨rfl, ⟨nd, rfl⟩⟩; refine ⟨_, rfl, ?_⟩; have p375 : 0 ≤ ((ji30) : Int) := of_decide_eq_true (by first | (with_reducible assumption) | assumption); have q375 : (ji30) < (t361.length : Int) := of_decide_eq_true (by first | (with_reducible assumption) | assumption); obtain ⟨ad375, A375_0, c375_0, e375, hx375_0, hl375_0, hi375_0⟩ := at_L1 (Kd.N_reads' HO_7.out).2.2 (ji30) p375 q375; cases e375; obtain ⟨ce375, hce375, hMe375, hcc375⟩ := Kd.N_get HO_7.out [] (ji30) p375 (by first | exact q375 | exact of_decide_eq_true (by first | (with_reducible assumption) | assumption) | (have e_ := (Kd.N_reads' HO_7.out).1; omega)); obtain ⟨ua375_0, uc375_0, rfl, ul375_0, ge375_0⟩ := Kd.FK_slice_open hMe375; have hv375_0 := hcc375 0 _ rfl; rw [Nat.add_zero, show ((Kd.slice 3 (Kd.int .i64))).sz = 1 from rfl, Nat.mul_one] at hv375_0; replace hv375_0 := Option.some.inj (hv375_0.symm.trans hx375_0); injection hv375_0 with hva_ hvn_ hvc_; rw [hva_] at ge375_0; rw [hvc_] at ul375_0; have HL375_0 := Aside0.mk (show Kd.V (Kd.int .i64) 3 _ w.heap.size _ _ (rd_L1 t361 (ji30)) from Kd.V_mk ul375_0 ge375_0); clear hva_ hvn_ hvc_ ge375_0 ul375_0; clear hcc375 hce375; have HR375_0 := Aside0.mk hi375_0; have HC375_0 := Aside0.mk hl375_0; clear hi375_0 hl375_0; replace p375 := eq_true p375; replace q375 := eq_true q375) | ((with_reducible refine gate_callee (f := 54) rfl ?_); refine goesL_ (some 107) rfl rfl Try.func54 (by kernel_rfl) rfl #[.int .i64 t359, .slice A375_0 (rd_L1 t361 (ji30)).length c375_0] rfl (by (try simp only [List.map_toArray, List.map_cons, List.map_nil]); first | done | (simp only [hji30]; rfl) | rfl | (simp only [List.length_drop, List.length_take]; rfl)) ?_; (with_reducible refine (impl_RevolvingRank.calls kj20 t359 _ _ (rd_L1 t361 (ji30)) t376 true _ ?side1 ?side2 A33.out).mono ?_); (case side1 => repeat (first | exact (by repeat (first | (with_reducible exact HR375_0.out) | (with_reducible refine Kd.C_alloc ?_ _) | (with_reducible refine Kd.C_drewN ?_ _) | (with_reducible refine Kd.C_drew ?_) | exact HR375_0.out)) | (with_reducible refine Kd.C_alloc ?_ _) | (with_reducible refine Kd.C_drewN ?_ _) | (with_reducible refine Kd.C_drew ?_))); (case side2 => exact HC375_0.out); rintro e w49 ⟨rfl, hb⟩; refine ⟨_, rfl, ?_⟩; have n0_ := Aside0.mk (Kd.N_below (by (with_reducible repeat (first | apply Kd.N_alloc | apply Kd.N_drewN | apply Kd.N_drew)); exact HO_7.out) hb); have n1_ := Aside0.mk (Kd.V_below (by (with_reducible repeat (first | apply Kd.V_alloc | apply Kd.V_drewN | apply Kd.V_drew)); exact HL375_0.out) hb); have n2_ := Aside0.mk (Kd.C_below (by first | (with_reducible exact HR375_0.out) | (with_reducible exact Kd.C_drewN HR375_0.out _) | (with_reducible exact Kd.C_drew HR375_0.out) | (with_reducible exact Kd.C_alloc HR375_0.out _) | repeat (first | (with_reducible exact HR375_0.out) | (with_reducible refine Kd.C_alloc ?_ _) | (with_reducible refine Kd.C_drewN ?_ _) | (with_reducible refine Kd.C_drew ?_) | exact HR375_0.out)) hb); have n3_ := Aside0.mk (below_step (by repeat (first | (with_reducible first | exact HB.out | apply below_alloc | apply pw_below_drewN | apply below_drew1) | exact HB.out)) hb); clear HO_7; clear HL375_0; clear HR375_0; clear HB; have HO_7 := n0_; have HL375_0 := n1_; have HR375_0 := n2_; have HB := n3_; clear n0_ n1_ n2_ n3_; (try clear hb); (try clear hb2); (try clear hk); (try clear hi); have p378 : 0 ≤ ((ji30) : Int) := of_decide_eq_true (by first | (with_reducible assumption) | assumption); have q378 : (ji30) < (t361.length : Int) := of_decide_eq_true (by first | (with_reducible assumption) | assumption); obtain ⟨ad378, A378_0, c378_0, e378, hx378_0, hl378_0, hi378_0⟩ := at_L1 (Kd.N_reads' HO_7.out).2.2 (ji30) p378 q378; obtain rfl : ad375 = ad378 := (by injection e378); obtain ⟨ce378, hce378, hMe378, hcc378⟩ := Kd.N_get HO_7.out [] (ji30) p378 (by first | exact q378 | exact of_decide_eq_true (by first | (with_reducible assumption) | assumption) | (have e_ := (Kd.N_reads' HO_7.out).1; omega)); obtain ⟨ua378_0, uc378_0, rfl, ul378_0, ge378_0⟩ := Kd.FK_slice_open hMe378; have hv378_0 := hcc378 0 _ rfl; rw [Nat.add_zero, show ((Kd.slice 3 (Kd.int .i64))).sz = 1 from rfl, Nat.mul_one] at hv378_0; replace hv378_0 := Option.some.inj (hv378_0.symm.trans hx378_0); injection hv378_0 with hva_ hvn_ hvc_; rw [hva_] at ge378_0; rw [hvc_] at ul378_0; have HL378_0 := Aside0.mk (show Kd.V (Kd.int .i64) 3 _ w.heap.size _ _ (rd_L1 t361 (ji30)) from Kd.V_mk ul378_0 ge378_0); clear hva_ hvn_ hvc_ ge378_0 ul378_0; clear hcc378 hce378; have HR378_0 := Aside0.mk hi378_0; have HC378_0 := Aside0.mk hl378_0; clear hi378_0 hl378_0; replace p378 := eq_true p378; replace q378 := eq_true q378) | ((with_reducible refine gate_callee (f := 55) rfl ?_); refine goesL_ (some 116) rfl rfl Try.func55 (by kernel_rfl) rfl #[.int .i64 t359, .slice A378_0 (rd_L1 t361 (ji30)).length c378_0] rfl (by (try simp only [List.map_toArray, List.map_cons, List.map_nil]); first | done | (simp only [hji30]; rfl) | rfl | (simp only [List.length_drop, List.length_take]; rfl)) ?_; (with_reducible refine (impl_NextRevolving.calls kj20 t359 _ _ (rd_L1 t361 (ji30)) t379 true _ ?side1 ?side2 A34.out).mono ?_); (case side1 => repeat (first | exact (by repeat (first | (with_reducible exact HR378_0.out) | (with_reducible refine Kd.C_alloc ?_ _) | (with_reducible refine Kd.C_drewN ?_ _) | (with_reducible refine Kd.C_drew ?_) | exact HR378_0.out)) | (with_reducible refine Kd.C_alloc ?_ _) | (with_reducible refine Kd.C_drewN ?_ _) | (with_reducible refine Kd.C_drew ?_))); (case side2 => exact HC378_0.out); rintro e w50 ⟨v381, rfl, ho0, hb⟩; refine ⟨_, rfl, ?_⟩; have n0_ := Aside0.mk (Kd.N_elder' (by (with_reducible repeat (first | apply Kd.N_alloc | apply Kd.N_drewN | apply Kd.N_drew)); exact HO_7.out) (Kd.R_base ho0) hb); have n1_ := Aside0.mk (Kd.V_elder' (by (with_reducible repeat (first | apply Kd.V_alloc | apply Kd.V_drewN | apply Kd.V_drew)); exact HL375_0.out) (Kd.R_base ho0) hb); have n2_ := Aside0.mk (Kd.V_elder' (by (with_reducible repeat (first | apply Kd.V_alloc | apply Kd.V_drewN | apply Kd.V_drew)); exact HL378_0.out) (Kd.R_base ho0) hb); have n3_ := Aside0.mk (Kd.R_lower ho0 (below_size (by repeat (first | (with_reducible first | exact HB.out | apply below_alloc | apply pw_below_drewN | apply below_drew1) | exact HB.out)))); have n4_ := Aside0.mk (Kd.C_below (by first | (with_reducible exact HR375_0.out) | (with_reducible exact Kd.C_drewN HR375_0.out _) | (with_reducible exact Kd.C_drew HR375_0.out) | (with_reducible exact Kd.C_alloc HR375_0.out _) | repeat (first | (with_reducible exact HR375_0.out) | (with_reducible refine Kd.C_alloc ?_ _) | (with_reducible refine Kd.C_drewN ?_ _) | (with_reducible refine Kd.C_drew ?_) | exact HR375_0.out)) hb); have n5_ := Aside0.mk (Kd.C_below (by first | (with_reducible exact HR378_0.out) | (with_reducible exact Kd.C_drewN HR378_0.out _) | (with_reducible exact Kd.C_drew HR378_0.out) | (with_reducible exact Kd.C_alloc HR378_0.out _) | repeat (first | (with_reducible exact HR378_0.out) | (with_reducible refine Kd.C_alloc ?_ _) | (with_reducible refine Kd.C_drewN ?_ _) | (with_reducible refine Kd.C_drew ?_) | exact HR378_0.out)) hb); have n6_ := Aside0.mk (below_step (by repeat (first | (with_reducible first | exact HB.out | apply below_alloc | apply pw_below_drewN | apply below_drew1) | exact HB.out)) hb); clear HO_7; clear HL375_0; clear HL378_0; clear HR375_0; clear HR378_0; clear HB; have HO_7 := n0_; have HL375_0 := n1_; have HL378_0 := n2_; have HO382 := n3_; have HR375_0 := n4_; have HR378_0 := n5_; have HB := n6_; clear n0_ n1_ n2_ n3_ n4_ n5_ n6_; (try clear hb); (try clear hb2); (try clear hk); (try clear hi); (try clear ho0); have p383 : 0 ≤ ((ji41) : Int) := of_decide_eq_true (by first | (with_reducible assumption) | assumption); have q383 : (ji41) < (t361.length : Int) := of_decide_eq_true (by first | (with_reducible assumption) | assumption); obtain ⟨ad383, A383_0, c383_0, e383, hx383_0, hl383_0, hi383_0⟩ := at_L1 (Kd.N_reads' HO_7.out).2.2 (ji41) p383 q383; obtain rfl : ad375 = ad383 := (by injection e383); obtain ⟨ce383, hce383, hMe383, hcc383⟩ := Kd.N_get HO_7.out [] (ji41) p383 (by first | exact q383 | exact of_decide_eq_true (by first | (with_reducible assumption) | assumption) | (have e_ := (Kd.N_reads' HO_7.out).1; omega)); obtain ⟨ua383_0, uc383_0, rfl, ul383_0, ge383_0⟩ := Kd.FK_slice_open hMe383; have hv383_0 := hcc383 0 _ rfl; rw [Nat.add_zero, show ((Kd.slice 3 (Kd.int .i64))).sz = 1 from rfl, Nat.mul_one] at hv383_0; replace hv383_0 := Option.some.inj (hv383_0.symm.trans hx383_0); injection hv383_0 with hva_ hvn_ hvc_; rw [hva_] at ge383_0; rw [hvc_] at ul383_0; have HL383_0 := Aside0.mk (show Kd.V (Kd.int .i64) 3 _ w.heap.size _ _ (rd_L1 t361 (ji41)) from Kd.V_mk ul383_0 ge383_0); clear hva_ hvn_ hvc_ ge383_0 ul383_0; clear hcc383 hce383; have HR383_0 := Aside0.mk hi383_0; have HC383_0 := Aside0.mk hl383_0; clear hi383_0 hl383_0; replace p383 := eq_true p383; replace q383 := eq_true q383; obtain ⟨Ao51, co51, eo51⟩ := Kd.R_slice HO382.out; subst eo51) | (go_at_call 41; (with_reducible refine (laws_uSame.calls kj20 _ _ t379 _ _ (rd_L1 t361 (ji41)) false _ ?side1 ?side2 ?side3 ?side4 A44.out).mono ?_); (case side1 => repeat (first | exact (Kd.R_reads' HO382.out).2.2 | (with_reducible refine Kd.C_alloc ?_ _) | (with_reducible refine Kd.C_drewN ?_ _) | (with_reducible refine Kd.C_drew ?_))); (case side2 => exact (Kd.R_reads' HO382.out).2.1); (case side3 => repeat (first | exact (by repeat (first | (with_reducible exact HR383_0.out) | (with_reducible refine Kd.C_alloc ?_ _) | (with_reducible refine Kd.C_drewN ?_ _) | (with_reducible refine Kd.C_drew ?_) | exact HR383_0.out)) | (with_reducible refine Kd.C_alloc ?_ _) | (with_reducible refine Kd.C_drewN ?_ _) | (with_reducible refine Kd.C_drew ?_))); (case side4 => exact HC383_0.out); rintro e w' ⟨rfl, ⟨nd, rfl⟩⟩))
                                        go_ret
                                        exact ⟨by first | rfl | (simp [errW_none, errW_some] <;> rfl) | (simp only [← hji30, ← hji41]; first | rfl | (simp [errW_none, errW_some] <;> rfl)) | (simp [*, errW_none, errW_some] <;> rfl), by repeat (first | (with_reducible first | exact HB.out | apply below_alloc | apply pw_below_drewN | apply below_drew1) | exact HB.out)⟩
                                    · rw [if_neg c43] at H
                                      exact absurd H (by simp)
                                  · rw [if_neg c42] at H
                                    exact absurd H (by simp)
                                · replace c40 := Bool.eq_false_iff.mpr c40
                                  subst c40
                                  have H1 : (laws_FnRevolvingDoor.j2 kj20 l1) = some r := by rw [if_neg (show ¬ (false = true) by decide)] at H; exact H
                                  clear H
                                  have H := H1
                                  clear H1
                                  have H' := Aside0.mk H
                                  clear H
                                  go_wp2_with (first | ((with_reducible refine gate_callee (f := 42) rfl ?_); refine goesL_ (some 97) rfl rfl Try.func42 (by kernel_rfl) rfl #[.slice A1 l1.length c1] rfl (by (try simp only [List.map_toArray, List.map_cons, List.map_nil]); first | done | rfl | (simp only [List.length_drop, List.length_take]; rfl)) ?_; (with_reducible refine (laws_numberOf.calls kj20 _ _ l1 t374 _ ?side1 ?side2 A28.out).mono ?_); (case side1 => repeat (first | exact (Kd.C_below HR1.out HB.out) | (with_reducible refine Kd.C_alloc ?_ _) | (with_reducible refine Kd.C_drewN ?_ _) | (with_reducible refine Kd.C_drew ?_))); (case side2 => exact HC1.out); rintro e w' ⟨rfl, ⟨nd, rfl⟩⟩; refine ⟨_, rfl, ?_⟩; have p375 : 0 ≤ ((ji30) : Int) := of_decide_eq_true (by first | (with_reducible assumption) | assumption); have q375 : (ji30) < (t361.length : Int) := of_decide_eq_true (by first | (with_reducible assumption) | assumption); obtain ⟨ad375, A375_0, c375_0, e375, hx375_0, hl375_0, hi375_0⟩ := at_L1 (Kd.N_reads' HO_7.out).2.2 (ji30) p375 q375; cases e375; obtain ⟨ce375, hce375, hMe375, hcc375⟩ := Kd.N_get HO_7.out [] (ji30) p375 (by first | exact q375 | exact of_decide_eq_true (by first | (with_reducible assumption) | assumption) | (have e_ := (Kd.N_reads' HO_7.out).1; omega)); obtain ⟨ua375_0, uc375_0, rfl, ul375_0, ge375_0⟩ := Kd.FK_slice_open hMe375; have hv375_0 := hcc375 0 _ rfl; rw [Nat.add_zero, show ((Kd.slice 3 (Kd.int .i64))).sz = 1 from rfl, Nat.mul_one] at hv375_0; replace hv375_0 := Option.some.inj (hv375_0.symm.trans hx375_0); injection hv375_0 with hva_ hvn_ hvc_; rw [hva_] at ge375_0; rw [hvc_] at ul375_0; have HL375_0 := Aside0.mk (show Kd.V (Kd.int .i64) 3 _ w.heap.size _ _ (rd_L1 t361 (ji30)) from Kd.V_mk ul375_0 ge375_0); clear hva_ hvn_ hvc_ ge375_0 ul375_0; clear hcc375 hce375; have HR375_0 := Aside0.mk hi375_0; have HC375_0 := Aside0.mk hl375_0; clear hi375_0 hl375_0; replace p375 := eq_true p375; replace q375 := eq_true q375) | ((with_reducible refine gate_callee (f := 54) rfl ?_); refine goesL_ (some 107) rfl rfl Try.func54 (by kernel_rfl) rfl #[.int .i64 t359, .slice A375_0 (rd_L1 t361 (ji30)).length c375_0] rfl (by (try simp only [List.map_toArray, List.map_cons, List.map_nil]); first | done | (simp only [hji30]; rfl) | rfl | (simp only [List.length_drop, List.length_take]; rfl)) ?_; (with_reducible refine (impl_RevolvingRank.calls kj20 t359 _ _ (rd_L1 t361 (ji30)) t376 true _ ?side1 ?side2 A33.out).mono ?_); (case side1 => repeat (first | exact (by repeat (first | (with_reducible exact HR375_0.out) | (with_reducible refine Kd.C_alloc ?_ _) | (with_reducible refine Kd.C_drewN ?_ _) | (with_reducible refine Kd.C_drew ?_) | exact HR375_0.out)) | (with_reducible refine Kd.C_alloc ?_ _) | (with_reducible refine Kd.C_drewN ?_ _) | (with_reducible refine Kd.C_drew ?_))); (case side2 => exact HC375_0.out); rintro e w52 ⟨rfl, hb⟩; refine ⟨_, rfl, ?_⟩; have n0_ := Aside0.mk (Kd.N_below (by (with_reducible repeat (first | apply Kd.N_alloc | apply Kd.N_drewN | apply Kd.N_drew)); exact HO_7.out) hb); have n1_ := Aside0.mk (Kd.V_below (by (with_reducible repeat (first | apply Kd.V_alloc | apply Kd.V_drewN | apply Kd.V_drew)); exact HL375_0.out) hb); have n2_ := Aside0.mk (Kd.C_below (by first | (with_reducible exact HR375_0.out) | (with_reducible exact Kd.C_drewN HR375_0.out _) | (with_reducible exact Kd.C_drew HR375_0.out) | (with_reducible exact Kd.C_alloc HR375_0.out _) | repeat (first | (with_reducible exact HR375_0.out) | (with_reducible refine Kd.C_alloc ?_ _) | (with_reducible refine Kd.C_drewN ?_ _) | (with_reducible refine Kd.C_drew ?_) | exact HR375_0.out)) hb); have n3_ := Aside0.mk (below_step (by repeat (first | (with_reducible first | exact HB.out | apply below_alloc | apply pw_below_drewN | apply below_drew1) | exact HB.out)) hb); clear HO_7; clear HL375_0; clear HR375_0; clear HB; have HO_7 := n0_; have HL375_0 := n1_; have HR375_0 := n2_; have HB := n3_; clear n0_ n1_ n2_ n3_; (try clear hb); (try clear hb2); (try clear hk); (try clear hi); have p378 : 0 ≤ ((ji30) : Int) := of_decide_eq_true (by first | (with_reducible assumption) | assumption); have q378 : (ji30) < (t361.length : Int) := of_decide_eq_true (by first | (with_reducible assumption) | assumption); obtain ⟨ad378, A378_0, c378_0, e378, hx378_0, hl378_0, hi378_0⟩ := at_L1 (Kd.N_reads' HO_7.out).2.2 (ji30) p378 q378; obtain rfl : ad375 = ad378 := (by injection e378); obtain ⟨ce378, hce378, hMe378, hcc378⟩ := Kd.N_get HO_7.out [] (ji30) p378 (by first | exact q378 | exact of_decide_eq_true (by first | (with_reducible assumption) | assumption) | (have e_ := (Kd.N_reads' HO_7.out).1; omega)); obtain ⟨ua378_0, uc378_0, rfl, ul378_0, ge378_0⟩ := Kd.FK_slice_open hMe378; have hv378_0 := hcc378 0 _ rfl; rw [Nat.add_zero, show ((Kd.slice 3 (Kd.int .i64))).sz = 1 from rfl, Nat.mul_one] at hv378_0; replace hv378_0 := Option.some.inj (hv378_0.symm.trans hx378_0); injection hv378_0 with hva_ hvn_ hvc_; rw [hva_] at ge378_0; rw [hvc_] at ul378_0; have HL378_0 := Aside0.mk (show Kd.V (Kd.int .i64) 3 _ w.heap.size _ _ (rd_L1 t361 (ji30)) from Kd.V_mk ul378_0 ge378_0); clear hva_ hvn_ hvc_ ge378_0 ul378_0; clear hcc378 hce378; have HR378_0 := Aside0.mk hi378_0; have HC378_0 := Aside0.mk hl378_0; clear hi378_0 hl378_0; replace p378 := eq_true p378; replace q378 := eq_true q378) | ((with_reducible refine gate_callee (f := 55) rfl ?_); refine goesL_ (some 116) rfl rfl Try.func55 (by kernel_rfl) rfl #[.int .i64 t359, .slice A378_0 (rd_L1 t361 (ji30)).length c378_0] rfl (by (try simp only [List.map_toArray, List.map_cons, List.map_nil]); first | done | (simp only [hji30]; rfl) | rfl | (simp only [List.length_drop, List.length_take]; rfl)) ?_; (with_reducible refine (impl_NextRevolving.calls kj20 t359 _ _ (rd_L1 t361 (ji30)) t379 false _ ?side1 ?side2 A34.out).mono ?_); (case side1 => repeat (first | exact (by repeat (first | (with_reducible exact HR378_0.out) | (with_reducible refine Kd.C_alloc ?_ _) | (with_reducible refine Kd.C_drewN ?_ _) | (with_reducible refine Kd.C_drew ?_) | exact HR378_0.out)) | (with_reducible refine Kd.C_alloc ?_ _) | (with_reducible refine Kd.C_drewN ?_ _) | (with_reducible refine Kd.C_drew ?_))); (case side2 => exact HC378_0.out); rintro e w53 ⟨v381, rfl, ho0, hb⟩; refine ⟨_, rfl, ?_⟩; have n0_ := Aside0.mk (Kd.N_elder' (by (with_reducible repeat (first | apply Kd.N_alloc | apply Kd.N_drewN | apply Kd.N_drew)); exact HO_7.out) (Kd.R_base ho0) hb); have n1_ := Aside0.mk (Kd.V_elder' (by (with_reducible repeat (first | apply Kd.V_alloc | apply Kd.V_drewN | apply Kd.V_drew)); exact HL375_0.out) (Kd.R_base ho0) hb); have n2_ := Aside0.mk (Kd.V_elder' (by (with_reducible repeat (first | apply Kd.V_alloc | apply Kd.V_drewN | apply Kd.V_drew)); exact HL378_0.out) (Kd.R_base ho0) hb); have n3_ := Aside0.mk (Kd.R_lower ho0 (below_size (by repeat (first | (with_reducible first | exact HB.out | apply below_alloc | apply pw_below_drewN | apply below_drew1) | exact HB.out)))); have n4_ := Aside0.mk (Kd.C_below (by first | (with_reducible exact HR375_0.out) | (with_reducible exact Kd.C_drewN HR375_0.out _) | (with_reducible exact Kd.C_drew HR375_0.out) | (with_reducible exact Kd.C_alloc HR375_0.out _) | repeat (first | (with_reducible exact HR375_0.out) | (with_reducible refine Kd.C_alloc ?_ _) | (with_reducible refine Kd.C_drewN ?_ _) | (with_reducible refine Kd.C_drew ?_) | exact HR375_0.out)) hb); have n5_ := Aside0.mk (Kd.C_below (by first | (with_reducible exact HR378_0.out) | (with_reducible exact Kd.C_drewN HR378_0.out _) | (with_reducible exact Kd.C_drew HR378_0.out) | (with_reducible exact Kd.C_alloc HR378_0.out _) | repeat (first | (with_reducible exact HR378_0.out) | (with_reducible refine Kd.C_alloc ?_ _) | (with_reducible refine Kd.C_drewN ?_ _) | (with_reducible refine Kd.C_drew ?_) | exact HR378_0.out)) hb); have n6_ := Aside0.mk (below_step (by repeat (first | (with_reducible first | exact HB.out | apply below_alloc | apply pw_below_drewN | apply below_drew1) | exact HB.out)) hb); clear HO_7; clear HL375_0; clear HL378_0; clear HR375_0; clear HR378_0; clear HB; have HO_7 := n0_; have HL375_0 := n1_; have HL378_0 := n2_; have HO382 := n3_; have HR375_0 := n4_; have HR378_0 := n5_; have HB := n6_; clear n0_ n1_ n2_ n3_ n4_ n5_ n6_; (try clear hb); (try clear hb2); (try clear hk); (try clear hi); (try clear ho0)))
                                  go_meet
                                  case rel => exact ⟨_, H', ⟨by have := HJ7.out; have := HJ20.out; first | omega | exact Nat.le_refl _⟩, ⟨by repeat (first | (with_reducible first | exact HB.out | apply below_alloc | apply pw_below_drewN | apply below_drew1) | exact HB.out)⟩⟩
                            · rw [if_neg c36] at H
                              have c36b0 : (t376 == (ji30)) = false := beq_eq_false_iff_ne.mpr c36
                              have c36b1 : (t376 != (ji30)) = true := bne_iff_ne.mpr c36
                              obtain rfl := Option.some.inj H
                              go_wp2_with (first | ((with_reducible refine gate_callee (f := 42) rfl ?_); refine goesL_ (some 97) rfl rfl Try.func42 (by kernel_rfl) rfl #[.slice A1 l1.length c1] rfl (by (try simp only [List.map_toArray, List.map_cons, List.map_nil]); first | done | rfl | (simp only [List.length_drop, List.length_take]; rfl)) ?_; (with_reducible refine (laws_numberOf.calls kj20 _ _ l1 t374 _ ?side1 ?side2 A28.out).mono ?_); (case side1 => repeat (first | exact (Kd.C_below HR1.out HB.out) | (with_reducible refine Kd.C_alloc ?_ _) | (with_reducible refine Kd.C_drewN ?_ _) | (with_reducible refine Kd.C_drew ?_))); (case side2 => exact HC1.out); rintro e w' ⟨rfl, ⟨nd, rfl⟩⟩; refine ⟨_, rfl, ?_⟩; have p375 : 0 ≤ ((ji30) : Int) := of_decide_eq_true (by first | (with_reducible assumption) | assumption); have q375 : (ji30) < (t361.length : Int) := of_decide_eq_true (by first | (with_reducible assumption) | assumption); obtain ⟨ad375, A375_0, c375_0, e375, hx375_0, hl375_0, hi375_0⟩ := at_L1 (Kd.N_reads' HO_7.out).2.2 (ji30) p375 q375; cases e375; obtain ⟨ce375, hce375, hMe375, hcc375⟩ := Kd.N_get HO_7.out [] (ji30) p375 (by first | exact q375 | exact of_decide_eq_true (by first | (with_reducible assumption) | assumption) | (have e_ := (Kd.N_reads' HO_7.out).1; omega)); obtain ⟨ua375_0, uc375_0, rfl, ul375_0, ge375_0⟩ := Kd.FK_slice_open hMe375; have hv375_0 := hcc375 0 _ rfl; rw [Nat.add_zero, show ((Kd.slice 3 (Kd.int .i64))).sz = 1 from rfl, Nat.mul_one] at hv375_0; replace hv375_0 := Option.some.inj (hv375_0.symm.trans hx375_0); injection hv375_0 with hva_ hvn_ hvc_; rw [hva_] at ge375_0; rw [hvc_] at ul375_0; have HL375_0 := Aside0.mk (show Kd.V (Kd.int .i64) 3 _ w.heap.size _ _ (rd_L1 t361 (ji30)) from Kd.V_mk ul375_0 ge375_0); clear hva_ hvn_ hvc_ ge375_0 ul375_0; clear hcc375 hce375; have HR375_0 := Aside0.mk hi375_0; have HC375_0 := Aside0.mk hl375_0; clear hi375_0 hl375_0; replace p375 := eq_true p375; replace q375 := eq_true q375) | ((with_reducible refine gate_callee (f := 54) rfl ?_); refine goesL_ (some 107) rfl rfl Try.func54 (by kernel_rfl) rfl #[.int .i64 t359, .slice A375_0 (rd_L1 t361 (ji30)).length c375_0] rfl (by (try simp only [List.map_toArray, List.map_cons, List.map_nil]); first | done | (simp only [hji30]; rfl) | rfl | (simp only [List.length_drop, List.length_take]; rfl)) ?_; (with_reducible refine (impl_RevolvingRank.calls kj20 t359 _ _ (rd_L1 t361 (ji30)) t376 true _ ?side1 ?side2 A33.out).mono ?_); (case side1 => repeat (first | exact (by repeat (first | (with_reducible exact HR375_0.out) | (with_reducible refine Kd.C_alloc ?_ _) | (with_reducible refine Kd.C_drewN ?_ _) | (with_reducible refine Kd.C_drew ?_) | exact HR375_0.out)) | (with_reducible refine Kd.C_alloc ?_ _) | (with_reducible refine Kd.C_drewN ?_ _) | (with_reducible refine Kd.C_drew ?_))); (case side2 => exact HC375_0.out); rintro e w54 ⟨rfl, hb⟩; refine ⟨_, rfl, ?_⟩; have n0_ := Aside0.mk (Kd.N_below (by (with_reducible repeat (first | apply Kd.N_alloc | apply Kd.N_drewN | apply Kd.N_drew)); exact HO_7.out) hb); have n1_ := Aside0.mk (Kd.V_below (by (with_reducible repeat (first | apply Kd.V_alloc | apply Kd.V_drewN | apply Kd.V_drew)); exact HL375_0.out) hb); have n2_ := Aside0.mk (Kd.C_below (by first | (with_reducible exact HR375_0.out) | (with_reducible exact Kd.C_drewN HR375_0.out _) | (with_reducible exact Kd.C_drew HR375_0.out) | (with_reducible exact Kd.C_alloc HR375_0.out _) | repeat (first | (with_reducible exact HR375_0.out) | (with_reducible refine Kd.C_alloc ?_ _) | (with_reducible refine Kd.C_drewN ?_ _) | (with_reducible refine Kd.C_drew ?_) | exact HR375_0.out)) hb); have n3_ := Aside0.mk (below_step (by repeat (first | (with_reducible first | exact HB.out | apply below_alloc | apply pw_below_drewN | apply below_drew1) | exact HB.out)) hb); clear HO_7; clear HL375_0; clear HR375_0; clear HB; have HO_7 := n0_; have HL375_0 := n1_; have HR375_0 := n2_; have HB := n3_; clear n0_ n1_ n2_ n3_; (try clear hb); (try clear hb2); (try clear hk); (try clear hi); have p378 : 0 ≤ ((ji30) : Int) := of_decide_eq_true (by first | (with_reducible assumption) | assumption); have q378 : (ji30) < (t361.length : Int) := of_decide_eq_true (by first | (with_reducible assumption) | assumption); obtain ⟨ad378, A378_0, c378_0, e378, hx378_0, hl378_0, hi378_0⟩ := at_L1 (Kd.N_reads' HO_7.out).2.2 (ji30) p378 q378; obtain rfl : ad375 = ad378 := (by injection e378); obtain ⟨ce378, hce378, hMe378, hcc378⟩ := Kd.N_get HO_7.out [] (ji30) p378 (by first | exact q378 | exact of_decide_eq_true (by first | (with_reducible assumption) | assumption) | (have e_ := (Kd.N_reads' HO_7.out).1; omega)); obtain ⟨ua378_0, uc378_0, rfl, ul378_0, ge378_0⟩ := Kd.FK_slice_open hMe378; have hv378_0 := hcc378 0 _ rfl; rw [Nat.add_zero, show ((Kd.slice 3 (Kd.int .i64))).sz = 1 from rfl, Nat.mul_one] at hv378_0; replace hv378_0 := Option.some.inj (hv378_0.symm.trans hx378_0); injection hv378_0 with hva_ hvn_ hvc_; rw [hva_] at ge378_0; rw [hvc_] at ul378_0; have HL378_0 := Aside0.mk (show Kd.V (Kd.int .i64) 3 _ w.heap.size _ _ (rd_L1 t361 (ji30)) from Kd.V_mk ul378_0 ge378_0); clear hva_ hvn_ hvc_ ge378_0 ul378_0; clear hcc378 hce378; have HR378_0 := Aside0.mk hi378_0; have HC378_0 := Aside0.mk hl378_0; clear hi378_0 hl378_0; replace p378 := eq_true p378; replace q378 := eq_true q378) | ((with_reducible refine gate_callee (f := 55) rfl ?_); refine goesL_ (some 116) rfl rfl Try.func55 (by kernel_rfl) rfl #[.int .i64 t359, .slice A378_0 (rd_L1 t361 (ji30)).length c378_0] rfl (by (try simp only [List.map_toArray, List.map_cons, List.map_nil]); first | done | (simp only [hji30]; rfl) | rfl | (simp only [List.length_drop, List.length_take]; rfl)) ?_; (with_reducible refine (impl_NextRevolving.calls kj20 t359 _ _ (rd_L1 t361 (ji30)) t379 t380 _ ?side1 ?side2 A34.out).mono ?_); (case side1 => repeat (first | exact (by repeat (first | (with_reducible exact HR378_0.out) | (with_reducible refine Kd.C_alloc ?_ _) | (with_reducible refine Kd.C_drewN ?_ _) | (with_reducible refine Kd.C_drew ?_) | exact HR378_0.out)) | (with_reducible refine Kd.C_alloc ?_ _) | (with_reducible refine Kd.C_drewN ?_ _) | (with_reducible refine Kd.C_drew ?_))); (case side2 => exact HC378_0.out); rintro e w55 ⟨v381, rfl, ho0, hb⟩; refine ⟨_, rfl, ?_⟩; have n0_ := Aside0.mk (Kd.N_elder' (by (with_reducible repeat (first | apply Kd.N_alloc | apply Kd.N_drewN | apply Kd.N_drew)); exact HO_7.out) (Kd.R_base ho0) hb); have n1_ := Aside0.mk (Kd.V_elder' (by (with_reducible repeat (first | apply Kd.V_alloc | apply Kd.V_drewN | apply Kd.V_drew)); exact HL375_0.out) (Kd.R_base ho0) hb); have n2_ := Aside0.mk (Kd.V_elder' (by (with_reducible repeat (first | apply Kd.V_alloc | apply Kd.V_drewN | apply Kd.V_drew)); exact HL378_0.out) (Kd.R_base ho0) hb); have n3_ := Aside0.mk (Kd.R_lower ho0 (below_size (by repeat (first | (with_reducible first | exact HB.out | apply below_alloc | apply pw_below_drewN | apply below_drew1) | exact HB.out)))); have n4_ := Aside0.mk (Kd.C_below (by first | (with_reducible exact HR375_0.out) | (with_reducible exact Kd.C_drewN HR375_0.out _) | (with_reducible exact Kd.C_drew HR375_0.out) | (with_reducible exact Kd.C_alloc HR375_0.out _) | repeat (first | (with_reducible exact HR375_0.out) | (with_reducible refine Kd.C_alloc ?_ _) | (with_reducible refine Kd.C_drewN ?_ _) | (with_reducible refine Kd.C_drew ?_) | exact HR375_0.out)) hb); have n5_ := Aside0.mk (Kd.C_below (by first | (with_reducible exact HR378_0.out) | (with_reducible exact Kd.C_drewN HR378_0.out _) | (with_reducible exact Kd.C_drew HR378_0.out) | (with_reducible exact Kd.C_alloc HR378_0.out _) | repeat (first | (with_reducible exact HR378_0.out) | (with_reducible refine Kd.C_alloc ?_ _) | (with_reducible refine Kd.C_drewN ?_ _) | (with_reducible refine Kd.C_drew ?_) | exact HR378_0.out)) hb); have n6_ := Aside0.mk (below_step (by repeat (first | (with_reducible first | exact HB.out | apply below_alloc | apply pw_below_drewN | apply below_drew1) | exact HB.out)) hb); clear HO_7; clear HL375_0; clear HL378_0; clear HR375_0; clear HR378_0; clear HB; have HO_7 := n0_; have HL375_0 := n1_; have HL378_0 := n2_; have HO382 := n3_; have HR375_0 := n4_; have HR378_0 := n5_; have HB := n6_; clear n0_ n1_ n2_ n3_ n4_ n5_ n6_; (try clear hb); (try clear hb2); (try clear hk); (try clear hi); (try clear ho0)))
                              go_ret
                              exact ⟨by first | rfl | (simp [errW_none, errW_some] <;> rfl) | (simp only [← hji30]; first | rfl | (simp [errW_none, errW_some] <;> rfl)) | (simp [*, errW_none, errW_some] <;> rfl), by repeat (first | (with_reducible first | exact HB.out | apply below_alloc | apply pw_below_drewN | apply below_drew1) | exact HB.out)⟩
                          · replace c35 := Bool.eq_false_iff.mpr c35
                            subst c35
                            have H1 : (some false) = some r := by rw [if_neg (show ¬ (false = true) by decide)] at H; exact H
                            clear H
                            have H := H1
                            clear H1
                            obtain rfl := Option.some.inj H
                            go_wp2_with (first | ((with_reducible refine gate_callee (f := 42) rfl ?_); refine goesL_ (some 97) rfl rfl Try.func42 (by kernel_rfl) rfl #[.slice A1 l1.length c1] rfl (by (try simp only [List.map_toArray, List.map_cons, List.map_nil]); first | done | rfl | (simp only [List.length_drop, List.length_take]; rfl)) ?_; (with_reducible refine (laws_numberOf.calls kj20 _ _ l1 t374 _ ?side1 ?side2 A28.out).mono ?_); (case side1 => repeat (first | exact (Kd.C_below HR1.out HB.out) | (with_reducible refine Kd.C_alloc ?_ _) | (with_reducible refine Kd.C_drewN ?_ _) | (with_reducible refine Kd.C_drew ?_))); (case side2 => exact HC1.out); rintro e w' ⟨rfl, ⟨nd, rfl⟩⟩; refine ⟨_, rfl, ?_⟩; have p375 : 0 ≤ ((ji30) : Int) := of_decide_eq_true (by first | (with_reducible assumption) | assumption); have q375 : (ji30) < (t361.length : Int) := of_decide_eq_true (by first | (with_reducible assumption) | assumption); obtain ⟨ad375, A375_0, c375_0, e375, hx375_0, hl375_0, hi375_0⟩ := at_L1 (Kd.N_reads' HO_7.out).2.2 (ji30) p375 q375; cases e375; obtain ⟨ce375, hce375, hMe375, hcc375⟩ := Kd.N_get HO_7.out [] (ji30) p375 (by first | exact q375 | exact of_decide_eq_true (by first | (with_reducible assumption) | assumption) | (have e_ := (Kd.N_reads' HO_7.out).1; omega)); obtain ⟨ua375_0, uc375_0, rfl, ul375_0, ge375_0⟩ := Kd.FK_slice_open hMe375; have hv375_0 := hcc375 0 _ rfl; rw [Nat.add_zero, show ((Kd.slice 3 (Kd.int .i64))).sz = 1 from rfl, Nat.mul_one] at hv375_0; replace hv375_0 := Option.some.inj (hv375_0.symm.trans hx375_0); injection hv375_0 with hva_ hvn_ hvc_; rw [hva_] at ge375_0; rw [hvc_] at ul375_0; have HL375_0 := Aside0.mk (show Kd.V (Kd.int .i64) 3 _ w.heap.size _ _ (rd_L1 t361 (ji30)) from Kd.V_mk ul375_0 ge375_0); clear hva_ hvn_ hvc_ ge375_0 ul375_0; clear hcc375 hce375; have HR375_0 := Aside0.mk hi375_0; have HC375_0 := Aside0.mk hl375_0; clear hi375_0 hl375_0; replace p375 := eq_true p375; replace q375 := eq_true q375) | ((with_reducible refine gate_callee (f := 54) rfl ?_); refine goesL_ (some 107) rfl rfl Try.func54 (by kernel_rfl) rfl #[.int .i64 t359, .slice A375_0 (rd_L1 t361 (ji30)).length c375_0] rfl (by (try simp only [List.map_toArray, List.map_cons, List.map_nil]); first | done | (simp only [hji30]; rfl) | rfl | (simp only [List.length_drop, List.length_take]; rfl)) ?_; (with_reducible refine (impl_RevolvingRank.calls kj20 t359 _ _ (rd_L1 t361 (ji30)) t376 false _ ?side1 ?side2 A33.out).mono ?_); (case side1 => repeat (first | exact (by repeat (first | (with_reducible exact HR375_0.out) | (with_reducible refine Kd.C_alloc ?_ _) | (with_reducible refine Kd.C_drewN ?_ _) | (with_reducible refine Kd.C_drew ?_) | exact HR375_0.out)) | (with_reducible refine Kd.C_alloc ?_ _) | (with_reducible refine Kd.C_drewN ?_ _) | (with_reducible refine Kd.C_drew ?_))); (case side2 => exact HC375_0.out); rintro e w56 ⟨rfl, hb⟩; refine ⟨_, rfl, ?_⟩; have n0_ := Aside0.mk (Kd.N_below (by (with_reducible repeat (first | apply Kd.N_alloc | apply Kd.N_drewN | apply Kd.N_drew)); exact HO_7.out) hb); have n1_ := Aside0.mk (Kd.V_below (by (with_reducible repeat (first | apply Kd.V_alloc | apply Kd.V_drewN | apply Kd.V_drew)); exact HL375_0.out) hb); have n2_ := Aside0.mk (Kd.C_below (by first | (with_reducible exact HR375_0.out) | (with_reducible exact Kd.C_drewN HR375_0.out _) | (with_reducible exact Kd.C_drew HR375_0.out) | (with_reducible exact Kd.C_alloc HR375_0.out _) | repeat (first | (with_reducible exact HR375_0.out) | (with_reducible refine Kd.C_alloc ?_ _) | (with_reducible refine Kd.C_drewN ?_ _) | (with_reducible refine Kd.C_drew ?_) | exact HR375_0.out)) hb); have n3_ := Aside0.mk (below_step (by repeat (first | (with_reducible first | exact HB.out | apply below_alloc | apply pw_below_drewN | apply below_drew1) | exact HB.out)) hb); clear HO_7; clear HL375_0; clear HR375_0; clear HB; have HO_7 := n0_; have HL375_0 := n1_; have HR375_0 := n2_; have HB := n3_; clear n0_ n1_ n2_ n3_; (try clear hb); (try clear hb2); (try clear hk); (try clear hi); have p378 : 0 ≤ ((ji30) : Int) := of_decide_eq_true (by first | (with_reducible assumption) | assumption); have q378 : (ji30) < (t361.length : Int) := of_decide_eq_true (by first | (with_reducible assumption) | assumption); obtain ⟨ad378, A378_0, c378_0, e378, hx378_0, hl378_0, hi378_0⟩ := at_L1 (Kd.N_reads' HO_7.out).2.2 (ji30) p378 q378; obtain rfl : ad375 = ad378 := (by injection e378); obtain ⟨ce378, hce378, hMe378, hcc378⟩ := Kd.N_get HO_7.out [] (ji30) p378 (by first | exact q378 | exact of_decide_eq_true (by first | (with_reducible assumption) | assumption) | (have e_ := (Kd.N_reads' HO_7.out).1; omega)); obtain ⟨ua378_0, uc378_0, rfl, ul378_0, ge378_0⟩ := Kd.FK_slice_open hMe378; have hv378_0 := hcc378 0 _ rfl; rw [Nat.add_zero, show ((Kd.slice 3 (Kd.int .i64))).sz = 1 from rfl, Nat.mul_one] at hv378_0; replace hv378_0 := Option.some.inj (hv378_0.symm.trans hx378_0); injection hv378_0 with hva_ hvn_ hvc_; rw [hva_] at ge378_0; rw [hvc_] at ul378_0; have HL378_0 := Aside0.mk (show Kd.V (Kd.int .i64) 3 _ w.heap.size _ _ (rd_L1 t361 (ji30)) from Kd.V_mk ul378_0 ge378_0); clear hva_ hvn_ hvc_ ge378_0 ul378_0; clear hcc378 hce378; have HR378_0 := Aside0.mk hi378_0; have HC378_0 := Aside0.mk hl378_0; clear hi378_0 hl378_0; replace p378 := eq_true p378; replace q378 := eq_true q378) | ((with_reducible refine gate_callee (f := 55) rfl ?_); refine goesL_ (some 116) rfl rfl Try.func55 (by kernel_rfl) rfl #[.int .i64 t359, .slice A378_0 (rd_L1 t361 (ji30)).length c378_0] rfl (by (try simp only [List.map_toArray, List.map_cons, List.map_nil]); first | done | (simp only [hji30]; rfl) | rfl | (simp only [List.length_drop, List.length_take]; rfl)) ?_; (with_reducible refine (impl_NextRevolving.calls kj20 t359 _ _ (rd_L1 t361 (ji30)) t379 t380 _ ?side1 ?side2 A34.out).mono ?_); (case side1 => repeat (first | exact (by repeat (first | (with_reducible exact HR378_0.out) | (with_reducible refine Kd.C_alloc ?_ _) | (with_reducible refine Kd.C_drewN ?_ _) | (with_reducible refine Kd.C_drew ?_) | exact HR378_0.out)) | (with_reducible refine Kd.C_alloc ?_ _) | (with_reducible refine Kd.C_drewN ?_ _) | (with_reducible refine Kd.C_drew ?_))); (case side2 => exact HC378_0.out); rintro e w57 ⟨v381, rfl, ho0, hb⟩; refine ⟨_, rfl, ?_⟩; have n0_ := Aside0.mk (Kd.N_elder' (by (with_reducible repeat (first | apply Kd.N_alloc | apply Kd.N_drewN | apply Kd.N_drew)); exact HO_7.out) (Kd.R_base ho0) hb); have n1_ := Aside0.mk (Kd.V_elder' (by (with_reducible repeat (first | apply Kd.V_alloc | apply Kd.V_drewN | apply Kd.V_drew)); exact HL375_0.out) (Kd.R_base ho0) hb); have n2_ := Aside0.mk (Kd.V_elder' (by (with_reducible repeat (first | apply Kd.V_alloc | apply Kd.V_drewN | apply Kd.V_drew)); exact HL378_0.out) (Kd.R_base ho0) hb); have n3_ := Aside0.mk (Kd.R_lower ho0 (below_size (by repeat (first | (with_reducible first | exact HB.out | apply below_alloc | apply pw_below_drewN | apply below_drew1) | exact HB.out)))); have n4_ := Aside0.mk (Kd.C_below (by first | (with_reducible exact HR375_0.out) | (with_reducible exact Kd.C_drewN HR375_0.out _) | (with_reducible exact Kd.C_drew HR375_0.out) | (with_reducible exact Kd.C_alloc HR375_0.out _) | repeat (first | (with_reducible exact HR375_0.out) | (with_reducible refine Kd.C_alloc ?_ _) | (with_reducible refine Kd.C_drewN ?_ _) | (with_reducible refine Kd.C_drew ?_) | exact HR375_0.out)) hb); have n5_ := Aside0.mk (Kd.C_below (by first | (with_reducible exact HR378_0.out) | (with_reducible exact Kd.C_drewN HR378_0.out _) | (with_reducible exact Kd.C_drew HR378_0.out) | (with_reducible exact Kd.C_alloc HR378_0.out _) | repeat (first | (with_reducible exact HR378_0.out) | (with_reducible refine Kd.C_alloc ?_ _) | (with_reducible refine Kd.C_drewN ?_ _) | (with_reducible refine Kd.C_drew ?_) | exact HR378_0.out)) hb); have n6_ := Aside0.mk (below_step (by repeat (first | (with_reducible first | exact HB.out | apply below_alloc | apply pw_below_drewN | apply below_drew1) | exact HB.out)) hb); clear HO_7; clear HL375_0; clear HL378_0; clear HR375_0; clear HR378_0; clear HB; have HO_7 := n0_; have HL375_0 := n1_; have HL378_0 := n2_; have HO382 := n3_; have HR375_0 := n4_; have HR378_0 := n5_; have HB := n6_; clear n0_ n1_ n2_ n3_ n4_ n5_ n6_; (try clear hb); (try clear hb2); (try clear hk); (try clear hi); (try clear ho0)))
                            go_ret
                            exact ⟨by first | rfl | (simp [errW_none, errW_some] <;> rfl) | (simp only [← hji30]; first | rfl | (simp [errW_none, errW_some] <;> rfl)) | (simp [*, errW_none, errW_some] <;> rfl), by repeat (first | (with_reducible first | exact HB.out | apply below_alloc | apply pw_below_drewN | apply below_drew1) | exact HB.out)⟩
                        · rw [if_neg c32] at H
                          exact absurd H (by simp)
                      · rw [if_neg c31] at H
                        exact absurd H (by simp)
            · replace c18 := Bool.eq_false_iff.mpr c18
              subst c18
              have H1 : (laws_FnRevolvingDoor.j2 kj7 l1) = some r := by rw [if_neg (show ¬ (false = true) by decide)] at H; exact H
              clear H
              have H := H1
              clear H1
              have H' := Aside0.mk H
              clear H
              go_wp2
              go_meet
              case rel => exact ⟨_, H', ⟨by have := HJ7.out; first | omega | exact Nat.le_refl _⟩, ⟨by repeat (first | (with_reducible first | exact HB.out | apply below_alloc | apply pw_below_drewN | apply below_drew1) | exact HB.out)⟩⟩
          case rest => as_aux_lemma =>
            clear HC17
            try clear c1
            try clear c2
            try clear p2
            try clear c3
            try clear p3
            try clear q3
            try clear hx3
            try clear c4
            try clear c5
            try clear p6
            try clear c11
            try clear c12
            try clear c12b0
            try clear c12b1
            try clear c12b2
            try clear c16
            try clear c18
            try clear c24
            try clear c25
            try clear c26
            try clear c27
            try clear c29
            try clear c29b0
            try clear c29b1
            try clear c29b2
            try clear c31
            try clear c31b0
            try clear c32
            try clear c32b0
            try clear c35
            try clear c36
            try clear c36b0
            try clear c36b1
            try clear c37
            try clear c37b0
            try clear c37b1
            try clear c37b2
            try clear p37
            try clear q37
            try clear hx37
            try clear c38
            try clear p38
            try clear q38
            try clear hx38
            try clear c40
            try clear c42
            try clear c42b0
            try clear c43
            try clear c43b0
            try clear c45
            try clear c51
            try clear c52
            try clear c53
            try clear c54
            try clear c55
            try clear hx375_0
            try clear hx378_0
            try clear hx383_0
            try clear p2
            try clear p375
            try clear p378
            try clear p383
            try clear q375
            try clear q378
            try clear q383
            obtain ⟨kq, HA, HJ16, HB⟩ := hcut
            cases kq with
            | zero => exact absurd HA.out (by simp [laws_FnRevolvingDoor.j2])
            | succ kj16 =>
              have H := HA.out
              clear HA
              simp only [laws_FnRevolvingDoor.j2] at H
              replace H := Option.bind_eq_some_iff.mp H
              obtain ⟨⟨t385, t386, t387⟩, A580, H⟩ := H
              replace H : ((impl_RevolvingAt.f kj16 t385 t386 t387).bind fun bt388 => ((spec_RevolvingAt.f kj16 t385 t386 t387).bind fun bt392 => (if (bt388.2 != bt392.2) = true then (laws_FnRevolvingDoor.j3 kj16 l1 true) else ((laws_uSame.f kj16 bt388.1 bt392.1).bind fun t396 => (laws_FnRevolvingDoor.j3 kj16 l1 (!t396)))))) = some r := H
              have A58 := Aside0.mk A580
              clear A580
              replace H := Option.bind_eq_some_iff.mp H
              obtain ⟨⟨t388, t389⟩, A590, H⟩ := H
              replace H : ((spec_RevolvingAt.f kj16 t385 t386 t387).bind fun bt392 => (if (t389 != bt392.2) = true then (laws_FnRevolvingDoor.j3 kj16 l1 true) else ((laws_uSame.f kj16 t388 bt392.1).bind fun t396 => (laws_FnRevolvingDoor.j3 kj16 l1 (!t396))))) = some r := H
              have A59 := Aside0.mk A590
              clear A590
              replace H := Option.bind_eq_some_iff.mp H
              obtain ⟨⟨t392, t393⟩, A600, H⟩ := H
              replace H : (if (t389 != t393) = true then (laws_FnRevolvingDoor.j3 kj16 l1 true) else ((laws_uSame.f kj16 t388 t392).bind fun t396 => (laws_FnRevolvingDoor.j3 kj16 l1 (!t396)))) = some r := H
              have A60 := Aside0.mk A600
              clear A600
              have HC61 := Aside0.mk H
              clear H
              go_upto_region 21 with (first | ((with_reducible refine gate_callee (f := 56) rfl ?_); refine goesL_ (some 150) rfl rfl Try.func56 (by kernel_rfl) rfl #[.slice A1 l1.length c1] rfl (by (try simp only [List.map_toArray, List.map_cons, List.map_nil]); first | done | rfl | (simp only [List.length_drop, List.length_take]; rfl)) ?_; (with_reducible refine (spec_DrawRevolvingAt.calls kj16 _ _ l1 t385 t386 t387 _ ?side1 ?side2 A58.out).mono ?_); (case side1 => repeat (first | exact (Kd.C_below HR1.out HB.out) | (with_reducible refine Kd.C_alloc ?_ _) | (with_reducible refine Kd.C_drewN ?_ _) | (with_reducible refine Kd.C_drew ?_))); (case side2 => exact HC1.out); rintro e w62 ⟨rfl, hb⟩; refine ⟨_, rfl, ?_⟩; have n0_ := Aside0.mk (below_step (by repeat (first | (with_reducible first | exact HB.out | apply below_alloc | apply pw_below_drewN | apply below_drew1) | exact HB.out)) hb); clear HB; have HB := n0_; clear n0_; (try clear hb); (try clear hb2); (try clear hk); (try clear hi)) | ((with_reducible refine gate_callee (f := 57) rfl ?_); refine goesL_ (some 158) rfl rfl Try.func57 (by kernel_rfl) rfl #[.int .i64 t385, .int .i64 t386, .int .i64 t387] rfl (by (try simp only [List.map_toArray, List.map_cons, List.map_nil]); first | done | rfl | (simp only [List.length_drop, List.length_take]; rfl)) ?_; (with_reducible refine (impl_RevolvingAt.calls kj16 t385 t386 t387 t388 t389 _ A59.out).mono ?_); rintro e w63 ⟨v390, rfl, ho0, hb⟩; refine ⟨_, rfl, ?_⟩; have n0_ := Aside0.mk (Kd.R_lower ho0 (below_size (by repeat (first | (with_reducible first | exact HB.out | apply below_alloc | apply pw_below_drewN | apply below_drew1) | exact HB.out)))); have n1_ := Aside0.mk (below_step (by repeat (first | (with_reducible first | exact HB.out | apply below_alloc | apply pw_below_drewN | apply below_drew1) | exact HB.out)) hb); clear HB; have HO391 := n0_; have HB := n1_; clear n0_ n1_; (try clear hb); (try clear hb2); (try clear hk); (try clear hi); (try clear ho0)) | ((with_reducible refine gate_callee (f := 58) rfl ?_); refine goesL_ (some 165) rfl rfl Try.func58 (by kernel_rfl) rfl #[.int .i64 t385, .int .i64 t386, .int .i64 t387] rfl (by (try simp only [List.map_toArray, List.map_cons, List.map_nil]); first | done | rfl | (simp only [List.length_drop, List.length_take]; rfl)) ?_; (with_reducible refine (spec_RevolvingAt.calls kj16 t385 t386 t387 t392 t393 _ A60.out).mono ?_); rintro e w64 ⟨v394, rfl, ho0, hb⟩; refine ⟨_, rfl, ?_⟩; have n0_ := Aside0.mk (Kd.R_elder' (by (with_reducible repeat (first | apply Kd.R_alloc | apply Kd.R_drewN | apply Kd.R_drew)); exact HO391.out) (Kd.R_base ho0) hb); have n1_ := Aside0.mk (Kd.R_lower (Kd.R_new' ho0 (Kd.R_lt (by (with_reducible repeat (first | apply Kd.R_alloc | apply Kd.R_drewN | apply Kd.R_drew)); exact HO391.out))) (below_size (by repeat (first | (with_reducible first | exact HB.out | apply below_alloc | apply pw_below_drewN | apply below_drew1) | exact HB.out)))); have n2_ := Aside0.mk (below_step (by repeat (first | (with_reducible first | exact HB.out | apply below_alloc | apply pw_below_drewN | apply below_drew1) | exact HB.out)) hb); clear HO391; clear HB; have HO391 := n0_; have HO395 := n1_; have HB := n2_; clear n0_ n1_ n2_; (try clear hb); (try clear hb2); (try clear hk); (try clear hi); (try clear ho0)))
              (try simp only [Act.put, List.setIfInBounds_toArray, List.set_cons_zero, List.set_cons_succ])
              go_cut [176] (fun v176 wc => ∃ (kq : Nat) (x176_60 : Bool), v176 = .bool x176_60 ∧ Aside0 (laws_FnRevolvingDoor.j3 kq l1 x176_60 = some r) ∧ Aside0 (kq ≤ kj16) ∧ Aside0 (Below w.heap.size w wc))
              case first =>
                have H := HC61.out
                clear HC61
                by_cases c65 : (t389 != t393) = true
                · rw [if_pos c65] at H
                  have c65b0 : (t389 != t393) = true := c65
                  (try (have c65b1 : decide (t389 = t393) = false := by simpa using c65))
                  (try (have c65b2 : (t389 == t393) = false := by simpa using c65))
                  (try (have c65b3 : ¬ (t389 = t393) := by simpa using c65))
                  clear c65
                  (first | rw [c65b0] | (simp only [i64_w, i32_w]; rw [c65b0]) | skip)
                  have H' := Aside0.mk H
                  clear H
                  go_wp2
                  go_meet
                  case rel => exact ⟨_, (true), (by first | rfl | (simp; done) | (simp [*]; done)), H', ⟨by have := HJ7.out; have := HJ16.out; first | omega | exact Nat.le_refl _⟩, ⟨by repeat (first | (with_reducible first | exact HB.out | apply below_alloc | apply pw_below_drewN | apply below_drew1) | exact HB.out)⟩⟩
                · rw [if_neg c65] at H
                  have c65b0 : (t389 != t393) = false := by simpa using c65
                  (try (have c65b1 : decide (t389 = t393) = true := by simpa using c65))
                  (try (have c65b2 : (t389 == t393) = true := by simpa using c65))
                  clear c65
                  (first | rw [c65b0] | (simp only [i64_w, i32_w]; rw [c65b0]) | skip)
                  replace H := Option.bind_eq_some_iff.mp H
                  obtain ⟨t396, A660, H⟩ := H
                  replace H : (laws_FnRevolvingDoor.j3 kj16 l1 (!t396)) = some r := H
                  have A66 := Aside0.mk A660
                  clear A660
                  have H' := Aside0.mk H
                  clear H
                  obtain ⟨Ao67, co67, eo67⟩ := Kd.R_slice HO391.out
                  subst eo67
                  obtain ⟨Ao68, co68, eo68⟩ := Kd.R_slice HO395.out
                  subst eo68
                  go_wp2_with (first | (go_at_call 41; (with_reducible refine (laws_uSame.calls kj16 _ _ t388 _ _ t392 t396 _ ?side1 ?side2 ?side3 ?side4 A66.out).mono ?_); (case side1 => repeat (first | exact (Kd.R_reads' HO391.out).2.2 | (with_reducible refine Kd.C_alloc ?_ _) | (with_reducible refine Kd.C_drewN ?_ _) | (with_reducible refine Kd.C_drew ?_))); (case side2 => exact (Kd.R_reads' HO391.out).2.1); (case side3 => repeat (first | exact (Kd.R_reads' HO395.out).2.2 | (with_reducible refine Kd.C_alloc ?_ _) | (with_reducible refine Kd.C_drewN ?_ _) | (with_reducible refine Kd.C_drew ?_))); (case side4 => exact (Kd.R_reads' HO395.out).2.1); rintro e w' ⟨rfl, ⟨nd, rfl⟩⟩))
                  go_meet
                  case rel => exact ⟨_, (!t396), (by first | rfl | (simp; done) | (simp [*]; done)), H', ⟨by have := HJ7.out; have := HJ16.out; first | omega | exact Nat.le_refl _⟩, ⟨by repeat (first | (with_reducible first | exact HB.out | apply below_alloc | apply pw_below_drewN | apply below_drew1) | exact HB.out)⟩⟩
              case rest => as_aux_lemma =>
                clear HC61
                try clear c1
                try clear c2
                try clear p2
                try clear c3
                try clear p3
                try clear q3
                try clear hx3
                try clear c4
                try clear c5
                try clear c6
                try clear p6
                try clear c11
                try clear c12
                try clear c12b0
                try clear c12b1
                try clear c12b2
                try clear c16
                try clear c18
                try clear c24
                try clear c25
                try clear c26
                try clear c27
                try clear c29
                try clear c29b0
                try clear c29b1
                try clear c29b2
                try clear c31
                try clear c31b0
                try clear c32
                try clear c32b0
                try clear c35
                try clear c36
                try clear c36b0
                try clear c36b1
                try clear c37
                try clear c37b0
                try clear c37b1
                try clear c37b2
                try clear p37
                try clear q37
                try clear hx37
                try clear c38
                try clear p38
                try clear q38
                try clear hx38
                try clear c40
                try clear c42
                try clear c42b0
                try clear c43
                try clear c43b0
                try clear c45
                try clear c51
                try clear c52
                try clear c53
                try clear c54
                try clear c55
                try clear c56
                try clear c57
                try clear c58
                try clear p64
                try clear c65
                try clear c65b0
                try clear c65b1
                try clear c65b2
                try clear hx375_0
                try clear hx378_0
                try clear hx383_0
                try clear p2
                try clear p3
                try clear p37
                try clear p375
                try clear p378
                try clear p38
                try clear p383
                try clear p6
                try clear q3
                try clear q37
                try clear q375
                try clear q378
                try clear q38
                try clear q383
                obtain ⟨kq, x176_60, rfl, HA, HJ60, HB⟩ := hcut
                cases kq with
                | zero => exact absurd HA.out (by simp [laws_FnRevolvingDoor.j3])
                | succ kj60 =>
                  have H := HA.out
                  clear HA
                  simp only [laws_FnRevolvingDoor.j3] at H
                  by_cases c69 : x176_60 = true
                  · subst c69
                    have H1 : (some false) = some r := by rw [if_pos rfl] at H; exact H
                    clear H
                    have H := H1
                    clear H1
                    obtain rfl := Option.some.inj H
                    go_wp2
                    go_ret
                    exact ⟨by first | rfl | (simp [errW_none, errW_some] <;> rfl) | (simp [*, errW_none, errW_some] <;> rfl), by repeat (first | (with_reducible first | exact HB.out | apply below_alloc | apply pw_below_drewN | apply below_drew1) | exact HB.out)⟩
                  · replace c69 := Bool.eq_false_iff.mpr c69
                    subst c69
                    have H1 : ((spec_DrawNextRevolving.f kj60 l1).bind fun bt397 => ((impl_NextRevolving.f kj60 bt397.1 bt397.2).bind fun bt401 => ((spec_NextRevolving.f kj60 bt397.1 bt397.2).bind fun bt405 => ((impl_RevolvingRank.f kj60 bt397.1 bt397.2).bind fun bt409 => ((spec_RevolvingRank.f kj60 bt397.1 bt397.2).bind fun bt411 => (if (bt401.2 == bt405.2) = true then ((laws_uSame.f kj60 bt401.1 bt405.1).bind fun t413 => (if t413 = true then (if (bt409.2 == bt411.2) = true then (some (bt409.1 == bt411.1)) else (some false)) else (some false))) else (some false))))))) = some r := by rw [if_neg (show ¬ (false = true) by decide)] at H; exact H
                    clear H
                    have H := H1
                    clear H1
                    replace H := Option.bind_eq_some_iff.mp H
                    obtain ⟨⟨t397, t398⟩, A700, H⟩ := H
                    replace H : ((impl_NextRevolving.f kj60 t397 t398).bind fun bt401 => ((spec_NextRevolving.f kj60 t397 t398).bind fun bt405 => ((impl_RevolvingRank.f kj60 t397 t398).bind fun bt409 => ((spec_RevolvingRank.f kj60 t397 t398).bind fun bt411 => (if (bt401.2 == bt405.2) = true then ((laws_uSame.f kj60 bt401.1 bt405.1).bind fun t413 => (if t413 = true then (if (bt409.2 == bt411.2) = true then (some (bt409.1 == bt411.1)) else (some false)) else (some false))) else (some false)))))) = some r := H
                    have A70 := Aside0.mk A700
                    clear A700
                    replace H := Option.bind_eq_some_iff.mp H
                    obtain ⟨⟨t401, t402⟩, A710, H⟩ := H
                    replace H : ((spec_NextRevolving.f kj60 t397 t398).bind fun bt405 => ((impl_RevolvingRank.f kj60 t397 t398).bind fun bt409 => ((spec_RevolvingRank.f kj60 t397 t398).bind fun bt411 => (if (t402 == bt405.2) = true then ((laws_uSame.f kj60 t401 bt405.1).bind fun t413 => (if t413 = true then (if (bt409.2 == bt411.2) = true then (some (bt409.1 == bt411.1)) else (some false)) else (some false))) else (some false))))) = some r := H
                    have A71 := Aside0.mk A710
                    clear A710
                    replace H := Option.bind_eq_some_iff.mp H
                    obtain ⟨⟨t405, t406⟩, A720, H⟩ := H
                    replace H : ((impl_RevolvingRank.f kj60 t397 t398).bind fun bt409 => ((spec_RevolvingRank.f kj60 t397 t398).bind fun bt411 => (if (t402 == t406) = true then ((laws_uSame.f kj60 t401 t405).bind fun t413 => (if t413 = true then (if (bt409.2 == bt411.2) = true then (some (bt409.1 == bt411.1)) else (some false)) else (some false))) else (some false)))) = some r := H
                    have A72 := Aside0.mk A720
                    clear A720
                    replace H := Option.bind_eq_some_iff.mp H
                    obtain ⟨⟨t409, t410⟩, A730, H⟩ := H
                    replace H : ((spec_RevolvingRank.f kj60 t397 t398).bind fun bt411 => (if (t402 == t406) = true then ((laws_uSame.f kj60 t401 t405).bind fun t413 => (if t413 = true then (if (t410 == bt411.2) = true then (some (t409 == bt411.1)) else (some false)) else (some false))) else (some false))) = some r := H
                    have A73 := Aside0.mk A730
                    clear A730
                    replace H := Option.bind_eq_some_iff.mp H
                    obtain ⟨⟨t411, t412⟩, A740, H⟩ := H
                    replace H : (if (t402 == t406) = true then ((laws_uSame.f kj60 t401 t405).bind fun t413 => (if t413 = true then (if (t410 == t412) = true then (some (t409 == t411)) else (some false)) else (some false))) else (some false)) = some r := H
                    have A74 := Aside0.mk A740
                    clear A740
                    by_cases c75 : (t402 == t406) = true
                    · rw [if_pos c75] at H
                      have c75b0 : (t402 == t406) = true := c75
                      (try (have c75b1 : decide (t402 = t406) = true := by simpa using c75))
                      (try (have c75b2 : (t402 == t406) = true := by simpa using c75))
                      clear c75
                      replace H := Option.bind_eq_some_iff.mp H
                      obtain ⟨t413, A760, H⟩ := H
                      replace H : (if t413 = true then (if (t410 == t412) = true then (some (t409 == t411)) else (some false)) else (some false)) = some r := H
                      have A76 := Aside0.mk A760
                      clear A760
                      by_cases c77 : t413 = true
                      · subst c77
                        have H1 : (if (t410 == t412) = true then (some (t409 == t411)) else (some false)) = some r := by rw [if_pos rfl] at H; exact H
                        clear H
                        have H := H1
                        clear H1
                        by_cases c78 : (t410 == t412) = true
                        · rw [if_pos c78] at H
                          have c78b0 : (t410 == t412) = true := c78
                          (try (have c78b1 : decide (t410 = t412) = true := by simpa using c78))
                          (try (have c78b2 : (t410 == t412) = true := by simpa using c78))
                          clear c78
                          obtain rfl := Option.some.inj H
                          go_wp2_with (first | ((with_reducible refine gate_callee (f := 59) rfl ?_); refine goesL_ (some 179) rfl rfl Try.func59 (by kernel_rfl) rfl #[.slice A1 l1.length c1] rfl (by (try simp only [List.map_toArray, List.map_cons, List.map_nil]); first | done | rfl | (simp only [List.length_drop, List.length_take]; rfl)) ?_; (with_reducible refine (spec_DrawNextRevolving.calls kj60 _ _ l1 t397 t398 _ ?side1 ?side2 A70.out).mono ?_); (case side1 => repeat (first | exact (Kd.C_below HR1.out HB.out) | (with_reducible refine Kd.C_alloc ?_ _) | (with_reducible refine Kd.C_drewN ?_ _) | (with_reducible refine Kd.C_drew ?_))); (case side2 => exact HC1.out); rintro e w79 ⟨v399, rfl, ho0, hb⟩; refine ⟨_, rfl, ?_⟩; have n0_ := Aside0.mk (Kd.R_lower ho0 (below_size (by repeat (first | (with_reducible first | exact HB.out | apply below_alloc | apply pw_below_drewN | apply below_drew1) | exact HB.out)))); have n1_ := Aside0.mk (below_step (by repeat (first | (with_reducible first | exact HB.out | apply below_alloc | apply pw_below_drewN | apply below_drew1) | exact HB.out)) hb); clear HB; have HO400 := n0_; have HB := n1_; clear n0_ n1_; (try clear hb); (try clear hb2); (try clear hk); (try clear hi); (try clear ho0); obtain ⟨Ao80, co80, eo80⟩ := Kd.R_slice HO400.out; subst eo80) | ((with_reducible refine gate_callee (f := 55) rfl ?_); refine goesL_ (some 185) rfl rfl Try.func55 (by kernel_rfl) rfl #[.int .i64 t397, .slice Ao80 t398.length co80] rfl (by (try simp only [List.map_toArray, List.map_cons, List.map_nil]); first | done | rfl | (simp only [List.length_drop, List.length_take]; rfl)) ?_; (with_reducible refine (impl_NextRevolving.calls kj60 t397 _ _ t398 t401 t402 _ ?side1 ?side2 A71.out).mono ?_); (case side1 => repeat (first | exact (Kd.R_reads' HO400.out).2.2 | (with_reducible refine Kd.C_alloc ?_ _) | (with_reducible refine Kd.C_drewN ?_ _) | (with_reducible refine Kd.C_drew ?_))); (case side2 => exact (Kd.R_reads' HO400.out).2.1); rintro e w81 ⟨v403, rfl, ho0, hb⟩; refine ⟨_, rfl, ?_⟩; have n0_ := Aside0.mk (Kd.R_elder' (by (with_reducible repeat (first | apply Kd.R_alloc | apply Kd.R_drewN | apply Kd.R_drew)); exact HO400.out) (Kd.R_base ho0) hb); have n1_ := Aside0.mk (Kd.R_lower (Kd.R_new' ho0 (Kd.R_lt (by (with_reducible repeat (first | apply Kd.R_alloc | apply Kd.R_drewN | apply Kd.R_drew)); exact HO400.out))) (below_size (by repeat (first | (with_reducible first | exact HB.out | apply below_alloc | apply pw_below_drewN | apply below_drew1) | exact HB.out)))); have n2_ := Aside0.mk (below_step (by repeat (first | (with_reducible first | exact HB.out | apply below_alloc | apply pw_below_drewN | apply below_drew1) | exact HB.out)) hb); clear HO400; clear HB; have HO400 := n0_; have HO404 := n1_; have HB := n2_; clear n0_ n1_ n2_; (try clear hb); (try clear hb2); (try clear hk); (try clear hi); (try clear ho0)) | ((with_reducible refine gate_callee (f := 60) rfl ?_); refine goesL_ (some 191) rfl rfl Try.func60 (by kernel_rfl) rfl #[.int .i64 t397, .slice Ao80 t398.length co80] rfl (by (try simp only [List.map_toArray, List.map_cons, List.map_nil]); first | done | rfl | (simp only [List.length_drop, List.length_take]; rfl)) ?_; (with_reducible refine (spec_NextRevolving.calls kj60 t397 _ _ t398 t405 t406 _ ?side1 ?side2 A72.out).mono ?_); (case side1 => repeat (first | exact (Kd.R_reads' HO400.out).2.2 | (with_reducible refine Kd.C_alloc ?_ _) | (with_reducible refine Kd.C_drewN ?_ _) | (with_reducible refine Kd.C_drew ?_))); (case side2 => exact (Kd.R_reads' HO400.out).2.1); rintro e w82 ⟨v407, rfl, ho0, hb⟩; refine ⟨_, rfl, ?_⟩; have n0_ := Aside0.mk (Kd.R_elder' (by (with_reducible repeat (first | apply Kd.R_alloc | apply Kd.R_drewN | apply Kd.R_drew)); exact HO400.out) (Kd.R_base ho0) hb); have n1_ := Aside0.mk (Kd.R_elder' (by (with_reducible repeat (first | apply Kd.R_alloc | apply Kd.R_drewN | apply Kd.R_drew)); exact HO404.out) (Kd.R_base ho0) hb); have n2_ := Aside0.mk (Kd.R_lower (Kd.R_new' (Kd.R_new' ho0 (Kd.R_lt (by (with_reducible repeat (first | apply Kd.R_alloc | apply Kd.R_drewN | apply Kd.R_drew)); exact HO400.out))) (Kd.R_lt (by (with_reducible repeat (first | apply Kd.R_alloc | apply Kd.R_drewN | apply Kd.R_drew)); exact HO404.out))) (below_size (by repeat (first | (with_reducible first | exact HB.out | apply below_alloc | apply pw_below_drewN | apply below_drew1) | exact HB.out)))); have n3_ := Aside0.mk (below_step (by repeat (first | (with_reducible first | exact HB.out | apply below_alloc | apply pw_below_drewN | apply below_drew1) | exact HB.out)) hb); clear HO400; clear HO404; clear HB; have HO400 := n0_; have HO404 := n1_; have HO408 := n2_; have HB := n3_; clear n0_ n1_ n2_ n3_; (try clear hb); (try clear hb2); (try clear hk); (try clear hi); (try clear ho0)) | ((with_reducible refine gate_callee (f := 54) rfl ?_); refine goesL_ (some 197) rfl rfl Try.func54 (by kernel_rfl) rfl #[.int .i64 t397, .slice Ao80 t398.length co80] rfl (by (try simp only [List.map_toArray, List.map_cons, List.map_nil]); first | done | rfl | (simp only [List.length_drop, List.length_take]; rfl)) ?_; (with_reducible refine (impl_RevolvingRank.calls kj60 t397 _ _ t398 t409 t410 _ ?side1 ?side2 A73.out).mono ?_); (case side1 => repeat (first | exact (Kd.R_reads' HO400.out).2.2 | (with_reducible refine Kd.C_alloc ?_ _) | (with_reducible refine Kd.C_drewN ?_ _) | (with_reducible refine Kd.C_drew ?_))); (case side2 => exact (Kd.R_reads' HO400.out).2.1); rintro e w83 ⟨rfl, hb⟩; refine ⟨_, rfl, ?_⟩; have n0_ := Aside0.mk (Kd.R_below (by (with_reducible repeat (first | apply Kd.R_alloc | apply Kd.R_drewN | apply Kd.R_drew)); exact HO400.out) hb); have n1_ := Aside0.mk (Kd.R_below (by (with_reducible repeat (first | apply Kd.R_alloc | apply Kd.R_drewN | apply Kd.R_drew)); exact HO404.out) hb); have n2_ := Aside0.mk (Kd.R_below (by (with_reducible repeat (first | apply Kd.R_alloc | apply Kd.R_drewN | apply Kd.R_drew)); exact HO408.out) hb); have n3_ := Aside0.mk (below_step (by repeat (first | (with_reducible first | exact HB.out | apply below_alloc | apply pw_below_drewN | apply below_drew1) | exact HB.out)) hb); clear HO400; clear HO404; clear HO408; clear HB; have HO400 := n0_; have HO404 := n1_; have HO408 := n2_; have HB := n3_; clear n0_ n1_ n2_ n3_; (try clear hb); (try clear hb2); (try clear hk); (try clear hi)) | ((with_reducible refine gate_callee (f := 61) rfl ?_); refine goesL_ (some 203) rfl rfl Try.func61 (by kernel_rfl) rfl #[.int .i64 t397, .slice Ao80 t398.length co80] rfl (by (try simp only [List.map_toArray, List.map_cons, List.map_nil]); first | done | rfl | (simp only [List.length_drop, List.length_take]; rfl)) ?_; (with_reducible refine (spec_RevolvingRank.calls kj60 t397 _ _ t398 t411 t412 _ ?side1 ?side2 A74.out).mono ?_); (case side1 => repeat (first | exact (Kd.R_reads' HO400.out).2.2 | (with_reducible refine Kd.C_alloc ?_ _) | (with_reducible refine Kd.C_drewN ?_ _) | (with_reducible refine Kd.C_drew ?_))); (case side2 => exact (Kd.R_reads' HO400.out).2.1); rintro e w84 ⟨rfl, hb⟩; refine ⟨_, rfl, ?_⟩; have n0_ := Aside0.mk (Kd.R_below (by (with_reducible repeat (first | apply Kd.R_alloc | apply Kd.R_drewN | apply Kd.R_drew)); exact HO400.out) hb); have n1_ := Aside0.mk (Kd.R_below (by (with_reducible repeat (first | apply Kd.R_alloc | apply Kd.R_drewN | apply Kd.R_drew)); exact HO404.out) hb); have n2_ := Aside0.mk (Kd.R_below (by (with_reducible repeat (first | apply Kd.R_alloc | apply Kd.R_drewN | apply Kd.R_drew)); exact HO408.out) hb); have n3_ := Aside0.mk (below_step (by repeat (first | (with_reducible first | exact HB.out | apply below_alloc | apply pw_below_drewN | apply below_drew1) | exact HB.out)) hb); clear HO400; clear HO404; clear HO408; clear HB; have HO400 := n0_; have HO404 := n1_; have HO408 := n2_; have HB := n3_; clear n0_ n1_ n2_ n3_; (try clear hb); (try clear hb2); (try clear hk); (try clear hi); obtain ⟨Ao85, co85, eo85⟩ := Kd.R_slice HO404.out; subst eo85; obtain ⟨Ao86, co86, eo86⟩ := Kd.R_slice HO408.out; subst eo86) | (go_at_call 41; (with_reducible refine (laws_uSame.calls kj60 _ _ t401 _ _ t405 true _ ?side1 ?side2 ?side3 ?side4 A76.out).mono ?_); (case side1 => repeat (first | exact (Kd.R_reads' HO404.out).2.2 | (with_reducible refine Kd.C_alloc ?_ _) | (with_reducible refine Kd.C_drewN ?_ _) | (with_reducible refine Kd.C_drew ?_))); (case side2 => exact (Kd.R_reads' HO404.out).2.1); (case side3 => repeat (first | exact (Kd.R_reads' HO408.out).2.2 | (with_reducible refine Kd.C_alloc ?_ _) | (with_reducible refine Kd.C_drewN ?_ _) | (with_reducible refine Kd.C_drew ?_))); (case side4 => exact (Kd.R_reads' HO408.out).2.1); rintro e w' ⟨rfl, ⟨nd, rfl⟩⟩))
                          go_ret
                          exact ⟨by first | rfl | (simp [errW_none, errW_some] <;> rfl) | (simp [*, errW_none, errW_some] <;> rfl), by repeat (first | (with_reducible first | exact HB.out | apply below_alloc | apply pw_below_drewN | apply below_drew1) | exact HB.out)⟩
                        · rw [if_neg c78] at H
                          have c78b0 : (t410 == t412) = false := by simpa using c78
                          (try (have c78b1 : decide (t410 = t412) = false := by simpa using c78))
                          (try (have c78b2 : (t410 == t412) = false := by simpa using c78))
                          (try (have c78b3 : ¬ (t410 = t412) := by simpa using c78))
                          clear c78
                          obtain rfl := Option.some.inj H
                          go_wp2_with (first | ((with_reducible refine gate_callee (f := 59) rfl ?_); refine goesL_ (some 179) rfl rfl Try.func59 (by kernel_rfl) rfl #[.slice A1 l1.length c1] rfl (by (try simp only [List.map_toArray, List.map_cons, List.map_nil]); first | done | rfl | (simp only [List.length_drop, List.length_take]; rfl)) ?_; (with_reducible refine (spec_DrawNextRevolving.calls kj60 _ _ l1 t397 t398 _ ?side1 ?side2 A70.out).mono ?_); (case side1 => repeat (first | exact (Kd.C_below HR1.out HB.out) | (with_reducible refine Kd.C_alloc ?_ _) | (with_reducible refine Kd.C_drewN ?_ _) | (with_reducible refine Kd.C_drew ?_))); (case side2 => exact HC1.out); rintro e w87 ⟨v399, rfl, ho0, hb⟩; refine ⟨_, rfl, ?_⟩; have n0_ := Aside0.mk (Kd.R_lower ho0 (below_size (by repeat (first | (with_reducible first | exact HB.out | apply below_alloc | apply pw_below_drewN | apply below_drew1) | exact HB.out)))); have n1_ := Aside0.mk (below_step (by repeat (first | (with_reducible first | exact HB.out | apply below_alloc | apply pw_below_drewN | apply below_drew1) | exact HB.out)) hb); clear HB; have HO400 := n0_; have HB := n1_; clear n0_ n1_; (try clear hb); (try clear hb2); (try clear hk); (try clear hi); (try clear ho0); obtain ⟨Ao88, co88, eo88⟩ := Kd.R_slice HO400.out; subst eo88) | ((with_reducible refine gate_callee (f := 55) rfl ?_); refine goesL_ (some 185) rfl rfl Try.func55 (by kernel_rfl) rfl #[.int .i64 t397, .slice Ao88 t398.length co88] rfl (by (try simp only [List.map_toArray, List.map_cons, List.map_nil]); first | done | rfl | (simp only [List.length_drop, List.length_take]; rfl)) ?_; (with_reducible refine (impl_NextRevolving.calls kj60 t397 _ _ t398 t401 t402 _ ?side1 ?side2 A71.out).mono ?_); (case side1 => repeat (first | exact (Kd.R_reads' HO400.out).2.2 | (with_reducible refine Kd.C_alloc ?_ _) | (with_reducible refine Kd.C_drewN ?_ _) | (with_reducible refine Kd.C_drew ?_))); (case side2 => exact (Kd.R_reads' HO400.out).2.1); rintro e w89 ⟨v403, rfl, ho0, hb⟩; refine ⟨_, rfl, ?_⟩; have n0_ := Aside0.mk (Kd.R_elder' (by (with_reducible repeat (first | apply Kd.R_alloc | apply Kd.R_drewN | apply Kd.R_drew)); exact HO400.out) (Kd.R_base ho0) hb); have n1_ := Aside0.mk (Kd.R_lower (Kd.R_new' ho0 (Kd.R_lt (by (with_reducible repeat (first | apply Kd.R_alloc | apply Kd.R_drewN | apply Kd.R_drew)); exact HO400.out))) (below_size (by repeat (first | (with_reducible first | exact HB.out | apply below_alloc | apply pw_below_drewN | apply below_drew1) | exact HB.out)))); have n2_ := Aside0.mk (below_step (by repeat (first | (with_reducible first | exact HB.out | apply below_alloc | apply pw_below_drewN | apply below_drew1) | exact HB.out)) hb); clear HO400; clear HB; have HO400 := n0_; have HO404 := n1_; have HB := n2_; clear n0_ n1_ n2_; (try clear hb); (try clear hb2); (try clear hk); (try clear hi); (try clear ho0)) | ((with_reducible refine gate_callee (f := 60) rfl ?_); refine goesL_ (some 191) rfl rfl Try.func60 (by kernel_rfl) rfl #[.int .i64 t397, .slice Ao88 t398.length co88] rfl (by (try simp only [List.map_toArray, List.map_cons, List.map_nil]); first | done | rfl | (simp only [List.length_drop, List.length_take]; rfl)) ?_; (with_reducible refine (spec_NextRevolving.calls kj60 t397 _ _ t398 t405 t406 _ ?side1 ?side2 A72.out).mono ?_); (case side1 => repeat (first | exact (Kd.R_reads' HO400.out).2.2 | (with_reducible refine Kd.C_alloc ?_ _) | (with_reducible refine Kd.C_drewN ?_ _) | (with_reducible refine Kd.C_drew ?_))); (case side2 => exact (Kd.R_reads' HO400.out).2.1); rintro e w90 ⟨v407, rfl, ho0, hb⟩; refine ⟨_, rfl, ?_⟩; have n0_ := Aside0.mk (Kd.R_elder' (by (with_reducible repeat (first | apply Kd.R_alloc | apply Kd.R_drewN | apply Kd.R_drew)); exact HO400.out) (Kd.R_base ho0) hb); have n1_ := Aside0.mk (Kd.R_elder' (by (with_reducible repeat (first | apply Kd.R_alloc | apply Kd.R_drewN | apply Kd.R_drew)); exact HO404.out) (Kd.R_base ho0) hb); have n2_ := Aside0.mk (Kd.R_lower (Kd.R_new' (Kd.R_new' ho0 (Kd.R_lt (by (with_reducible repeat (first | apply Kd.R_alloc | apply Kd.R_drewN | apply Kd.R_drew)); exact HO400.out))) (Kd.R_lt (by (with_reducible repeat (first | apply Kd.R_alloc | apply Kd.R_drewN | apply Kd.R_drew)); exact HO404.out))) (below_size (by repeat (first | (with_reducible first | exact HB.out | apply below_alloc | apply pw_below_drewN | apply below_drew1) | exact HB.out)))); have n3_ := Aside0.mk (below_step (by repeat (first | (with_reducible first | exact HB.out | apply below_alloc | apply pw_below_drewN | apply below_drew1) | exact HB.out)) hb); clear HO400; clear HO404; clear HB; have HO400 := n0_; have HO404 := n1_; have HO408 := n2_; have HB := n3_; clear n0_ n1_ n2_ n3_; (try clear hb); (try clear hb2); (try clear hk); (try clear hi); (try clear ho0)) | ((with_reducible refine gate_callee (f := 54) rfl ?_); refine goesL_ (some 197) rfl rfl Try.func54 (by kernel_rfl) rfl #[.int .i64 t397, .slice Ao88 t398.length co88] rfl (by (try simp only [List.map_toArray, List.map_cons, List.map_nil]); first | done | rfl | (simp only [List.length_drop, List.length_take]; rfl)) ?_; (with_reducible refine (impl_RevolvingRank.calls kj60 t397 _ _ t398 t409 t410 _ ?side1 ?side2 A73.out).mono ?_); (case side1 => repeat (first | exact (Kd.R_reads' HO400.out).2.2 | (with_reducible refine Kd.C_alloc ?_ _) | (with_reducible refine Kd.C_drewN ?_ _) | (with_reducible refine Kd.C_drew ?_))); (case side2 => exact (Kd.R_reads' HO400.out).2.1); rintro e w91 ⟨rfl, hb⟩; refine ⟨_, rfl, ?_⟩; have n0_ := Aside0.mk (Kd.R_below (by (with_reducible repeat (first | apply Kd.R_alloc | apply Kd.R_drewN | apply Kd.R_drew)); exact HO400.out) hb); have n1_ := Aside0.mk (Kd.R_below (by (with_reducible repeat (first | apply Kd.R_alloc | apply Kd.R_drewN | apply Kd.R_drew)); exact HO404.out) hb); have n2_ := Aside0.mk (Kd.R_below (by (with_reducible repeat (first | apply Kd.R_alloc | apply Kd.R_drewN | apply Kd.R_drew)); exact HO408.out) hb); have n3_ := Aside0.mk (below_step (by repeat (first | (with_reducible first | exact HB.out | apply below_alloc | apply pw_below_drewN | apply below_drew1) | exact HB.out)) hb); clear HO400; clear HO404; clear HO408; clear HB; have HO400 := n0_; have HO404 := n1_; have HO408 := n2_; have HB := n3_; clear n0_ n1_ n2_ n3_; (try clear hb); (try clear hb2); (try clear hk); (try clear hi)) | ((with_reducible refine gate_callee (f := 61) rfl ?_); refine goesL_ (some 203) rfl rfl Try.func61 (by kernel_rfl) rfl #[.int .i64 t397, .slice Ao88 t398.length co88] rfl (by (try simp only [List.map_toArray, List.map_cons, List.map_nil]); first | done | rfl | (simp only [List.length_drop, List.length_take]; rfl)) ?_; (with_reducible refine (spec_RevolvingRank.calls kj60 t397 _ _ t398 t411 t412 _ ?side1 ?side2 A74.out).mono ?_); (case side1 => repeat (first | exact (Kd.R_reads' HO400.out).2.2 | (with_reducible refine Kd.C_alloc ?_ _) | (with_reducible refine Kd.C_drewN ?_ _) | (with_reducible refine Kd.C_drew ?_))); (case side2 => exact (Kd.R_reads' HO400.out).2.1); rintro e w92 ⟨rfl, hb⟩; refine ⟨_, rfl, ?_⟩; have n0_ := Aside0.mk (Kd.R_below (by (with_reducible repeat (first | apply Kd.R_alloc | apply Kd.R_drewN | apply Kd.R_drew)); exact HO400.out) hb); have n1_ := Aside0.mk (Kd.R_below (by (with_reducible repeat (first | apply Kd.R_alloc | apply Kd.R_drewN | apply Kd.R_drew)); exact HO404.out) hb); have n2_ := Aside0.mk (Kd.R_below (by (with_reducible repeat (first | apply Kd.R_alloc | apply Kd.R_drewN | apply Kd.R_drew)); exact HO408.out) hb); have n3_ := Aside0.mk (below_step (by repeat (first | (with_reducible first | exact HB.out | apply below_alloc | apply pw_below_drewN | apply below_drew1) | exact HB.out)) hb); clear HO400; clear HO404; clear HO408; clear HB; have HO400 := n0_; have HO404 := n1_; have HO408 := n2_; have HB := n3_; clear n0_ n1_ n2_ n3_; (try clear hb); (try clear hb2); (try clear hk); (try clear hi); obtain ⟨Ao93, co93, eo93⟩ := Kd.R_slice HO404.out; subst eo93; obtain ⟨Ao94, co94, eo94⟩ := Kd.R_slice HO408.out; subst eo94) | (go_at_call 41; (with_reducible refine (laws_uSame.calls kj60 _ _ t401 _ _ t405 true _ ?side1 ?side2 ?side3 ?side4 A76.out).mono ?_); (case side1 => repeat (first | exact (Kd.R_reads' HO404.out).2.2 | (with_reducible refine Kd.C_alloc ?_ _) | (with_reducible refine Kd.C_drewN ?_ _) | (with_reducible refine Kd.C_drew ?_))); (case side2 => exact (Kd.R_reads' HO404.out).2.1); (case side3 => repeat (first | exact (Kd.R_reads' HO408.out).2.2 | (with_reducible refine Kd.C_alloc ?_ _) | (with_reducible refine Kd.C_drewN ?_ _) | (with_reducible refine Kd.C_drew ?_))); (case side4 => exact (Kd.R_reads' HO408.out).2.1); rintro e w' ⟨rfl, ⟨nd, rfl⟩⟩))
                          go_ret
                          exact ⟨by first | rfl | (simp [errW_none, errW_some] <;> rfl) | (simp [*, errW_none, errW_some] <;> rfl), by repeat (first | (with_reducible first | exact HB.out | apply below_alloc | apply pw_below_drewN | apply below_drew1) | exact HB.out)⟩
                      · replace c77 := Bool.eq_false_iff.mpr c77
                        subst c77
                        have H1 : (some false) = some r := by rw [if_neg (show ¬ (false = true) by decide)] at H; exact H
                        clear H
                        have H := H1
                        clear H1
                        obtain rfl := Option.some.inj H
                        go_wp2_with (first | ((with_reducible refine gate_callee (f := 59) rfl ?_); refine goesL_ (some 179) rfl rfl Try.func59 (by kernel_rfl) rfl #[.slice A1 l1.length c1] rfl (by (try simp only [List.map_toArray, List.map_cons, List.map_nil]); first | done | rfl | (simp only [List.length_drop, List.length_take]; rfl)) ?_; (with_reducible refine (spec_DrawNextRevolving.calls kj60 _ _ l1 t397 t398 _ ?side1 ?side2 A70.out).mono ?_); (case side1 => repeat (first | exact (Kd.C_below HR1.out HB.out) | (with_reducible refine Kd.C_alloc ?_ _) | (with_reducible refine Kd.C_drewN ?_ _) | (with_reducible refine Kd.C_drew ?_))); (case side2 => exact HC1.out); rintro e w95 ⟨v399, rfl, ho0, hb⟩; refine ⟨_, rfl, ?_⟩; have n0_ := Aside0.mk (Kd.R_lower ho0 (below_size (by repeat (first | (with_reducible first | exact HB.out | apply below_alloc | apply pw_below_drewN | apply below_drew1) | exact HB.out)))); have n1_ := Aside0.mk (below_step (by repeat (first | (with_reducible first | exact HB.out | apply below_alloc | apply pw_below_drewN | apply below_drew1) | exact HB.out)) hb); clear HB; have HO400 := n0_; have HB := n1_; clear n0_ n1_; (try clear hb); (try clear hb2); (try clear hk); (try clear hi); (try clear ho0); obtain ⟨Ao96, co96, eo96⟩ := Kd.R_slice HO400.out; subst eo96) | ((with_reducible refine gate_callee (f := 55) rfl ?_); refine goesL_ (some 185) rfl rfl Try.func55 (by kernel_rfl) rfl #[.int .i64 t397, .slice Ao96 t398.length co96] rfl (by (try simp only [List.map_toArray, List.map_cons, List.map_nil]); first | done | rfl | (simp only [List.length_drop, List.length_take]; rfl)) ?_; (with_reducible refine (impl_NextRevolving.calls kj60 t397 _ _ t398 t401 t402 _ ?side1 ?side2 A71.out).mono ?_); (case side1 => repeat (first | exact (Kd.R_reads' HO400.out).2.2 | (with_reducible refine Kd.C_alloc ?_ _) | (with_reducible refine Kd.C_drewN ?_ _) | (with_reducible refine Kd.C_drew ?_))); (case side2 => exact (Kd.R_reads' HO400.out).2.1); rintro e w97 ⟨v403, rfl, ho0, hb⟩; refine ⟨_, rfl, ?_⟩; have n0_ := Aside0.mk (Kd.R_elder' (by (with_reducible repeat (first | apply Kd.R_alloc | apply Kd.R_drewN | apply Kd.R_drew)); exact HO400.out) (Kd.R_base ho0) hb); have n1_ := Aside0.mk (Kd.R_lower (Kd.R_new' ho0 (Kd.R_lt (by (with_reducible repeat (first | apply Kd.R_alloc | apply Kd.R_drewN | apply Kd.R_drew)); exact HO400.out))) (below_size (by repeat (first | (with_reducible first | exact HB.out | apply below_alloc | apply pw_below_drewN | apply below_drew1) | exact HB.out)))); have n2_ := Aside0.mk (below_step (by repeat (first | (with_reducible first | exact HB.out | apply below_alloc | apply pw_below_drewN | apply below_drew1) | exact HB.out)) hb); clear HO400; clear HB; have HO400 := n0_; have HO404 := n1_; have HB := n2_; clear n0_ n1_ n2_; (try clear hb); (try clear hb2); (try clear hk); (try clear hi); (try clear ho0)) | ((with_reducible refine gate_callee (f := 60) rfl ?_); refine goesL_ (some 191) rfl rfl Try.func60 (by kernel_rfl) rfl #[.int .i64 t397, .slice Ao96 t398.length co96] rfl (by (try simp only [List.map_toArray, List.map_cons, List.map_nil]); first | done | rfl | (simp only [List.length_drop, List.length_take]; rfl)) ?_; (with_reducible refine (spec_NextRevolving.calls kj60 t397 _ _ t398 t405 t406 _ ?side1 ?side2 A72.out).mono ?_); (case side1 => repeat (first | exact (Kd.R_reads' HO400.out).2.2 | (with_reducible refine Kd.C_alloc ?_ _) | (with_reducible refine Kd.C_drewN ?_ _) | (with_reducible refine Kd.C_drew ?_))); (case side2 => exact (Kd.R_reads' HO400.out).2.1); rintro e w98 ⟨v407, rfl, ho0, hb⟩; refine ⟨_, rfl, ?_⟩; have n0_ := Aside0.mk (Kd.R_elder' (by (with_reducible repeat (first | apply Kd.R_alloc | apply Kd.R_drewN | apply Kd.R_drew)); exact HO400.out) (Kd.R_base ho0) hb); have n1_ := Aside0.mk (Kd.R_elder' (by (with_reducible repeat (first | apply Kd.R_alloc | apply Kd.R_drewN | apply Kd.R_drew)); exact HO404.out) (Kd.R_base ho0) hb); have n2_ := Aside0.mk (Kd.R_lower (Kd.R_new' (Kd.R_new' ho0 (Kd.R_lt (by (with_reducible repeat (first | apply Kd.R_alloc | apply Kd.R_drewN | apply Kd.R_drew)); exact HO400.out))) (Kd.R_lt (by (with_reducible repeat (first | apply Kd.R_alloc | apply Kd.R_drewN | apply Kd.R_drew)); exact HO404.out))) (below_size (by repeat (first | (with_reducible first | exact HB.out | apply below_alloc | apply pw_below_drewN | apply below_drew1) | exact HB.out)))); have n3_ := Aside0.mk (below_step (by repeat (first | (with_reducible first | exact HB.out | apply below_alloc | apply pw_below_drewN | apply below_drew1) | exact HB.out)) hb); clear HO400; clear HO404; clear HB; have HO400 := n0_; have HO404 := n1_; have HO408 := n2_; have HB := n3_; clear n0_ n1_ n2_ n3_; (try clear hb); (try clear hb2); (try clear hk); (try clear hi); (try clear ho0)) | ((with_reducible refine gate_callee (f := 54) rfl ?_); refine goesL_ (some 197) rfl rfl Try.func54 (by kernel_rfl) rfl #[.int .i64 t397, .slice Ao96 t398.length co96] rfl (by (try simp only [List.map_toArray, List.map_cons, List.map_nil]); first | done | rfl | (simp only [List.length_drop, List.length_take]; rfl)) ?_; (with_reducible refine (impl_RevolvingRank.calls kj60 t397 _ _ t398 t409 t410 _ ?side1 ?side2 A73.out).mono ?_); (case side1 => repeat (first | exact (Kd.R_reads' HO400.out).2.2 | (with_reducible refine Kd.C_alloc ?_ _) | (with_reducible refine Kd.C_drewN ?_ _) | (with_reducible refine Kd.C_drew ?_))); (case side2 => exact (Kd.R_reads' HO400.out).2.1); rintro e w99 ⟨rfl, hb⟩; refine ⟨_, rfl, ?_⟩; have n0_ := Aside0.mk (Kd.R_below (by (with_reducible repeat (first | apply Kd.R_alloc | apply Kd.R_drewN | apply Kd.R_drew)); exact HO400.out) hb); have n1_ := Aside0.mk (Kd.R_below (by (with_reducible repeat (first | apply Kd.R_alloc | apply Kd.R_drewN | apply Kd.R_drew)); exact HO404.out) hb); have n2_ := Aside0.mk (Kd.R_below (by (with_reducible repeat (first | apply Kd.R_alloc | apply Kd.R_drewN | apply Kd.R_drew)); exact HO408.out) hb); have n3_ := Aside0.mk (below_step (by repeat (first | (with_reducible first | exact HB.out | apply below_alloc | apply pw_below_drewN | apply below_drew1) | exact HB.out)) hb); clear HO400; clear HO404; clear HO408; clear HB; have HO400 := n0_; have HO404 := n1_; have HO408 := n2_; have HB := n3_; clear n0_ n1_ n2_ n3_; (try clear hb); (try clear hb2); (try clear hk); (try clear hi)) | ((with_reducible refine gate_callee (f := 61) rfl ?_); refine goesL_ (some 203) rfl rfl Try.func61 (by kernel_rfl) rfl #[.int .i64 t397, .slice Ao96 t398.length co96] rfl (by (try simp only [List.map_toArray, List.map_cons, List.map_nil]); first | done | rfl | (simp only [List.length_drop, List.length_take]; rfl)) ?_; (with_reducible refine (spec_RevolvingRank.calls kj60 t397 _ _ t398 t411 t412 _ ?side1 ?side2 A74.out).mono ?_); (case side1 => repeat (first | exact (Kd.R_reads' HO400.out).2.2 | (with_reducible refine Kd.C_alloc ?_ _) | (with_reducible refine Kd.C_drewN ?_ _) | (with_reducible refine Kd.C_drew ?_))); (case side2 => exact (Kd.R_reads' HO400.out).2.1); rintro e w100 ⟨rfl, hb⟩; refine ⟨_, rfl, ?_⟩; have n0_ := Aside0.mk (Kd.R_below (by (with_reducible repeat (first | apply Kd.R_alloc | apply Kd.R_drewN | apply Kd.R_drew)); exact HO400.out) hb); have n1_ := Aside0.mk (Kd.R_below (by (with_reducible repeat (first | apply Kd.R_alloc | apply Kd.R_drewN | apply Kd.R_drew)); exact HO404.out) hb); have n2_ := Aside0.mk (Kd.R_below (by (with_reducible repeat (first | apply Kd.R_alloc | apply Kd.R_drewN | apply Kd.R_drew)); exact HO408.out) hb); have n3_ := Aside0.mk (below_step (by repeat (first | (with_reducible first | exact HB.out | apply below_alloc | apply pw_below_drewN | apply below_drew1) | exact HB.out)) hb); clear HO400; clear HO404; clear HO408; clear HB; have HO400 := n0_; have HO404 := n1_; have HO408 := n2_; have HB := n3_; clear n0_ n1_ n2_ n3_; (try clear hb); (try clear hb2); (try clear hk); (try clear hi); obtain ⟨Ao101, co101, eo101⟩ := Kd.R_slice HO404.out; subst eo101; obtain ⟨Ao102, co102, eo102⟩ := Kd.R_slice HO408.out; subst eo102) | (go_at_call 41; (with_reducible refine (laws_uSame.calls kj60 _ _ t401 _ _ t405 false _ ?side1 ?side2 ?side3 ?side4 A76.out).mono ?_); (case side1 => repeat (first | exact (Kd.R_reads' HO404.out).2.2 | (with_reducible refine Kd.C_alloc ?_ _) | (with_reducible refine Kd.C_drewN ?_ _) | (with_reducible refine Kd.C_drew ?_))); (case side2 => exact (Kd.R_reads' HO404.out).2.1); (case side3 => repeat (first | exact (Kd.R_reads' HO408.out).2.2 | (with_reducible refine Kd.C_alloc ?_ _) | (with_reducible refine Kd.C_drewN ?_ _) | (with_reducible refine Kd.C_drew ?_))); (case side4 => exact (Kd.R_reads' HO408.out).2.1); rintro e w' ⟨rfl, ⟨nd, rfl⟩⟩))
                        go_ret
                        exact ⟨by first | rfl | (simp [errW_none, errW_some] <;> rfl) | (simp [*, errW_none, errW_some] <;> rfl), by repeat (first | (with_reducible first | exact HB.out | apply below_alloc | apply pw_below_drewN | apply below_drew1) | exact HB.out)⟩
                    · rw [if_neg c75] at H
                      have c75b0 : (t402 == t406) = false := by simpa using c75
                      (try (have c75b1 : decide (t402 = t406) = false := by simpa using c75))
                      (try (have c75b2 : (t402 == t406) = false := by simpa using c75))
                      (try (have c75b3 : ¬ (t402 = t406) := by simpa using c75))
                      clear c75
                      obtain rfl := Option.some.inj H
                      go_wp2_with (first | ((with_reducible refine gate_callee (f := 59) rfl ?_); refine goesL_ (some 179) rfl rfl Try.func59 (by kernel_rfl) rfl #[.slice A1 l1.length c1] rfl (by (try simp only [List.map_toArray, List.map_cons, List.map_nil]); first | done | rfl | (simp only [List.length_drop, List.length_take]; rfl)) ?_; (with_reducible refine (spec_DrawNextRevolving.calls kj60 _ _ l1 t397 t398 _ ?side1 ?side2 A70.out).mono ?_); (case side1 => repeat (first | exact (Kd.C_below HR1.out HB.out) | (with_reducible refine Kd.C_alloc ?_ _) | (with_reducible refine Kd.C_drewN ?_ _) | (with_reducible refine Kd.C_drew ?_))); (case side2 => exact HC1.out); rintro e w103 ⟨v399, rfl, ho0, hb⟩; refine ⟨_, rfl, ?_⟩; have n0_ := Aside0.mk (Kd.R_lower ho0 (below_size (by repeat (first | (with_reducible first | exact HB.out | apply below_alloc | apply pw_below_drewN | apply below_drew1) | exact HB.out)))); have n1_ := Aside0.mk (below_step (by repeat (first | (with_reducible first | exact HB.out | apply below_alloc | apply pw_below_drewN | apply below_drew1) | exact HB.out)) hb); clear HB; have HO400 := n0_; have HB := n1_; clear n0_ n1_; (try clear hb); (try clear hb2); (try clear hk); (try clear hi); (try clear ho0); obtain ⟨Ao104, co104, eo104⟩ := Kd.R_slice HO400.out; subst eo104) | ((with_reducible refine gate_callee (f := 55) rfl ?_); refine goesL_ (some 185) rfl rfl Try.func55 (by kernel_rfl) rfl #[.int .i64 t397, .slice Ao104 t398.length co104] rfl (by (try simp only [List.map_toArray, List.map_cons, List.map_nil]); first | done | rfl | (simp only [List.length_drop, List.length_take]; rfl)) ?_; (with_reducible refine (impl_NextRevolving.calls kj60 t397 _ _ t398 t401 t402 _ ?side1 ?side2 A71.out).mono ?_); (case side1 => repeat (first | exact (Kd.R_reads' HO400.out).2.2 | (with_reducible refine Kd.C_alloc ?_ _) | (with_reducible refine Kd.C_drewN ?_ _) | (with_reducible refine Kd.C_drew ?_))); (case side2 => exact (Kd.R_reads' HO400.out).2.1); rintro e w105 ⟨v403, rfl, ho0, hb⟩; refine ⟨_, rfl, ?_⟩; have n0_ := Aside0.mk (Kd.R_elder' (by (with_reducible repeat (first | apply Kd.R_alloc | apply Kd.R_drewN | apply Kd.R_drew)); exact HO400.out) (Kd.R_base ho0) hb); have n1_ := Aside0.mk (Kd.R_lower (Kd.R_new' ho0 (Kd.R_lt (by (with_reducible repeat (first | apply Kd.R_alloc | apply Kd.R_drewN | apply Kd.R_drew)); exact HO400.out))) (below_size (by repeat (first | (with_reducible first | exact HB.out | apply below_alloc | apply pw_below_drewN | apply below_drew1) | exact HB.out)))); have n2_ := Aside0.mk (below_step (by repeat (first | (with_reducible first | exact HB.out | apply below_alloc | apply pw_below_drewN | apply below_drew1) | exact HB.out)) hb); clear HO400; clear HB; have HO400 := n0_; have HO404 := n1_; have HB := n2_; clear n0_ n1_ n2_; (try clear hb); (try clear hb2); (try clear hk); (try clear hi); (try clear ho0)) | ((with_reducible refine gate_callee (f := 60) rfl ?_); refine goesL_ (some 191) rfl rfl Try.func60 (by kernel_rfl) rfl #[.int .i64 t397, .slice Ao104 t398.length co104] rfl (by (try simp only [List.map_toArray, List.map_cons, List.map_nil]); first | done | rfl | (simp only [List.length_drop, List.length_take]; rfl)) ?_; (with_reducible refine (spec_NextRevolving.calls kj60 t397 _ _ t398 t405 t406 _ ?side1 ?side2 A72.out).mono ?_); (case side1 => repeat (first | exact (Kd.R_reads' HO400.out).2.2 | (with_reducible refine Kd.C_alloc ?_ _) | (with_reducible refine Kd.C_drewN ?_ _) | (with_reducible refine Kd.C_drew ?_))); (case side2 => exact (Kd.R_reads' HO400.out).2.1); rintro e w106 ⟨v407, rfl, ho0, hb⟩; refine ⟨_, rfl, ?_⟩; have n0_ := Aside0.mk (Kd.R_elder' (by (with_reducible repeat (first | apply Kd.R_alloc | apply Kd.R_drewN | apply Kd.R_drew)); exact HO400.out) (Kd.R_base ho0) hb); have n1_ := Aside0.mk (Kd.R_elder' (by (with_reducible repeat (first | apply Kd.R_alloc | apply Kd.R_drewN | apply Kd.R_drew)); exact HO404.out) (Kd.R_base ho0) hb); have n2_ := Aside0.mk (Kd.R_lower (Kd.R_new' (Kd.R_new' ho0 (Kd.R_lt (by (with_reducible repeat (first | apply Kd.R_alloc | apply Kd.R_drewN | apply Kd.R_drew)); exact HO400.out))) (Kd.R_lt (by (with_reducible repeat (first | apply Kd.R_alloc | apply Kd.R_drewN | apply Kd.R_drew)); exact HO404.out))) (below_size (by repeat (first | (with_reducible first | exact HB.out | apply below_alloc | apply pw_below_drewN | apply below_drew1) | exact HB.out)))); have n3_ := Aside0.mk (below_step (by repeat (first | (with_reducible first | exact HB.out | apply below_alloc | apply pw_below_drewN | apply below_drew1) | exact HB.out)) hb); clear HO400; clear HO404; clear HB; have HO400 := n0_; have HO404 := n1_; have HO408 := n2_; have HB := n3_; clear n0_ n1_ n2_ n3_; (try clear hb); (try clear hb2); (try clear hk); (try clear hi); (try clear ho0)) | ((with_reducible refine gate_callee (f := 54) rfl ?_); refine goesL_ (some 197) rfl rfl Try.func54 (by kernel_rfl) rfl #[.int .i64 t397, .slice Ao104 t398.length co104] rfl (by (try simp only [List.map_toArray, List.map_cons, List.map_nil]); first | done | rfl | (simp only [List.length_drop, List.length_take]; rfl)) ?_; (with_reducible refine (impl_RevolvingRank.calls kj60 t397 _ _ t398 t409 t410 _ ?side1 ?side2 A73.out).mono ?_); (case side1 => repeat (first | exact (Kd.R_reads' HO400.out).2.2 | (with_reducible refine Kd.C_alloc ?_ _) | (with_reducible refine Kd.C_drewN ?_ _) | (with_reducible refine Kd.C_drew ?_))); (case side2 => exact (Kd.R_reads' HO400.out).2.1); rintro e w107 ⟨rfl, hb⟩; refine ⟨_, rfl, ?_⟩; have n0_ := Aside0.mk (Kd.R_below (by (with_reducible repeat (first | apply Kd.R_alloc | apply Kd.R_drewN | apply Kd.R_drew)); exact HO400.out) hb); have n1_ := Aside0.mk (Kd.R_below (by (with_reducible repeat (first | apply Kd.R_alloc | apply Kd.R_drewN | apply Kd.R_drew)); exact HO404.out) hb); have n2_ := Aside0.mk (Kd.R_below (by (with_reducible repeat (first | apply Kd.R_alloc | apply Kd.R_drewN | apply Kd.R_drew)); exact HO408.out) hb); have n3_ := Aside0.mk (below_step (by repeat (first | (with_reducible first | exact HB.out | apply below_alloc | apply pw_below_drewN | apply below_drew1) | exact HB.out)) hb); clear HO400; clear HO404; clear HO408; clear HB; have HO400 := n0_; have HO404 := n1_; have HO408 := n2_; have HB := n3_; clear n0_ n1_ n2_ n3_; (try clear hb); (try clear hb2); (try clear hk); (try clear hi)) | ((with_reducible refine gate_callee (f := 61) rfl ?_); refine goesL_ (some 203) rfl rfl Try.func61 (by kernel_rfl) rfl #[.int .i64 t397, .slice Ao104 t398.length co104] rfl (by (try simp only [List.map_toArray, List.map_cons, List.map_nil]); first | done | rfl | (simp only [List.length_drop, List.length_take]; rfl)) ?_; (with_reducible refine (spec_RevolvingRank.calls kj60 t397 _ _ t398 t411 t412 _ ?side1 ?side2 A74.out).mono ?_); (case side1 => repeat (first | exact (Kd.R_reads' HO400.out).2.2 | (with_reducible refine Kd.C_alloc ?_ _) | (with_reducible refine Kd.C_drewN ?_ _) | (with_reducible refine Kd.C_drew ?_))); (case side2 => exact (Kd.R_reads' HO400.out).2.1); rintro e w108 ⟨rfl, hb⟩; refine ⟨_, rfl, ?_⟩; have n0_ := Aside0.mk (Kd.R_below (by (with_reducible repeat (first | apply Kd.R_alloc | apply Kd.R_drewN | apply Kd.R_drew)); exact HO400.out) hb); have n1_ := Aside0.mk (Kd.R_below (by (with_reducible repeat (first | apply Kd.R_alloc | apply Kd.R_drewN | apply Kd.R_drew)); exact HO404.out) hb); have n2_ := Aside0.mk (Kd.R_below (by (with_reducible repeat (first | apply Kd.R_alloc | apply Kd.R_drewN | apply Kd.R_drew)); exact HO408.out) hb); have n3_ := Aside0.mk (below_step (by repeat (first | (with_reducible first | exact HB.out | apply below_alloc | apply pw_below_drewN | apply below_drew1) | exact HB.out)) hb); clear HO400; clear HO404; clear HO408; clear HB; have HO400 := n0_; have HO404 := n1_; have HO408 := n2_; have HB := n3_; clear n0_ n1_ n2_ n3_; (try clear hb); (try clear hb2); (try clear hk); (try clear hi)))
                      go_ret
                      exact ⟨by first | rfl | (simp [errW_none, errW_some] <;> rfl) | (simp [*, errW_none, errW_some] <;> rfl), by repeat (first | (with_reducible first | exact HB.out | apply below_alloc | apply pw_below_drewN | apply below_drew1) | exact HB.out)⟩

/-- THE ONE PURE STATEMENT of laws_FnRevolvingDoor: yours. -/
def laws_FnRevolvingDoor.Pure : Prop := ∀ (l0 : List Int) (l1 : List Int), l0.length ≤ maxLen → l0.length * 1 ≤ 140737488351232 → (∀ x ∈ l0, (Lit.int .u8 x).wf = true) → l1.length ≤ maxLen → l1.length * 1 ≤ 140737488351232 → (∀ x ∈ l1, (Lit.int .u8 x).wf = true) → ∃ k, laws_FnRevolvingDoor.f k l0 l1 = some true
theorem laws_FnRevolvingDoor.walk (P : laws_FnRevolvingDoor.Pure) (a0 : Option Addr) (len0 cap0 : Nat) (z0 : List Int) (a1 : Option Addr) (len1 cap1 : Nat) (z1 : List Int) (w : World) (w0 : (a0 = none ∧ len0 = 0 ∧ cap0 = 0 ∧ z0 = []) ∨ ∃ x, a0 = some x ∧ len0 ≤ cap0 ∧ cap0 ≤ maxLen ∧ z0.length = cap0 ∧ (∀ i, i < z0.length → w.cell? (x.add i) = some (.int .u8 (z0.getD i 0))) ∧ ∀ n ∈ z0, (Lit.int .u8 n).wf = true) (y0 : len0 * 1 ≤ 140737488351232) (w1 : (a1 = none ∧ len1 = 0 ∧ cap1 = 0 ∧ z1 = []) ∨ ∃ x, a1 = some x ∧ len1 ≤ cap1 ∧ cap1 ≤ maxLen ∧ z1.length = cap1 ∧ (∀ i, i < z1.length → w.cell? (x.add i) = some (.int .u8 (z1.getD i 0))) ∧ ∀ n ∈ z1, (Lit.int .u8 n).wf = true) (y1 : len1 * 1 ≤ 140737488351232) :
    Calls Try.prog 11 #[.slice a0 len0 cap0, .slice a1 len1 cap1] w fun e w' => e = .returned (.bool true) ∧ Below w.heap.size w w' := by
  obtain ⟨l0, rfl, hr0, hm0, hw0, hc0⟩ := ReadsInt.ofRowC w0
  obtain ⟨l1, rfl, hr1, hm1, hw1, hc1⟩ := ReadsInt.ofRowC w1
  obtain ⟨k, h⟩ := P l0 l1 hm0 y0 hw0 hm1 y1 hw1
  refine (laws_FnRevolvingDoor.calls k _ _ l0 _ _ l1 true w (Kd.C_of_reads (d := (0 : Int)) (h1 := fun _ => rfl) hr0) hc0 (Kd.C_of_reads (d := (0 : Int)) (h1 := fun _ => rfl) hr1) hc1 h).mono ?_
  rintro e w' ⟨rfl, hd⟩
  exact ⟨rfl, hd⟩

end Go.Proofs.Ytelajnmnbmamhaa.MFnRevolvingDoor
