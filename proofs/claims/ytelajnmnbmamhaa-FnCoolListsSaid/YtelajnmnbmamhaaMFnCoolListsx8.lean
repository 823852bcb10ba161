/- Functions of the program as Lean functions, each with the proof that its call comes to just that: laid for this claim by this session's own program. -/
import Derived.Test.YtelajnmnbmamhaaMFnCoolListsx0
import Derived.Test.YtelajnmnbmamhaaMFnCoolListsx2
import Derived.Test.YtelajnmnbmamhaaMFnCoolListsx3
import Derived.Test.YtelajnmnbmamhaaMFnCoolListsx5
import Derived.Test.YtelajnmnbmamhaaMFnCoolListsx6
import Derived.Test.YtelajnmnbmamhaaMFnCoolListsx7
namespace Go.Proofs.Ytelajnmnbmamhaa.MFnCoolLists
open Go.RowKit Go.Proofs.YtelajnmnbmamhaaW.PrintWords Go.Proofs.YtelajnmnbmamhaaW.PrintLast Go.Proofs.YtelajnmnbmamhaaW.PrintMore
attribute [local go_sem] max2_int min2_int max_two min_two max_three min_three max_four min_four   -- for this text's walks alone
set_option linter.unusedVariables false
set_option linter.unusedSimpArgs false

/-! ### laws_FnCoolLists: function 9 -/
mutual
def laws_FnCoolLists.j0 : Nat → List Int → Int → Int → List (List Int) → Bool → Bool → Option (Bool)
  | 0, _, _, _, _, _, _ => none
  | k + 1, x1, x5, x6, x7, x8, x68 => if x68 = true then (some false) else (if x8 = true then ((impl_Binomial.f k x5 x6).bind fun bt300 => (if bt300.2 = true then (laws_FnCoolLists.j1 k x1 x5 x7 bt300.1 ((x7.length : Int) != bt300.1)) else (laws_FnCoolLists.j1 k x1 x5 x7 bt300.1 true))) else (laws_FnCoolLists.j3 k x1))
def laws_FnCoolLists.j3 : Nat → List Int → Option (Bool)
  | 0, _ => none
  | k + 1, x1 => (spec_DrawFromBits.f k x1).bind fun t324 => ((impl_FromBits.f k t324).bind fun bt327 => ((spec_FromBits.f k t324).bind fun bt331 => ((impl_NextCool.f k t324).bind fun bt335 => ((spec_NextCool.f k t324).bind fun bt339 => ((impl_CoolRank.f k t324).bind fun bt343 => ((spec_CoolRank.f k t324).bind fun bt345 => (if (bt327.2 != bt331.2) = true then (laws_FnCoolLists.j4 k t324 bt327.1 bt327.2 true) else ((laws_uSame.f k bt327.1 bt331.1).bind fun t347 => (if t347 = true then (if (bt335.2 != bt339.2) = true then (laws_FnCoolLists.j4 k t324 bt327.1 bt327.2 true) else ((laws_uSame.f k bt335.1 bt339.1).bind fun t348 => (if t348 = true then (if (bt343.2 != bt345.2) = true then (laws_FnCoolLists.j4 k t324 bt327.1 bt327.2 true) else (laws_FnCoolLists.j4 k t324 bt327.1 bt327.2 (bt343.1 != bt345.1))) else (laws_FnCoolLists.j4 k t324 bt327.1 bt327.2 true)))) else (laws_FnCoolLists.j4 k t324 bt327.1 bt327.2 true))))))))))
def laws_FnCoolLists.j4 : Nat → List Int → List Int → Bool → Bool → Option (Bool)
  | 0, _, _, _, _ => none
  | k + 1, x25, x26, x27, x221 => if x221 = true then (some false) else (if x27 = true then ((impl_BitsOf.f k (x25.length : Int) x26).bind fun bt349 => (if bt349.2 = true then ((laws_uSame.f k bt349.1 x25).bind fun t353 => (some t353)) else (some false))) else (some true))
def laws_FnCoolLists.j1 : Nat → List Int → Int → List (List Int) → Int → Bool → Option (Bool)
  | 0, _, _, _, _, _ => none
  | k + 1, x1, x5, x7, x11, x83 => if x83 = true then (some false) else (if 0 ≤ x11 then (if (x11 : Int).toNat ≤ 281474976710656 then (laws_FnCoolLists.l0 k x1 x5 x7 x11 (List.replicate (x11 : Int).toNat false) x7 (x7.length : Int) 0) else (none)) else (none))
def laws_FnCoolLists.l0 : Nat → List Int → Int → List (List Int) → Int → List Bool → List (List Int) → Int → Int → Option (Bool)
  | 0, _, _, _, _, _, _, _, _ => none
  | k + 1, x1, x5, x7, x11, x13, x86, x87, x88 => if x88 < x87 then (if 0 ≤ x88 then (if x88 < (x86.length : Int) then ((impl_NextCool.f k (rd_L1 x86 x88)).bind fun bt306 => ((impl_FromBits.f k (rd_L1 x86 x88)).bind fun bt310 => ((impl_CombinationRank.f k x5 bt310.1).bind fun bt314 => (if bt306.2 = true then (if x11 = 0 then (none) else (if 0 ≤ (Int.tmod (wrap64 (x88 + 1)) x11) then (if (Int.tmod (wrap64 (x88 + 1)) x11) < (x7.length : Int) then ((laws_uSame.f k bt306.1 (rd_L1 x7 (Int.tmod (wrap64 (x88 + 1)) x11))).bind fun t317 => (if t317 = true then (if bt310.2 = true then (if bt314.2 = true then (if 0 ≤ bt314.1 then (if bt314.1 < (x13.length : Int) then (if rdOf false x13 bt314.1 = true then (some false) else (laws_FnCoolLists.l0 k x1 x5 x7 x11 (x13.set (bt314.1 : Int).toNat true) x86 x87 (wrap64 (x88 + 1)))) else (none)) else (none)) else (some false)) else (some false)) else (some false))) else (none)) else (none))) else (some false))))) else (none)) else (none)) else ((laws_numberOf.f k x1).bind fun t320 => (if x11 = 0 then (none) else (if 0 ≤ (Int.tmod t320 x11) then (if (Int.tmod t320 x11) < (x7.length : Int) then ((impl_CoolRank.f k (rd_L1 x7 (Int.tmod t320 x11))).bind fun bt322 => (if bt322.2 = true then (if bt322.1 = (Int.tmod t320 x11) then (laws_FnCoolLists.j3 k x1) else (some false)) else (some false))) else (none)) else (none))))
end
def laws_FnCoolLists.f (k : Nat) (l0 : List Int) (l1 : List Int) : Option (Bool) := (laws_big.f l0 l1).bind fun t288 => (if t288 = true then (some true) else ((spec_DrawCoolList.f l0).bind fun bt289 => ((impl_CoolList.f k bt289.1 bt289.2).bind fun bt291 => ((spec_CoolList.f k bt289.1 bt289.2).bind fun bt295 => (if (bt291.2 != bt295.2) = true then (laws_FnCoolLists.j0 k l1 bt289.1 bt289.2 bt291.1 bt291.2 true) else ((laws_uLists.f k bt291.1 bt295.1).bind fun t299 => (laws_FnCoolLists.j0 k l1 bt289.1 bt289.2 bt291.1 bt291.2 (!t299))))))))
theorem laws_FnCoolLists.mono_l : ∀ k, (∀ y0 y1 y2 y3 y4 y5, LeO (laws_FnCoolLists.j0 k y0 y1 y2 y3 y4 y5) (laws_FnCoolLists.j0 (k + 1) y0 y1 y2 y3 y4 y5)) ∧ (∀ y0, LeO (laws_FnCoolLists.j3 k y0) (laws_FnCoolLists.j3 (k + 1) y0)) ∧ (∀ y0 y1 y2 y3, LeO (laws_FnCoolLists.j4 k y0 y1 y2 y3) (laws_FnCoolLists.j4 (k + 1) y0 y1 y2 y3)) ∧ (∀ y0 y1 y2 y3 y4, LeO (laws_FnCoolLists.j1 k y0 y1 y2 y3 y4) (laws_FnCoolLists.j1 (k + 1) y0 y1 y2 y3 y4)) ∧ (∀ y0 y1 y2 y3 y4 y5 y6 y7, LeO (laws_FnCoolLists.l0 k y0 y1 y2 y3 y4 y5 y6 y7) (laws_FnCoolLists.l0 (k + 1) y0 y1 y2 y3 y4 y5 y6 y7))
  | 0 => ⟨fun _ _ _ _ _ _ r h => by simp [laws_FnCoolLists.j0] at h, fun _ r h => by simp [laws_FnCoolLists.j3] at h, fun _ _ _ _ r h => by simp [laws_FnCoolLists.j4] at h, fun _ _ _ _ _ r h => by simp [laws_FnCoolLists.j1] at h, fun _ _ _ _ _ _ _ _ r h => by simp [laws_FnCoolLists.l0] at h⟩
  | k + 1 => by
    obtain ⟨ih0, ih1, ih2, ih3, ih4⟩ := laws_FnCoolLists.mono_l k
    refine ⟨?_, ?_, ?_, ?_, ?_⟩
    · intro y0 y1 y2 y3 y4 y5
      unfold laws_FnCoolLists.j0
      repeat' first
      | (with_reducible exact ih0 _ _ _ _ _ _)
      | (with_reducible exact ih1 _)
      | (with_reducible exact ih2 _ _ _ _)
      | (with_reducible exact ih3 _ _ _ _ _)
      | (with_reducible exact ih4 _ _ _ _ _ _ _ _)
      | (with_reducible exact impl_Binomial.mono _ _ _)
      | (with_reducible exact impl_BitsOf.mono _ _ _)
      | (with_reducible exact impl_CombinationRank.mono _ _ _)
      | (with_reducible exact impl_CoolList.mono _ _ _)
      | (with_reducible exact impl_CoolRank.mono _ _)
      | (with_reducible exact impl_FromBits.mono _ _)
      | (with_reducible exact impl_NextCool.mono _ _)
      | (with_reducible exact laws_numberOf.mono _ _)
      | (with_reducible exact laws_uLists.mono _ _ _)
      | (with_reducible exact laws_uSame.mono _ _ _)
      | (with_reducible exact spec_CoolList.mono _ _ _)
      | (with_reducible exact spec_CoolRank.mono _ _)
      | (with_reducible exact spec_DrawFromBits.mono _ _)
      | (with_reducible exact spec_FromBits.mono _ _)
      | (with_reducible exact spec_NextCool.mono _ _)
      | (with_reducible exact LeO.refl _)
      | (with_reducible exact LeO.none _)
      | (with_reducible refine LeO.ite ?_ ?_)
      | (with_reducible refine LeO.bind ?_ (fun _ => ?_))
      | exact ih0 _ _ _ _ _ _
      | exact ih1 _
      | exact ih2 _ _ _ _
      | exact ih3 _ _ _ _ _
      | exact ih4 _ _ _ _ _ _ _ _
      | exact impl_Binomial.mono _ _ _
      | exact impl_BitsOf.mono _ _ _
      | exact impl_CombinationRank.mono _ _ _
      | exact impl_CoolList.mono _ _ _
      | exact impl_CoolRank.mono _ _
      | exact impl_FromBits.mono _ _
      | exact impl_NextCool.mono _ _
      | exact laws_numberOf.mono _ _
      | exact laws_uLists.mono _ _ _
      | exact laws_uSame.mono _ _ _
      | exact spec_CoolList.mono _ _ _
      | exact spec_CoolRank.mono _ _
      | exact spec_DrawFromBits.mono _ _
      | exact spec_FromBits.mono _ _
      | exact spec_NextCool.mono _ _
      | exact LeO.none _
      | refine LeO.ite ?_ ?_
      | refine LeO.bind ?_ (fun _ => ?_)
    · intro y0
      unfold laws_FnCoolLists.j3
      repeat' first
      | (with_reducible exact ih0 _ _ _ _ _ _)
      | (with_reducible exact ih1 _)
      | (with_reducible exact ih2 _ _ _ _)
      | (with_reducible exact ih3 _ _ _ _ _)
      | (with_reducible exact ih4 _ _ _ _ _ _ _ _)
      | (with_reducible exact impl_Binomial.mono _ _ _)
      | (with_reducible exact impl_BitsOf.mono _ _ _)
      | (with_reducible exact impl_CombinationRank.mono _ _ _)
      | (with_reducible exact impl_CoolList.mono _ _ _)
      | (with_reducible exact impl_CoolRank.mono _ _)
      | (with_reducible exact impl_FromBits.mono _ _)
      | (with_reducible exact impl_NextCool.mono _ _)
      | (with_reducible exact laws_numberOf.mono _ _)
      | (with_reducible exact laws_uLists.mono _ _ _)
      | (with_reducible exact laws_uSame.mono _ _ _)
      | (with_reducible exact spec_CoolList.mono _ _ _)
      | (with_reducible exact spec_CoolRank.mono _ _)
      | (with_reducible exact spec_DrawFromBits.mono _ _)
      | (with_reducible exact spec_FromBits.mono _ _)
      | (with_reducible exact spec_NextCool.mono _ _)
      | (with_reducible exact LeO.refl _)
      | (with_reducible exact LeO.none _)
      | (with_reducible refine LeO.ite ?_ ?_)
      | (with_reducible refine LeO.bind ?_ (fun _ => ?_))
      | exact ih0 _ _ _ _ _ _
      | exact ih1 _
      | exact ih2 _ _ _ _
      | exact ih3 _ _ _ _ _
      | exact ih4 _ _ _ _ _ _ _ _
      | exact impl_Binomial.mono _ _ _
      | exact impl_BitsOf.mono _ _ _
      | exact impl_CombinationRank.mono _ _ _
      | exact impl_CoolList.mono _ _ _
      | exact impl_CoolRank.mono _ _
      | exact impl_FromBits.mono _ _
      | exact impl_NextCool.mono _ _
      | exact laws_numberOf.mono _ _
      | exact laws_uLists.mono _ _ _
      | exact laws_uSame.mono _ _ _
      | exact spec_CoolList.mono _ _ _
      | exact spec_CoolRank.mono _ _
      | exact spec_DrawFromBits.mono _ _
      | exact spec_FromBits.mono _ _
      | exact spec_NextCool.mono _ _
      | exact LeO.none _
      | refine LeO.ite ?_ ?_
      | refine LeO.bind ?_ (fun _ => ?_)
    · intro y0 y1 y2 y3
      unfold laws_FnCoolLists.j4
      repeat' first
      | (with_reducible exact ih0 _ _ _ _ _ _)
      | (with_reducible exact ih1 _)
      | (with_reducible exact ih2 _ _ _ _)
      | (with_reducible exact ih3 _ _ _ _ _)
      | (with_reducible exact ih4 _ _ _ _ _ _ _ _)
      | (with_reducible exact impl_Binomial.mono _ _ _)
      | (with_reducible exact impl_BitsOf.mono _ _ _)
      | (with_reducible exact impl_CombinationRank.mono _ _ _)
      | (with_reducible exact impl_CoolList.mono _ _ _)
      | (with_reducible exact impl_CoolRank.mono _ _)
      | (with_reducible exact impl_FromBits.mono _ _)
      | (with_reducible exact impl_NextCool.mono _ _)
      | (with_reducible exact laws_numberOf.mono _ _)
      | (with_reducible exact laws_uLists.mono _ _ _)
      | (with_reducible exact laws_uSame.mono _ _ _)
      | (with_reducible exact spec_CoolList.mono _ _ _)
      | (with_reducible exact spec_CoolRank.mono _ _)
      | (with_reducible exact spec_DrawFromBits.mono _ _)
      | (with_reducible exact spec_FromBits.mono _ _)
      | (with_reducible exact spec_NextCool.mono _ _)
      | (with_reducible exact LeO.refl _)
      | (with_reducible exact LeO.none _)
      | (with_reducible refine LeO.ite ?_ ?_)
      | (with_reducible refine LeO.bind ?_ (fun _ => ?_))
      | exact ih0 _ _ _ _ _ _
      | exact ih1 _
      | exact ih2 _ _ _ _
      | exact ih3 _ _ _ _ _
      | exact ih4 _ _ _ _ _ _ _ _
      | exact impl_Binomial.mono _ _ _
      | exact impl_BitsOf.mono _ _ _
      | exact impl_CombinationRank.mono _ _ _
      | exact impl_CoolList.mono _ _ _
      | exact impl_CoolRank.mono _ _
      | exact impl_FromBits.mono _ _
      | exact impl_NextCool.mono _ _
      | exact laws_numberOf.mono _ _
      | exact laws_uLists.mono _ _ _
      | exact laws_uSame.mono _ _ _
      | exact spec_CoolList.mono _ _ _
      | exact spec_CoolRank.mono _ _
      | exact spec_DrawFromBits.mono _ _
      | exact spec_FromBits.mono _ _
      | exact spec_NextCool.mono _ _
      | exact LeO.none _
      | refine LeO.ite ?_ ?_
      | refine LeO.bind ?_ (fun _ => ?_)
    · intro y0 y1 y2 y3 y4
      unfold laws_FnCoolLists.j1
      repeat' first
      | (with_reducible exact ih0 _ _ _ _ _ _)
      | (with_reducible exact ih1 _)
      | (with_reducible exact ih2 _ _ _ _)
      | (with_reducible exact ih3 _ _ _ _ _)
      | (with_reducible exact ih4 _ _ _ _ _ _ _ _)
      | (with_reducible exact impl_Binomial.mono _ _ _)
      | (with_reducible exact impl_BitsOf.mono _ _ _)
      | (with_reducible exact impl_CombinationRank.mono _ _ _)
      | (with_reducible exact impl_CoolList.mono _ _ _)
      | (with_reducible exact impl_CoolRank.mono _ _)
      | (with_reducible exact impl_FromBits.mono _ _)
      | (with_reducible exact impl_NextCool.mono _ _)
      | (with_reducible exact laws_numberOf.mono _ _)
      | (with_reducible exact laws_uLists.mono _ _ _)
      | (with_reducible exact laws_uSame.mono _ _ _)
      | (with_reducible exact spec_CoolList.mono _ _ _)
      | (with_reducible exact spec_CoolRank.mono _ _)
      | (with_reducible exact spec_DrawFromBits.mono _ _)
      | (with_reducible exact spec_FromBits.mono _ _)
      | (with_reducible exact spec_NextCool.mono _ _)
      | (with_reducible exact LeO.refl _)
      | (with_reducible exact LeO.none _)
      | (with_reducible refine LeO.ite ?_ ?_)
      | (with_reducible refine LeO.bind ?_ (fun _ => ?_))
      | exact ih0 _ _ _ _ _ _
      | exact ih1 _
      | exact ih2 _ _ _ _
      | exact ih3 _ _ _ _ _
      | exact ih4 _ _ _ _ _ _ _ _
      | exact impl_Binomial.mono _ _ _
      | exact impl_BitsOf.mono _ _ _
      | exact impl_CombinationRank.mono _ _ _
      | exact impl_CoolList.mono _ _ _
      | exact impl_CoolRank.mono _ _
      | exact impl_FromBits.mono _ _
      | exact impl_NextCool.mono _ _
      | exact laws_numberOf.mono _ _
      | exact laws_uLists.mono _ _ _
      | exact laws_uSame.mono _ _ _
      | exact spec_CoolList.mono _ _ _
      | exact spec_CoolRank.mono _ _
      | exact spec_DrawFromBits.mono _ _
      | exact spec_FromBits.mono _ _
      | exact spec_NextCool.mono _ _
      | exact LeO.none _
      | refine LeO.ite ?_ ?_
      | refine LeO.bind ?_ (fun _ => ?_)
    · intro y0 y1 y2 y3 y4 y5 y6 y7
      unfold laws_FnCoolLists.l0
      repeat' first
      | (with_reducible exact ih0 _ _ _ _ _ _)
      | (with_reducible exact ih1 _)
      | (with_reducible exact ih2 _ _ _ _)
      | (with_reducible exact ih3 _ _ _ _ _)
      | (with_reducible exact ih4 _ _ _ _ _ _ _ _)
      | (with_reducible exact impl_Binomial.mono _ _ _)
      | (with_reducible exact impl_BitsOf.mono _ _ _)
      | (with_reducible exact impl_CombinationRank.mono _ _ _)
      | (with_reducible exact impl_CoolList.mono _ _ _)
      | (with_reducible exact impl_CoolRank.mono _ _)
      | (with_reducible exact impl_FromBits.mono _ _)
      | (with_reducible exact impl_NextCool.mono _ _)
      | (with_reducible exact laws_numberOf.mono _ _)
      | (with_reducible exact laws_uLists.mono _ _ _)
      | (with_reducible exact laws_uSame.mono _ _ _)
      | (with_reducible exact spec_CoolList.mono _ _ _)
      | (with_reducible exact spec_CoolRank.mono _ _)
      | (with_reducible exact spec_DrawFromBits.mono _ _)
      | (with_reducible exact spec_FromBits.mono _ _)
      | (with_reducible exact spec_NextCool.mono _ _)
      | (with_reducible exact LeO.refl _)
      | (with_reducible exact LeO.none _)
      | (with_reducible refine LeO.ite ?_ ?_)
      | (with_reducible refine LeO.bind ?_ (fun _ => ?_))
      | exact ih0 _ _ _ _ _ _
      | exact ih1 _
      | exact ih2 _ _ _ _
      | exact ih3 _ _ _ _ _
      | exact ih4 _ _ _ _ _ _ _ _
      | exact impl_Binomial.mono _ _ _
      | exact impl_BitsOf.mono _ _ _
      | exact impl_CombinationRank.mono _ _ _
      | exact impl_CoolList.mono _ _ _
      | exact impl_CoolRank.mono _ _
      | exact impl_FromBits.mono _ _
      | exact impl_NextCool.mono _ _
      | exact laws_numberOf.mono _ _
      | exact laws_uLists.mono _ _ _
      | exact laws_uSame.mono _ _ _
      | exact spec_CoolList.mono _ _ _
      | exact spec_CoolRank.mono _ _
      | exact spec_DrawFromBits.mono _ _
      | exact spec_FromBits.mono _ _
      | exact spec_NextCool.mono _ _
      | exact LeO.none _
      | refine LeO.ite ?_ ?_
      | refine LeO.bind ?_ (fun _ => ?_)
theorem laws_FnCoolLists.mono : ∀ a0 a1 k, LeO (laws_FnCoolLists.f k a0 a1) (laws_FnCoolLists.f (k + 1) a0 a1) := by
  intro a0 a1 k
  obtain ⟨ih0, ih1, ih2, ih3, ih4⟩ := laws_FnCoolLists.mono_l k
  unfold laws_FnCoolLists.f
  repeat' first
      | (with_reducible exact ih0 _ _ _ _ _ _)
      | (with_reducible exact ih1 _)
      | (with_reducible exact ih2 _ _ _ _)
      | (with_reducible exact ih3 _ _ _ _ _)
      | (with_reducible exact ih4 _ _ _ _ _ _ _ _)
      | (with_reducible exact impl_Binomial.mono _ _ _)
      | (with_reducible exact impl_BitsOf.mono _ _ _)
      | (with_reducible exact impl_CombinationRank.mono _ _ _)
      | (with_reducible exact impl_CoolList.mono _ _ _)
      | (with_reducible exact impl_CoolRank.mono _ _)
      | (with_reducible exact impl_FromBits.mono _ _)
      | (with_reducible exact impl_NextCool.mono _ _)
      | (with_reducible exact laws_numberOf.mono _ _)
      | (with_reducible exact laws_uLists.mono _ _ _)
      | (with_reducible exact laws_uSame.mono _ _ _)
      | (with_reducible exact spec_CoolList.mono _ _ _)
      | (with_reducible exact spec_CoolRank.mono _ _)
      | (with_reducible exact spec_DrawFromBits.mono _ _)
      | (with_reducible exact spec_FromBits.mono _ _)
      | (with_reducible exact spec_NextCool.mono _ _)
      | (with_reducible exact LeO.refl _)
      | (with_reducible exact LeO.none _)
      | (with_reducible refine LeO.ite ?_ ?_)
      | (with_reducible refine LeO.bind ?_ (fun _ => ?_))
      | exact ih0 _ _ _ _ _ _
      | exact ih1 _
      | exact ih2 _ _ _ _
      | exact ih3 _ _ _ _ _
      | exact ih4 _ _ _ _ _ _ _ _
      | exact impl_Binomial.mono _ _ _
      | exact impl_BitsOf.mono _ _ _
      | exact impl_CombinationRank.mono _ _ _
      | exact impl_CoolList.mono _ _ _
      | exact impl_CoolRank.mono _ _
      | exact impl_FromBits.mono _ _
      | exact impl_NextCool.mono _ _
      | exact laws_numberOf.mono _ _
      | exact laws_uLists.mono _ _ _
      | exact laws_uSame.mono _ _ _
      | exact spec_CoolList.mono _ _ _
      | exact spec_CoolRank.mono _ _
      | exact spec_DrawFromBits.mono _ _
      | exact spec_FromBits.mono _ _
      | exact spec_NextCool.mono _ _
      | exact LeO.none _
      | refine LeO.ite ?_ ?_
      | refine LeO.bind ?_ (fun _ => ?_)
set_option maxHeartbeats 8000000 in
set_option maxRecDepth 100000 in
theorem laws_FnCoolLists.calls (k : Nat) (A0 : Option Addr) (c0 : Nat) (l0 : List Int) (A1 : Option Addr) (c1 : Nat) (l1 : List Int) (r : Bool) (w : World) (hr0 : Kd.C (Kd.int .u8) w A0 l0.length l0) (hc0 : l0.length ≤ c0) (hr1 : Kd.C (Kd.int .u8) w A1 l1.length l1) (hc1 : l1.length ≤ c1) (h : laws_FnCoolLists.f k l0 l1 = some r) :
    Calls Try.prog 9 #[.slice A0 l0.length c0, .slice A1 l1.length c1] w fun e w' => e = .returned (.bool r) ∧ Below w.heap.size w w' := by
  have HR0 := Aside0.mk hr0
  have HC0 := Aside0.mk hc0
  clear hr0 hc0
  have HR1 := Aside0.mk hr1
  have HC1 := Aside0.mk hc1
  clear hr1 hc1
  have HB := Aside0.mk (Below.refl w.heap.size w)
  have H : ((laws_big.f l0 l1).bind fun t288 => (if t288 = true then (some true) else ((spec_DrawCoolList.f l0).bind fun bt289 => ((impl_CoolList.f k bt289.1 bt289.2).bind fun bt291 => ((spec_CoolList.f k bt289.1 bt289.2).bind fun bt295 => (if (bt291.2 != bt295.2) = true then (laws_FnCoolLists.j0 k l1 bt289.1 bt289.2 bt291.1 bt291.2 true) else ((laws_uLists.f k bt291.1 bt295.1).bind fun t299 => (laws_FnCoolLists.j0 k l1 bt289.1 bt289.2 bt291.1 bt291.2 (!t299))))))))) = some r := h
  clear h
  replace H := Option.bind_eq_some_iff.mp H
  obtain ⟨t288, A30, H⟩ := H
  replace H : (if t288 = true then (some true) else ((spec_DrawCoolList.f l0).bind fun bt289 => ((impl_CoolList.f k bt289.1 bt289.2).bind fun bt291 => ((spec_CoolList.f k bt289.1 bt289.2).bind fun bt295 => (if (bt291.2 != bt295.2) = true then (laws_FnCoolLists.j0 k l1 bt289.1 bt289.2 bt291.1 bt291.2 true) else ((laws_uLists.f k bt291.1 bt295.1).bind fun t299 => (laws_FnCoolLists.j0 k l1 bt289.1 bt289.2 bt291.1 bt291.2 (!t299)))))))) = some r := H
  have A3 := Aside0.mk A30
  clear A30
  by_cases c4 : t288 = true
  · subst c4
    have H1 : (some true) = some r := by rw [if_pos rfl] at H; exact H
    clear H
    have H := H1
    clear H1
    obtain rfl := Option.some.inj H
    go_enter Try.func9, Try.ntmps9
    go_wp2_with (first | ((with_reducible refine gate_callee (f := 32) rfl ?_); refine goesL_ (some 42) rfl rfl Try.func32 (by kernel_rfl) rfl #[.slice A0 l0.length c0, .slice A1 l1.length c1] rfl (by (try simp only [List.map_toArray, List.map_cons, List.map_nil]); first | done | rfl | (simp only [List.length_drop, List.length_take]; rfl)) ?_; (with_reducible refine (laws_big.calls _ _ l0 _ _ l1 true _ ?side1 ?side2 ?side3 ?side4 A3.out).mono ?_); (case side1 => repeat (first | exact HR0.out | (with_reducible refine Kd.C_alloc ?_ _) | (with_reducible refine Kd.C_drewN ?_ _) | (with_reducible refine Kd.C_drew ?_))); (case side2 => exact HC0.out); (case side3 => repeat (first | exact HR1.out | (with_reducible refine Kd.C_alloc ?_ _) | (with_reducible refine Kd.C_drewN ?_ _) | (with_reducible refine Kd.C_drew ?_))); (case side4 => exact HC1.out); rintro e w' ⟨rfl, ⟨nd, rfl⟩⟩; refine ⟨_, rfl, ?_⟩))
    go_ret
    exact ⟨by first | rfl | (simp [errW_none, errW_some] <;> rfl) | (simp [*, errW_none, errW_some] <;> rfl), by repeat (first | (with_reducible first | exact HB.out | apply below_alloc | apply pw_below_drewN | apply below_drew1) | exact HB.out)⟩
  · replace c4 := Bool.eq_false_iff.mpr c4
    subst c4
    have H1 : ((spec_DrawCoolList.f l0).bind fun bt289 => ((impl_CoolList.f k bt289.1 bt289.2).bind fun bt291 => ((spec_CoolList.f k bt289.1 bt289.2).bind fun bt295 => (if (bt291.2 != bt295.2) = true then (laws_FnCoolLists.j0 k l1 bt289.1 bt289.2 bt291.1 bt291.2 true) else ((laws_uLists.f k bt291.1 bt295.1).bind fun t299 => (laws_FnCoolLists.j0 k l1 bt289.1 bt289.2 bt291.1 bt291.2 (!t299))))))) = some r := by rw [if_neg (show ¬ (false = true) by decide)] at H; exact H
    clear H
    have H := H1
    clear H1
    replace H := Option.bind_eq_some_iff.mp H
    obtain ⟨⟨t289, t290⟩, A50, H⟩ := H
    replace H : ((impl_CoolList.f k t289 t290).bind fun bt291 => ((spec_CoolList.f k t289 t290).bind fun bt295 => (if (bt291.2 != bt295.2) = true then (laws_FnCoolLists.j0 k l1 t289 t290 bt291.1 bt291.2 true) else ((laws_uLists.f k bt291.1 bt295.1).bind fun t299 => (laws_FnCoolLists.j0 k l1 t289 t290 bt291.1 bt291.2 (!t299)))))) = some r := H
    have A5 := Aside0.mk A50
    clear A50
    replace H := Option.bind_eq_some_iff.mp H
    obtain ⟨⟨t291, t292⟩, A60, H⟩ := H
    replace H : ((spec_CoolList.f k t289 t290).bind fun bt295 => (if (t292 != bt295.2) = true then (laws_FnCoolLists.j0 k l1 t289 t290 t291 t292 true) else ((laws_uLists.f k t291 bt295.1).bind fun t299 => (laws_FnCoolLists.j0 k l1 t289 t290 t291 t292 (!t299))))) = some r := H
    have A6 := Aside0.mk A60
    clear A60
    replace H := Option.bind_eq_some_iff.mp H
    obtain ⟨⟨t295, t296⟩, A70, H⟩ := H
    replace H : (if (t292 != t296) = true then (laws_FnCoolLists.j0 k l1 t289 t290 t291 t292 true) else ((laws_uLists.f k t291 t295).bind fun t299 => (laws_FnCoolLists.j0 k l1 t289 t290 t291 t292 (!t299)))) = some r := H
    have A7 := Aside0.mk A70
    clear A70
    have HC8 := Aside0.mk H
    clear H
    go_enter Try.func9, Try.ntmps9
    go_upto_region 6 with (first | ((with_reducible refine gate_callee (f := 32) rfl ?_); refine goesL_ (some 42) rfl rfl Try.func32 (by kernel_rfl) rfl #[.slice A0 l0.length c0, .slice A1 l1.length c1] rfl (by (try simp only [List.map_toArray, List.map_cons, List.map_nil]); first | done | rfl | (simp only [List.length_drop, List.length_take]; rfl)) ?_; (with_reducible refine (laws_big.calls _ _ l0 _ _ l1 false _ ?side1 ?side2 ?side3 ?side4 A3.out).mono ?_); (case side1 => repeat (first | exact HR0.out | (with_reducible refine Kd.C_alloc ?_ _) | (with_reducible refine Kd.C_drewN ?_ _) | (with_reducible refine Kd.C_drew ?_))); (case side2 => exact HC0.out); (case side3 => repeat (first | exact HR1.out | (with_reducible refine Kd.C_alloc ?_ _) | (with_reducible refine Kd.C_drewN ?_ _) | (with_reducible refine Kd.C_drew ?_))); (case side4 => exact HC1.out); rintro e w' ⟨rfl, ⟨nd, rfl⟩⟩; refine ⟨_, rfl, ?_⟩) | ((with_reducible refine gate_callee (f := 33) rfl ?_); refine goesL_ (some 45) rfl rfl Try.func33 (by kernel_rfl) rfl #[.slice A0 l0.length c0] rfl (by (try simp only [List.map_toArray, List.map_cons, List.map_nil]); first | done | rfl | (simp only [List.length_drop, List.length_take]; rfl)) ?_; (with_reducible refine (spec_DrawCoolList.calls _ _ l0 t289 t290 _ ?side1 ?side2 A5.out).mono ?_); (case side1 => repeat (first | exact HR0.out | (with_reducible refine Kd.C_alloc ?_ _) | (with_reducible refine Kd.C_drewN ?_ _) | (with_reducible refine Kd.C_drew ?_))); (case side2 => exact HC0.out); rintro e w9 ⟨rfl, hb⟩; refine ⟨_, rfl, ?_⟩; have n0_ := Aside0.mk (below_step (by repeat (first | (with_reducible first | exact HB.out | apply below_alloc | apply pw_below_drewN | apply below_drew1) | exact HB.out)) hb); clear HB; have HB := n0_; clear n0_; (try clear hb); (try clear hb2); (try clear hk); (try clear hi)) | ((with_reducible refine gate_callee (f := 34) rfl ?_); refine goesL_ (some 51) rfl rfl Try.func34 (by kernel_rfl) rfl #[.int .i64 t289, .int .i64 t290] rfl (by (try simp only [List.map_toArray, List.map_cons, List.map_nil]); first | done | rfl | (simp only [List.length_drop, List.length_take]; rfl)) ?_; (with_reducible refine (impl_CoolList.calls k t289 t290 t291 t292 _ A6.out).mono ?_); rintro e w10 ⟨v293, rfl, ho0, hb⟩; refine ⟨_, rfl, ?_⟩; have n0_ := Aside0.mk (Kd.S_lower ho0 (below_size (by repeat (first | (with_reducible first | exact HB.out | apply below_alloc | apply pw_below_drewN | apply below_drew1) | exact HB.out)))); have n1_ := Aside0.mk (below_step (by repeat (first | (with_reducible first | exact HB.out | apply below_alloc | apply pw_below_drewN | apply below_drew1) | exact HB.out)) hb); clear HB; have HO294 := n0_; have HB := n1_; clear n0_ n1_; (try clear hb); (try clear hb2); (try clear hk); (try clear hi); (try clear ho0)) | ((with_reducible refine gate_callee (f := 35) rfl ?_); refine goesL_ (some 57) rfl rfl Try.func35 (by kernel_rfl) rfl #[.int .i64 t289, .int .i64 t290] rfl (by (try simp only [List.map_toArray, List.map_cons, List.map_nil]); first | done | rfl | (simp only [List.length_drop, List.length_take]; rfl)) ?_; (with_reducible refine (spec_CoolList.calls k t289 t290 t295 t296 _ A7.out).mono ?_); rintro e w11 ⟨v297, rfl, ho0, hb⟩; refine ⟨_, rfl, ?_⟩; have n0_ := Aside0.mk (Kd.S_elder' (by (with_reducible repeat (first | apply Kd.S_alloc | apply Kd.S_drewN | apply Kd.S_drew)); exact HO294.out) (Kd.S_base ho0) hb); have n1_ := Aside0.mk (Kd.S_lower (Kd.S_new' ho0 (Kd.S_lt (by (with_reducible repeat (first | apply Kd.S_alloc | apply Kd.S_drewN | apply Kd.S_drew)); exact HO294.out))) (below_size (by repeat (first | (with_reducible first | exact HB.out | apply below_alloc | apply pw_below_drewN | apply below_drew1) | exact HB.out)))); have n2_ := Aside0.mk (below_step (by repeat (first | (with_reducible first | exact HB.out | apply below_alloc | apply pw_below_drewN | apply below_drew1) | exact HB.out)) hb); clear HO294; clear HB; have HO294 := n0_; have HO298 := n1_; have HB := n2_; clear n0_ n1_ n2_; (try clear hb); (try clear hb2); (try clear hk); (try clear hi); (try clear ho0)))
    (try simp only [Act.put, List.setIfInBounds_toArray, List.set_cons_zero, List.set_cons_succ])
    go_cut [68] (fun v68 wc => ∃ (kq : Nat) (x68_7 : Bool), v68 = .bool x68_7 ∧ Aside0 (laws_FnCoolLists.j0 kq l1 t289 t290 t291 t292 x68_7 = some r) ∧ Aside0 (kq ≤ k) ∧ Aside0 (Kd.S (Kd.slice 3 (Kd.int .i64)) 22 wc w.heap.size (fun _ => True) v293 t291) ∧ Aside0 (Below w.heap.size w wc))
    case first =>
      have H := HC8.out
      clear HC8
      by_cases c12 : (t292 != t296) = true
      · rw [if_pos c12] at H
        have c12b0 : (t292 != t296) = true := c12
        (try (have c12b1 : decide (t292 = t296) = false := by simpa using c12))
        (try (have c12b2 : (t292 == t296) = false := by simpa using c12))
        (try (have c12b3 : ¬ (t292 = t296) := by simpa using c12))
        clear c12
        (first | rw [c12b0] | (simp only [i64_w, i32_w]; rw [c12b0]) | skip)
        have H' := Aside0.mk H
        clear H
        go_wp2
        go_meet
        case rel => exact ⟨_, (true), (by first | rfl | (simp; done) | (simp [*]; done)), H', ⟨by first | omega | exact Nat.le_refl _⟩, ⟨by (with_reducible repeat (first | apply Kd.S_alloc | apply Kd.S_drewN | apply Kd.S_drew)); exact Kd.S_mono HO294.out (fun _ hk => trivial)⟩, ⟨by repeat (first | (with_reducible first | exact HB.out | apply below_alloc | apply pw_below_drewN | apply below_drew1) | exact HB.out)⟩⟩
      · rw [if_neg c12] at H
        have c12b0 : (t292 != t296) = false := by simpa using c12
        (try (have c12b1 : decide (t292 = t296) = true := by simpa using c12))
        (try (have c12b2 : (t292 == t296) = true := by simpa using c12))
        clear c12
        (first | rw [c12b0] | (simp only [i64_w, i32_w]; rw [c12b0]) | skip)
        replace H := Option.bind_eq_some_iff.mp H
        obtain ⟨t299, A130, H⟩ := H
        replace H : (laws_FnCoolLists.j0 k l1 t289 t290 t291 t292 (!t299)) = some r := H
        have A13 := Aside0.mk A130
        clear A130
        have H' := Aside0.mk H
        clear H
        obtain ⟨Ao14, co14, eo14⟩ := Kd.S_slice HO294.out
        subst eo14
        obtain ⟨Ao15, co15, eo15⟩ := Kd.S_slice HO298.out
        subst eo15
        go_wp2_with (first | (go_at_call 36; (with_reducible refine (laws_uLists.calls k _ _ t291 _ _ t295 t299 _ ?side1 ?side2 ?side3 ?side4 A13.out).mono ?_); (case side1 => repeat (first | exact (Kd.S_reads' HO294.out).2.2 | (with_reducible refine Kd.C_alloc ?_ _) | (with_reducible refine Kd.C_drewN ?_ _) | (with_reducible refine Kd.C_drew ?_))); (case side2 => exact (Kd.S_reads' HO294.out).2.1); (case side3 => repeat (first | exact (Kd.S_reads' HO298.out).2.2 | (with_reducible refine Kd.C_alloc ?_ _) | (with_reducible refine Kd.C_drewN ?_ _) | (with_reducible refine Kd.C_drew ?_))); (case side4 => exact (Kd.S_reads' HO298.out).2.1); rintro e w' ⟨rfl, ⟨nd, rfl⟩⟩))
        go_meet
        case rel => exact ⟨_, (!t299), (by first | rfl | (simp; done) | (simp [*]; done)), H', ⟨by first | omega | exact Nat.le_refl _⟩, ⟨by (with_reducible repeat (first | apply Kd.S_alloc | apply Kd.S_drewN | apply Kd.S_drew)); exact Kd.S_mono HO294.out (fun _ hk => trivial)⟩, ⟨by repeat (first | (with_reducible first | exact HB.out | apply below_alloc | apply pw_below_drewN | apply below_drew1) | exact HB.out)⟩⟩
    case rest => as_aux_lemma =>
      clear HC8
      try clear c1
      try clear p2
      try clear c3
      try clear c4
      try clear c9
      try clear c12
      try clear c12b0
      try clear c12b1
      try clear c12b2
      obtain ⟨kq, x68_7, rfl, HA, HJ7, HO_7, HB⟩ := hcut
      cases kq with
      | zero => exact absurd HA.out (by simp [laws_FnCoolLists.j0])
      | succ kj7 =>
        have H := HA.out
        clear HA
        simp only [laws_FnCoolLists.j0] at H
        by_cases c16 : x68_7 = true
        · subst c16
          have H1 : (some false) = some r := by rw [if_pos rfl] at H; exact H
          clear H
          have H := H1
          clear H1
          obtain rfl := Option.some.inj H
          go_wp2
          go_ret
          exact ⟨by first | rfl | (simp [errW_none, errW_some] <;> rfl) | (simp [*, errW_none, errW_some] <;> rfl), by repeat (first | (with_reducible first | exact HB.out | apply below_alloc | apply pw_below_drewN | apply below_drew1) | exact HB.out)⟩
        · replace c16 := Bool.eq_false_iff.mpr c16
          subst c16
          have H1 : (if t292 = true then ((impl_Binomial.f kj7 t289 t290).bind fun bt300 => (if bt300.2 = true then (laws_FnCoolLists.j1 kj7 l1 t289 t291 bt300.1 ((t291.length : Int) != bt300.1)) else (laws_FnCoolLists.j1 kj7 l1 t289 t291 bt300.1 true))) else (laws_FnCoolLists.j3 kj7 l1)) = some r := by rw [if_neg (show ¬ (false = true) by decide)] at H; exact H
          clear H
          have H := H1
          clear H1
          have HC17 := Aside0.mk H
          clear H
          go_upto_if 69 with (fail)
          go_cut [] (fun wc => ∃ (kq : Nat), Aside0 (laws_FnCoolLists.j3 kq l1 = some r) ∧ Aside0 (kq ≤ kj7) ∧ Aside0 (Below w.heap.size w wc))
          case first =>
            have H := HC17.out
            clear HC17
            by_cases c18 : t292 = true
            · subst c18
              have H1 : ((impl_Binomial.f kj7 t289 t290).bind fun bt300 => (if bt300.2 = true then (laws_FnCoolLists.j1 kj7 l1 t289 t291 bt300.1 ((t291.length : Int) != bt300.1)) else (laws_FnCoolLists.j1 kj7 l1 t289 t291 bt300.1 true))) = some r := by rw [if_pos rfl] at H; exact H
              clear H
              have H := H1
              clear H1
              replace H := Option.bind_eq_some_iff.mp H
              obtain ⟨⟨t300, t301⟩, A190, H⟩ := H
              replace H : (if t301 = true then (laws_FnCoolLists.j1 kj7 l1 t289 t291 t300 ((t291.length : Int) != t300)) else (laws_FnCoolLists.j1 kj7 l1 t289 t291 t300 true)) = some r := H
              have A19 := Aside0.mk A190
              clear A190
              have HC20 := Aside0.mk H
              clear H
              go_upto_region 10 with (first | ((with_reducible refine gate_callee (f := 37) rfl ?_); refine goesL_ (some 73) rfl rfl Try.func37 (by kernel_rfl) rfl #[.int .i64 t289, .int .i64 t290] rfl (by (try simp only [List.map_toArray, List.map_cons, List.map_nil]); first | done | rfl | (simp only [List.length_drop, List.length_take]; rfl)) ?_; (with_reducible refine (impl_Binomial.calls kj7 t289 t290 t300 t301 _ A19.out).mono ?_); rintro e w' ⟨rfl, ⟨nd, rfl⟩⟩; refine ⟨_, rfl, ?_⟩))
              (try simp only [Act.put, List.setIfInBounds_toArray, List.set_cons_zero, List.set_cons_succ])
              go_cut [83] (fun v83 wc => ∃ (kq : Nat) (x83_19 : Bool), v83 = .bool x83_19 ∧ Aside0 (laws_FnCoolLists.j1 kq l1 t289 t291 t300 x83_19 = some r) ∧ Aside0 (kq ≤ kj7) ∧ Aside0 (Kd.S (Kd.slice 3 (Kd.int .i64)) 22 wc w.heap.size (fun _ => True) v293 t291) ∧ Aside0 (Below w.heap.size w wc))
              case first =>
                have H := HC20.out
                clear HC20
                by_cases c21 : t301 = true
                · subst c21
                  have H1 : (laws_FnCoolLists.j1 kj7 l1 t289 t291 t300 ((t291.length : Int) != t300)) = some r := by rw [if_pos rfl] at H; exact H
                  clear H
                  have H := H1
                  clear H1
                  have H' := Aside0.mk H
                  clear H
                  obtain ⟨Ao22, co22, eo22⟩ := Kd.S_slice HO_7.out
                  subst eo22
                  go_wp2
                  go_meet
                  case rel => exact ⟨_, (((t291.length : Int) != t300)), (by first | rfl | (simp; done) | (simp [*]; done)), H', ⟨by have := HJ7.out; first | omega | exact Nat.le_refl _⟩, ⟨by (with_reducible repeat (first | apply Kd.S_alloc | apply Kd.S_drewN | apply Kd.S_drew)); exact HO_7.out⟩, ⟨by repeat (first | (with_reducible first | exact HB.out | apply below_alloc | apply pw_below_drewN | apply below_drew1) | exact HB.out)⟩⟩
                · replace c21 := Bool.eq_false_iff.mpr c21
                  subst c21
                  have H1 : (laws_FnCoolLists.j1 kj7 l1 t289 t291 t300 true) = some r := by rw [if_neg (show ¬ (false = true) by decide)] at H; exact H
                  clear H
                  have H := H1
                  clear H1
                  have H' := Aside0.mk H
                  clear H
                  go_wp2
                  go_meet
                  case rel => exact ⟨_, (true), (by first | rfl | (simp; done) | (simp [*]; done)), H', ⟨by have := HJ7.out; first | omega | exact Nat.le_refl _⟩, ⟨by (with_reducible repeat (first | apply Kd.S_alloc | apply Kd.S_drewN | apply Kd.S_drew)); exact HO_7.out⟩, ⟨by repeat (first | (with_reducible first | exact HB.out | apply below_alloc | apply pw_below_drewN | apply below_drew1) | exact HB.out)⟩⟩
              case rest => as_aux_lemma =>
                clear HC20
                try clear c1
                try clear c2
                try clear p2
                try clear c3
                try clear c4
                try clear c9
                try clear c12
                try clear c12b0
                try clear c12b1
                try clear c12b2
                try clear c16
                try clear c18
                try clear c21
                try clear p2
                obtain ⟨kq, x83_19, rfl, HA, HJ19, HO_7, HB⟩ := hcut
                cases kq with
                | zero => exact absurd HA.out (by simp [laws_FnCoolLists.j1])
                | succ kj19 =>
                  have H := HA.out
                  clear HA
                  simp only [laws_FnCoolLists.j1] at H
                  by_cases c23 : x83_19 = true
                  · subst c23
                    have H1 : (some false) = some r := by rw [if_pos rfl] at H; exact H
                    clear H
                    have H := H1
                    clear H1
                    obtain rfl := Option.some.inj H
                    go_wp2
                    go_ret
                    exact ⟨by first | rfl | (simp [errW_none, errW_some] <;> rfl) | (simp [*, errW_none, errW_some] <;> rfl), by repeat (first | (with_reducible first | exact HB.out | apply below_alloc | apply pw_below_drewN | apply below_drew1) | exact HB.out)⟩
                  · replace c23 := Bool.eq_false_iff.mpr c23
                    subst c23
                    have H1 : (if 0 ≤ t300 then (if (t300 : Int).toNat ≤ 281474976710656 then (laws_FnCoolLists.l0 kj19 l1 t289 t291 t300 (List.replicate (t300 : Int).toNat false) t291 (t291.length : Int) 0) else (none)) else (none)) = some r := by rw [if_neg (show ¬ (false = true) by decide)] at H; exact H
                    clear H
                    have H := H1
                    clear H1
                    by_cases c24 : 0 ≤ t300
                    · rw [if_pos c24] at H
                      have c24b0 := eq_true c24
                      have c24b1 : decide (0 ≤ t300) = true := decide_eq_true c24
                      clear c24
                      by_cases c25 : (t300 : Int).toNat ≤ 281474976710656
                      · rw [if_pos c25] at H
                        have c25b0 := eq_true c25
                        have c25b1 : decide ((t300 : Int).toNat ≤ 281474976710656) = true := decide_eq_true c25
                        clear c25
                        obtain ⟨y302, hy302⟩ : ∃ y_ : List Bool, y_ = (List.replicate (t300 : Int).toNat false) := ⟨_, rfl⟩
                        replace H : (laws_FnCoolLists.l0 kj19 l1 t289 t291 t300 y302 t291 (t291.length : Int) 0) = some r := by first | (rw [hy302]; with_reducible exact H) | (have H2_ := (Option.bind_some _ _).symm.trans H; rw [hy302]; with_reducible exact H2_) | (have H2_ := (Option.bind_some _ _).symm.trans H; with_reducible exact H2_) | with_reducible exact H | (rw [hy302]; exact H) | exact H
                        have Ny302 := Aside0.mk hy302
                        clear hy302
                        have H' := Aside0.mk H
                        clear H
                        go_wp2_with (first | ((with_reducible refine gate_dst (N := 85) rfl ?_); (try (refine gate_guard (by rfl) ?_; dsimp only)); refine Kd.R_make Kd.bool _ 4 rfl (N := 85) rfl 45 _ _ rfl t300 rfl rfl Try.underlying45 (.bool false) 1 info4 rfl (by decide) (by omega) false (ok := fun _ => True) (okp := fun _ => True) rfl (fun _ hk => hk) trivial (of_decide_eq_true (by first | (with_reducible assumption) | assumption)) (Nat.le_trans (Nat.mul_le_mul_right _ (of_decide_eq_true (by first | (with_reducible assumption) | assumption) : t300.toNat ≤ 281474976710656)) (by omega)) (Below.refl _ _) (Nat.le_refl _) ?_; intro v303 w26 ho27 hb hg_ hnew_; clear hg_ hnew_; (first | rw [← Ny302.out] at ho27 | (simp only [Int.reduceToNat] at ho27; rw [← Ny302.out] at ho27)); have n0_ := Aside0.mk (Kd.S_below (by (with_reducible repeat (first | apply Kd.S_alloc | apply Kd.S_drewN | apply Kd.S_drew)); exact HO_7.out) hb); have n1_ := Aside0.mk (Kd.R_lower ho27 (below_size (by repeat (first | (with_reducible first | exact HB.out | apply below_alloc | apply pw_below_drewN | apply below_drew1) | exact HB.out)))); have n2_ := Aside0.mk (below_step (by repeat (first | (with_reducible first | exact HB.out | apply below_alloc | apply pw_below_drewN | apply below_drew1) | exact HB.out)) hb); clear HO_7; clear HB; have HO_7 := n0_; have HO304 := n1_; have HB := n2_; clear n0_ n1_ n2_; clear hb ho27; obtain ⟨Ao28, co28, eo28⟩ := Kd.S_slice HO_7.out; subst eo28))
                        go_loopg [88] kj19 (fun kq v88 w' => ∃ (x13_3 : List Bool) (x88_3 : Int), v88 = .int .i64 x88_3 ∧ Aside0 (laws_FnCoolLists.l0 kq l1 t289 t291 t300 x13_3 t291 (t291.length : Int) x88_3 = some r) ∧ Aside0 (kq ≤ kj19) ∧ Aside0 (Kd.S (Kd.slice 3 (Kd.int .i64)) 22 w' w.heap.size (fun _ => True) (.slice Ao28 t291.length co28) t291) ∧ Aside0 (Kd.R Kd.bool 4 w' w.heap.size (fun _ => True) v303 x13_3) ∧ Aside0 (Kd.S (Kd.slice 3 (Kd.int .i64)) 22 w' w.heap.size (fun _ => True) (.slice Ao28 t291.length co28) t291) ∧ Aside0 (Below w.heap.size w w'))
                        case atStart => exact ⟨(y302), (0), (by first | rfl | (simp; done) | (simp [*]; done)), H', ⟨Nat.le_refl _⟩, ⟨by (with_reducible repeat (first | apply Kd.S_alloc | apply Kd.S_drewN | apply Kd.S_drew)); exact HO_7.out⟩, ⟨by (with_reducible repeat (first | apply Kd.R_alloc | apply Kd.R_drewN | apply Kd.R_drew)); exact HO304.out⟩, ⟨by (with_reducible repeat (first | apply Kd.S_alloc | apply Kd.S_drewN | apply Kd.S_drew)); exact HO_7.out⟩, ⟨by repeat (first | (with_reducible first | exact HB.out | apply below_alloc | apply pw_below_drewN | apply below_drew1) | exact HB.out)⟩⟩
                        case round =>
                          clear H'
                          try clear c1
                          try clear c2
                          try clear p2
                          try clear c3
                          try clear c4
                          try clear c9
                          try clear c12
                          try clear c12b0
                          try clear c12b1
                          try clear c12b2
                          try clear c16
                          try clear c18
                          try clear c21
                          try clear c23
                          try clear c24
                          try clear c24b0
                          try clear c24b1
                          try clear c25
                          try clear c25b0
                          try clear c25b1
                          try clear p2
                          obtain ⟨x13_3, x88_3, rfl, HA, HK3, HO_7, HO_13, HO_86, HB⟩ := hrel
                          cases gk with
                          | zero => exact absurd HA.out (by simp [laws_FnCoolLists.l0])
                          | succ k3 =>
                            have H := HA.out
                            clear HA
                            simp only [laws_FnCoolLists.l0] at H
                            by_cases c29 : x88_3 < (t291.length : Int)
                            · rw [if_pos c29] at H
                              have c29b0 : decide (x88_3 < (t291.length : Int)) = true := decide_eq_true c29
                              clear c29
                              by_cases c30 : 0 ≤ x88_3
                              · rw [if_pos c30] at H
                                have c30b0 : decide (0 ≤ x88_3) = true := decide_eq_true c30
                                clear c30
                                by_cases c31 : x88_3 < (t291.length : Int)
                                · rw [if_pos c31] at H
                                  have c31b0 : decide (x88_3 < (t291.length : Int)) = true := decide_eq_true c31
                                  clear c31
                                  replace H := Option.bind_eq_some_iff.mp H
                                  obtain ⟨⟨t306, t307⟩, A320, H⟩ := H
                                  replace H : ((impl_FromBits.f k3 (rd_L1 t291 x88_3)).bind fun bt310 => ((impl_CombinationRank.f k3 t289 bt310.1).bind fun bt314 => (if t307 = true then (if t300 = 0 then (none) else (if 0 ≤ (Int.tmod (wrap64 (x88_3 + 1)) t300) then (if (Int.tmod (wrap64 (x88_3 + 1)) t300) < (t291.length : Int) then ((laws_uSame.f k3 t306 (rd_L1 t291 (Int.tmod (wrap64 (x88_3 + 1)) t300))).bind fun t317 => (if t317 = true then (if bt310.2 = true then (if bt314.2 = true then (if 0 ≤ bt314.1 then (if bt314.1 < (x13_3.length : Int) then (if rdOf false x13_3 bt314.1 = true then (some false) else (laws_FnCoolLists.l0 k3 l1 t289 t291 t300 (x13_3.set (bt314.1 : Int).toNat true) t291 (t291.length : Int) (wrap64 (x88_3 + 1)))) else (none)) else (none)) else (some false)) else (some false)) else (some false))) else (none)) else (none))) else (some false)))) = some r := H
                                  have A32 := Aside0.mk A320
                                  clear A320
                                  replace H := Option.bind_eq_some_iff.mp H
                                  obtain ⟨⟨t310, t311⟩, A330, H⟩ := H
                                  replace H : ((impl_CombinationRank.f k3 t289 t310).bind fun bt314 => (if t307 = true then (if t300 = 0 then (none) else (if 0 ≤ (Int.tmod (wrap64 (x88_3 + 1)) t300) then (if (Int.tmod (wrap64 (x88_3 + 1)) t300) < (t291.length : Int) then ((laws_uSame.f k3 t306 (rd_L1 t291 (Int.tmod (wrap64 (x88_3 + 1)) t300))).bind fun t317 => (if t317 = true then (if t311 = true then (if bt314.2 = true then (if 0 ≤ bt314.1 then (if bt314.1 < (x13_3.length : Int) then (if rdOf false x13_3 bt314.1 = true then (some false) else (laws_FnCoolLists.l0 k3 l1 t289 t291 t300 (x13_3.set (bt314.1 : Int).toNat true) t291 (t291.length : Int) (wrap64 (x88_3 + 1)))) else (none)) else (none)) else (some false)) else (some false)) else (some false))) else (none)) else (none))) else (some false))) = some r := H
                                  have A33 := Aside0.mk A330
                                  clear A330
                                  replace H := Option.bind_eq_some_iff.mp H
                                  obtain ⟨⟨t314, t315⟩, A340, H⟩ := H
                                  replace H : (if t307 = true then (if t300 = 0 then (none) else (if 0 ≤ (Int.tmod (wrap64 (x88_3 + 1)) t300) then (if (Int.tmod (wrap64 (x88_3 + 1)) t300) < (t291.length : Int) then ((laws_uSame.f k3 t306 (rd_L1 t291 (Int.tmod (wrap64 (x88_3 + 1)) t300))).bind fun t317 => (if t317 = true then (if t311 = true then (if t315 = true then (if 0 ≤ t314 then (if t314 < (x13_3.length : Int) then (if rdOf false x13_3 t314 = true then (some false) else (laws_FnCoolLists.l0 k3 l1 t289 t291 t300 (x13_3.set (t314 : Int).toNat true) t291 (t291.length : Int) (wrap64 (x88_3 + 1)))) else (none)) else (none)) else (some false)) else (some false)) else (some false))) else (none)) else (none))) else (some false)) = some r := H
                                  have A34 := Aside0.mk A340
                                  clear A340
                                  by_cases c35 : t307 = true
                                  · subst c35
                                    have H1 : (if t300 = 0 then (none) else (if 0 ≤ (Int.tmod (wrap64 (x88_3 + 1)) t300) then (if (Int.tmod (wrap64 (x88_3 + 1)) t300) < (t291.length : Int) then ((laws_uSame.f k3 t306 (rd_L1 t291 (Int.tmod (wrap64 (x88_3 + 1)) t300))).bind fun t317 => (if t317 = true then (if t311 = true then (if t315 = true then (if 0 ≤ t314 then (if t314 < (x13_3.length : Int) then (if rdOf false x13_3 t314 = true then (some false) else (laws_FnCoolLists.l0 k3 l1 t289 t291 t300 (x13_3.set (t314 : Int).toNat true) t291 (t291.length : Int) (wrap64 (x88_3 + 1)))) else (none)) else (none)) else (some false)) else (some false)) else (some false))) else (none)) else (none))) = some r := by rw [if_pos rfl] at H; exact H
                                    clear H
                                    have H := H1
                                    clear H1
                                    by_cases c36 : t300 = 0
                                    · rw [if_pos c36] at H
                                      exact absurd H (by simp)
                                    · rw [if_neg c36] at H
                                      have c36b0 : (t300 == 0) = false := beq_eq_false_iff_ne.mpr c36
                                      have c36b1 : (t300 != 0) = true := bne_iff_ne.mpr c36
                                      obtain ⟨ji37, hji37⟩ : ∃ j_ : Int, (Int.tmod (wrap64 (x88_3 + 1)) t300) = j_ := ⟨_, rfl⟩
                                      replace H : (if 0 ≤ (ji37) then (if (ji37) < (t291.length : Int) then ((laws_uSame.f k3 t306 (rd_L1 t291 (ji37))).bind fun t317 => (if t317 = true then (if t311 = true then (if t315 = true then (if 0 ≤ t314 then (if t314 < (x13_3.length : Int) then (if rdOf false x13_3 t314 = true then (some false) else (laws_FnCoolLists.l0 k3 l1 t289 t291 t300 (x13_3.set (t314 : Int).toNat true) t291 (t291.length : Int) (wrap64 (x88_3 + 1)))) else (none)) else (none)) else (some false)) else (some false)) else (some false))) else (none)) else (none)) = some r := by first | (rw [hji37] at H; exact H) | (simp only [hji37] at H ⊢; exact H)
                                      (try rw [hji37] at A32)
                                      (try rw [hji37] at A33)
                                      (try rw [hji37] at A34)
                                      by_cases c38 : 0 ≤ (ji37)
                                      · rw [if_pos c38] at H
                                        have c38b0 : decide (0 ≤ (ji37)) = true := decide_eq_true c38
                                        clear c38
                                        by_cases c39 : (ji37) < (t291.length : Int)
                                        · rw [if_pos c39] at H
                                          have c39b0 : decide ((ji37) < (t291.length : Int)) = true := decide_eq_true c39
                                          clear c39
                                          replace H := Option.bind_eq_some_iff.mp H
                                          obtain ⟨t317, A400, H⟩ := H
                                          replace H : (if t317 = true then (if t311 = true then (if t315 = true then (if 0 ≤ t314 then (if t314 < (x13_3.length : Int) then (if rdOf false x13_3 t314 = true then (some false) else (laws_FnCoolLists.l0 k3 l1 t289 t291 t300 (x13_3.set (t314 : Int).toNat true) t291 (t291.length : Int) (wrap64 (x88_3 + 1)))) else (none)) else (none)) else (some false)) else (some false)) else (some false)) = some r := H
                                          have A40 := Aside0.mk A400
                                          clear A400
                                          by_cases c41 : t317 = true
                                          · subst c41
                                            have H1 : (if t311 = true then (if t315 = true then (if 0 ≤ t314 then (if t314 < (x13_3.length : Int) then (if rdOf false x13_3 t314 = true then (some false) else (laws_FnCoolLists.l0 k3 l1 t289 t291 t300 (x13_3.set (t314 : Int).toNat true) t291 (t291.length : Int) (wrap64 (x88_3 + 1)))) else (none)) else (none)) else (some false)) else (some false)) = some r := by rw [if_pos rfl] at H; exact H
                                            clear H
                                            have H := H1
                                            clear H1
                                            by_cases c42 : t311 = true
                                            · subst c42
                                              have H1 : (if t315 = true then (if 0 ≤ t314 then (if t314 < (x13_3.length : Int) then (if rdOf false x13_3 t314 = true then (some false) else (laws_FnCoolLists.l0 k3 l1 t289 t291 t300 (x13_3.set (t314 : Int).toNat true) t291 (t291.length : Int) (wrap64 (x88_3 + 1)))) else (none)) else (none)) else (some false)) = some r := by rw [if_pos rfl] at H; exact H
                                              clear H
                                              have H := H1
                                              clear H1
                                              by_cases c43 : t315 = true
                                              · subst c43
                                                have H1 : (if 0 ≤ t314 then (if t314 < (x13_3.length : Int) then (if rdOf false x13_3 t314 = true then (some false) else (laws_FnCoolLists.l0 k3 l1 t289 t291 t300 (x13_3.set (t314 : Int).toNat true) t291 (t291.length : Int) (wrap64 (x88_3 + 1)))) else (none)) else (none)) = some r := by rw [if_pos rfl] at H; exact H
                                                clear H
                                                have H := H1
                                                clear H1
                                                by_cases c44 : 0 ≤ t314
                                                · rw [if_pos c44] at H
                                                  have c44b0 : decide (0 ≤ t314) = true := decide_eq_true c44
                                                  clear c44
                                                  by_cases c45 : t314 < (x13_3.length : Int)
                                                  · rw [if_pos c45] at H
                                                    have c45b0 : decide (t314 < (x13_3.length : Int)) = true := decide_eq_true c45
                                                    clear c45
                                                    obtain ⟨bq46, hbq46⟩ : ∃ b_ : Bool, b_ = (rdOf false x13_3 t314) := ⟨_, rfl⟩
                                                    replace H : (if bq46 = true then (some false) else (laws_FnCoolLists.l0 k3 l1 t289 t291 t300 (x13_3.set (t314 : Int).toNat true) t291 (t291.length : Int) (wrap64 (x88_3 + 1)))) = some r := by rw [← hbq46] at H; exact H
                                                    have Nbq46 := Aside0.mk hbq46
                                                    clear hbq46
                                                    by_cases c47 : bq46 = true
                                                    · subst c47
                                                      have H1 : (some false) = some r := by rw [if_pos rfl] at H; exact H
                                                      clear H
                                                      have H := H1
                                                      clear H1
                                                      obtain rfl := Option.some.inj H
                                                      have p305 : 0 ≤ (x88_3 : Int) := of_decide_eq_true (by first | (with_reducible assumption) | assumption)
                                                      have q305 : x88_3 < (t291.length : Int) := of_decide_eq_true (by first | (with_reducible assumption) | assumption)
                                                      obtain ⟨ad305, A305_0, c305_0, e305, hx305_0, hl305_0, hi305_0⟩ := at_L1 (Kd.S_reads' HO_86.out).2.2 x88_3 p305 q305
                                                      cases e305
                                                      obtain ⟨ce305, hce305, hMe305, hcc305⟩ := Kd.S_get HO_86.out [] x88_3 p305 (by first | exact q305 | exact of_decide_eq_true (by first | (with_reducible assumption) | assumption) | (have e_ := (Kd.S_reads' HO_86.out).1; omega))
                                                      obtain ⟨ve305_0, rfl, ge305_0⟩ := hMe305
                                                      have hv305_0 := hcc305 0 _ rfl
                                                      rw [Nat.add_zero, show ((Kd.slice 3 (Kd.int .i64))).sz = 1 from rfl, Nat.mul_one] at hv305_0
                                                      replace hv305_0 := Option.some.inj (hv305_0.symm.trans hx305_0)
                                                      rw [hv305_0] at ge305_0
                                                      have HL305_0 := Aside0.mk (show Kd.R (Kd.int .i64) 3 _ _ _ _ (rd_L1 t291 x88_3) from ge305_0)
                                                      clear hv305_0 ge305_0
                                                      clear hcc305 hce305
                                                      have HR305_0 := Aside0.mk hi305_0
                                                      have HC305_0 := Aside0.mk hl305_0
                                                      clear hi305_0 hl305_0
                                                      replace p305 := eq_true p305
                                                      replace q305 := eq_true q305
                                                      go_wp2_with (first | ((with_reducible refine gate_callee (f := 38) rfl ?_); refine goesL_ (some 95) rfl rfl Try.func38 (by kernel_rfl) rfl #[.slice A305_0 (rd_L1 t291 x88_3).length c305_0] rfl (by (try simp only [List.map_toArray, List.map_cons, List.map_nil]); first | done | rfl | (simp only [List.length_drop, List.length_take]; rfl)) ?_; (with_reducible refine (impl_NextCool.calls k3 _ _ (rd_L1 t291 x88_3) t306 true _ ?side1 ?side2 A32.out).mono ?_); (case side1 => repeat (first | exact (by repeat (first | (with_reducible exact HR305_0.out) | (with_reducible refine Kd.C_alloc ?_ _) | (with_reducible refine Kd.C_drewN ?_ _) | (with_reducible refine Kd.C_drew ?_) | exact HR305_0.out)) | (with_reducible refine Kd.C_alloc ?_ _) | (with_reducible refine Kd.C_drewN ?_ _) | (with_reducible refine Kd.C_drew ?_))); (case side2 => exact HC305_0.out); rintro e w48 ⟨v308, rfl, ho0, hb⟩; refine ⟨_, rfl, ?_⟩; have n0_ := Aside0.mk (Kd.S_elder' (by (with_reducible repeat (first | apply Kd.S_alloc | apply Kd.S_drewN | apply Kd.S_drew)); exact HO_7.out) (Kd.R_base ho0) hb); have n1_ := Aside0.mk (Kd.R_below (by (with_reducible repeat (first | apply Kd.R_alloc | apply Kd.R_drewN | apply Kd.R_drew)); exact HO_13.out) hb); have n2_ := Aside0.mk (Kd.S_elder' (by (with_reducible repeat (first | apply Kd.S_alloc | apply Kd.S_drewN | apply Kd.S_drew)); exact HO_86.out) (Kd.R_base ho0) hb); have n3_ := Aside0.mk (Kd.R_elder' (by (with_reducible repeat (first | apply Kd.R_alloc | apply Kd.R_drewN | apply Kd.R_drew)); exact HL305_0.out) (Kd.R_base ho0) hb); have n4_ := Aside0.mk (Kd.R_lower (Kd.R_new' ho0 (Kd.R_lt (by (with_reducible repeat (first | apply Kd.R_alloc | apply Kd.R_drewN | apply Kd.R_drew)); exact HL305_0.out))) (below_size (by repeat (first | (with_reducible first | exact HB.out | apply below_alloc | apply pw_below_drewN | apply below_drew1) | exact HB.out)))); have n5_ := Aside0.mk (Kd.C_below (by first | (with_reducible exact HR305_0.out) | (with_reducible exact Kd.C_drewN HR305_0.out _) | (with_reducible exact Kd.C_drew HR305_0.out) | (with_reducible exact Kd.C_alloc HR305_0.out _) | repeat (first | (with_reducible exact HR305_0.out) | (with_reducible refine Kd.C_alloc ?_ _) | (with_reducible refine Kd.C_drewN ?_ _) | (with_reducible refine Kd.C_drew ?_) | exact HR305_0.out)) hb); have n6_ := Aside0.mk (below_step (by repeat (first | (with_reducible first | exact HB.out | apply below_alloc | apply pw_below_drewN | apply below_drew1) | exact HB.out)) hb); clear HO_7; clear HO_13; clear HO_86; clear HL305_0; clear HR305_0; clear HB; have HO_7 := n0_; have HO_13 := n1_; have HO_86 := n2_; have HL305_0 := n3_; have HO309 := n4_; have HR305_0 := n5_; have HB := n6_; clear n0_ n1_ n2_ n3_ n4_ n5_ n6_; (try clear hb); (try clear hb2); (try clear hk); (try clear hi); (try clear ho0)) | ((with_reducible refine gate_callee (f := 39) rfl ?_); refine goesL_ (some 100) rfl rfl Try.func39 (by kernel_rfl) rfl #[.slice A305_0 (rd_L1 t291 x88_3).length c305_0] rfl (by (try simp only [List.map_toArray, List.map_cons, List.map_nil]); first | done | rfl | (simp only [List.length_drop, List.length_take]; rfl)) ?_; (with_reducible refine (impl_FromBits.calls k3 _ _ (rd_L1 t291 x88_3) t310 true _ ?side1 ?side2 A33.out).mono ?_); (case side1 => repeat (first | exact (by repeat (first | (with_reducible exact HR305_0.out) | (with_reducible refine Kd.C_alloc ?_ _) | (with_reducible refine Kd.C_drewN ?_ _) | (with_reducible refine Kd.C_drew ?_) | exact HR305_0.out)) | (with_reducible refine Kd.C_alloc ?_ _) | (with_reducible refine Kd.C_drewN ?_ _) | (with_reducible refine Kd.C_drew ?_))); (case side2 => exact HC305_0.out); rintro e w49 ⟨v312, rfl, ho0, hb⟩; refine ⟨_, rfl, ?_⟩; have n0_ := Aside0.mk (Kd.S_elder' (by (with_reducible repeat (first | apply Kd.S_alloc | apply Kd.S_drewN | apply Kd.S_drew)); exact HO_7.out) (Kd.R_base ho0) hb); have n1_ := Aside0.mk (Kd.R_below (by (with_reducible repeat (first | apply Kd.R_alloc | apply Kd.R_drewN | apply Kd.R_drew)); exact HO_13.out) hb); have n2_ := Aside0.mk (Kd.S_elder' (by (with_reducible repeat (first | apply Kd.S_alloc | apply Kd.S_drewN | apply Kd.S_drew)); exact HO_86.out) (Kd.R_base ho0) hb); have n3_ := Aside0.mk (Kd.R_elder' (by (with_reducible repeat (first | apply Kd.R_alloc | apply Kd.R_drewN | apply Kd.R_drew)); exact HL305_0.out) (Kd.R_base ho0) hb); have n4_ := Aside0.mk (Kd.R_elder' (by (with_reducible repeat (first | apply Kd.R_alloc | apply Kd.R_drewN | apply Kd.R_drew)); exact HO309.out) (Kd.R_base ho0) hb); have n5_ := Aside0.mk (Kd.R_lower (Kd.R_new' (Kd.R_new' ho0 (Kd.R_lt (by (with_reducible repeat (first | apply Kd.R_alloc | apply Kd.R_drewN | apply Kd.R_drew)); exact HL305_0.out))) (Kd.R_lt (by (with_reducible repeat (first | apply Kd.R_alloc | apply Kd.R_drewN | apply Kd.R_drew)); exact HO309.out))) (below_size (by repeat (first | (with_reducible first | exact HB.out | apply below_alloc | apply pw_below_drewN | apply below_drew1) | exact HB.out)))); have n6_ := Aside0.mk (Kd.C_below (by first | (with_reducible exact HR305_0.out) | (with_reducible exact Kd.C_drewN HR305_0.out _) | (with_reducible exact Kd.C_drew HR305_0.out) | (with_reducible exact Kd.C_alloc HR305_0.out _) | repeat (first | (with_reducible exact HR305_0.out) | (with_reducible refine Kd.C_alloc ?_ _) | (with_reducible refine Kd.C_drewN ?_ _) | (with_reducible refine Kd.C_drew ?_) | exact HR305_0.out)) hb); have n7_ := Aside0.mk (below_step (by repeat (first | (with_reducible first | exact HB.out | apply below_alloc | apply pw_below_drewN | apply below_drew1) | exact HB.out)) hb); clear HO_7; clear HO_13; clear HO_86; clear HL305_0; clear HO309; clear HR305_0; clear HB; have HO_7 := n0_; have HO_13 := n1_; have HO_86 := n2_; have HL305_0 := n3_; have HO309 := n4_; have HO313 := n5_; have HR305_0 := n6_; have HB := n7_; clear n0_ n1_ n2_ n3_ n4_ n5_ n6_ n7_; (try clear hb); (try clear hb2); (try clear hk); (try clear hi); (try clear ho0); obtain ⟨Ao50, co50, eo50⟩ := Kd.R_slice HO313.out; subst eo50) | ((with_reducible refine gate_callee (f := 40) rfl ?_); refine goesL_ (some 106) rfl rfl Try.func40 (by kernel_rfl) rfl #[.int .i64 t289, .slice Ao50 t310.length co50] rfl (by (try simp only [List.map_toArray, List.map_cons, List.map_nil]); first | done | rfl | (simp only [List.length_drop, List.length_take]; rfl)) ?_; (with_reducible refine (impl_CombinationRank.calls k3 t289 _ _ t310 t314 true _ ?side1 ?side2 A34.out).mono ?_); (case side1 => repeat (first | exact (Kd.R_reads' HO313.out).2.2 | (with_reducible refine Kd.C_alloc ?_ _) | (with_reducible refine Kd.C_drewN ?_ _) | (with_reducible refine Kd.C_drew ?_))); (case side2 => exact (Kd.R_reads' HO313.out).2.1); rintro e w' ⟨rfl, ⟨nd, rfl⟩⟩; refine ⟨_, rfl, ?_⟩; have p316 : 0 ≤ ((ji37) : Int) := of_decide_eq_true (by first | (with_reducible assumption) | assumption); have q316 : (ji37) < (t291.length : Int) := of_decide_eq_true (by first | (with_reducible assumption) | assumption); obtain ⟨ad316, A316_0, c316_0, e316, hx316_0, hl316_0, hi316_0⟩ := at_L1 (Kd.S_reads' HO_7.out).2.2 (ji37) p316 q316; obtain rfl : ad305 = ad316 := (by injection e316); obtain ⟨ce316, hce316, hMe316, hcc316⟩ := Kd.S_get HO_7.out [] (ji37) p316 (by first | exact q316 | exact of_decide_eq_true (by first | (with_reducible assumption) | assumption) | (have e_ := (Kd.S_reads' HO_7.out).1; omega)); obtain ⟨ve316_0, rfl, ge316_0⟩ := hMe316; have hv316_0 := hcc316 0 _ rfl; rw [Nat.add_zero, show ((Kd.slice 3 (Kd.int .i64))).sz = 1 from rfl, Nat.mul_one] at hv316_0; replace hv316_0 := Option.some.inj (hv316_0.symm.trans hx316_0); rw [hv316_0] at ge316_0; have HL316_0 := Aside0.mk (show Kd.R (Kd.int .i64) 3 _ _ _ _ (rd_L1 t291 (ji37)) from ge316_0); clear hv316_0 ge316_0; clear hcc316 hce316; have HR316_0 := Aside0.mk hi316_0; have HC316_0 := Aside0.mk hl316_0; clear hi316_0 hl316_0; replace p316 := eq_true p316; replace q316 := eq_true q316; obtain ⟨Ao51, co51, eo51⟩ := Kd.R_slice HO309.out; subst eo51) | (go_at_call 41; (with_reducible refine (laws_uSame.calls k3 _ _ t306 _ _ (rd_L1 t291 (ji37)) true _ ?side1 ?side2 ?side3 ?side4 A40.out).mono ?_); (case side1 => repeat (first | exact (Kd.R_reads' HO309.out).2.2 | (with_reducible refine Kd.C_alloc ?_ _) | (with_reducible refine Kd.C_drewN ?_ _) | (with_reducible refine Kd.C_drew ?_))); (case side2 => exact (Kd.R_reads' HO309.out).2.1); (case side3 => repeat (first | exact (by repeat (first | (with_reducible exact HR316_0.out) | (with_reducible refine Kd.C_alloc ?_ _) | (with_reducible refine Kd.C_drewN ?_ _) | (with_reducible refine Kd.C_drew ?_) | exact HR316_0.out)) | (with_reducible refine Kd.C_alloc ?_ _) | (with_reducible refine Kd.C_drewN ?_ _) | (with_reducible refine Kd.C_drew ?_))); (case side4 => exact HC316_0.out); rintro e w' ⟨rfl, ⟨nd, rfl⟩⟩; obtain ⟨Ao52, co52, eo52⟩ := Kd.R_slice HO_13.out; subst eo52; have p318 : 0 ≤ (t314 : Int) := of_decide_eq_true (by first | (with_reducible assumption) | assumption); have q318 : t314 < (x13_3.length : Int) := of_decide_eq_true (by first | (with_reducible assumption) | assumption); obtain ⟨ad318, e318, hx318_0⟩ := Kd.at_bool (Kd.R_reads' HO_13.out).2.2 t314 p318 q318; (try rw [← Nbq46.out] at hx318_0); cases e318; replace p318 := eq_true p318; replace q318 := eq_true q318))
                                                      go_ret
                                                      exact ⟨by first | rfl | (simp [errW_none, errW_some] <;> rfl) | (simp only [← hji37]; first | rfl | (simp [errW_none, errW_some] <;> rfl)) | (simp [*, errW_none, errW_some] <;> rfl), by repeat (first | (with_reducible first | exact HB.out | apply below_alloc | apply pw_below_drewN | apply below_drew1) | exact HB.out)⟩
                                                    · replace c47 := Bool.eq_false_iff.mpr c47
                                                      subst c47
                                                      have H1 : (laws_FnCoolLists.l0 k3 l1 t289 t291 t300 (x13_3.set (t314 : Int).toNat true) t291 (t291.length : Int) (wrap64 (x88_3 + 1))) = some r := by rw [if_neg (show ¬ (false = true) by decide)] at H; exact H
                                                      clear H
                                                      have H := H1
                                                      clear H1
                                                      obtain ⟨y319, hy319⟩ : ∃ y_ : List Bool, y_ = (x13_3.set (t314 : Int).toNat true) := ⟨_, rfl⟩
                                                      replace H : (laws_FnCoolLists.l0 k3 l1 t289 t291 t300 y319 t291 (t291.length : Int) (wrap64 (x88_3 + 1))) = some r := by first | (rw [hy319]; with_reducible exact H) | (have H2_ := (Option.bind_some _ _).symm.trans H; rw [hy319]; with_reducible exact H2_) | (have H2_ := (Option.bind_some _ _).symm.trans H; with_reducible exact H2_) | with_reducible exact H | (rw [hy319]; exact H) | exact H
                                                      have Ny319 := Aside0.mk hy319
                                                      clear hy319
                                                      have H' := Aside0.mk H
                                                      clear H
                                                      have p305 : 0 ≤ (x88_3 : Int) := of_decide_eq_true (by first | (with_reducible assumption) | assumption)
                                                      have q305 : x88_3 < (t291.length : Int) := of_decide_eq_true (by first | (with_reducible assumption) | assumption)
                                                      obtain ⟨ad305, A305_0, c305_0, e305, hx305_0, hl305_0, hi305_0⟩ := at_L1 (Kd.S_reads' HO_86.out).2.2 x88_3 p305 q305
                                                      cases e305
                                                      obtain ⟨ce305, hce305, hMe305, hcc305⟩ := Kd.S_get HO_86.out [] x88_3 p305 (by first | exact q305 | exact of_decide_eq_true (by first | (with_reducible assumption) | assumption) | (have e_ := (Kd.S_reads' HO_86.out).1; omega))
                                                      obtain ⟨ve305_0, rfl, ge305_0⟩ := hMe305
                                                      have hv305_0 := hcc305 0 _ rfl
                                                      rw [Nat.add_zero, show ((Kd.slice 3 (Kd.int .i64))).sz = 1 from rfl, Nat.mul_one] at hv305_0
                                                      replace hv305_0 := Option.some.inj (hv305_0.symm.trans hx305_0)
                                                      rw [hv305_0] at ge305_0
                                                      have HL305_0 := Aside0.mk (show Kd.R (Kd.int .i64) 3 _ _ _ _ (rd_L1 t291 x88_3) from ge305_0)
                                                      clear hv305_0 ge305_0
                                                      clear hcc305 hce305
                                                      have HR305_0 := Aside0.mk hi305_0
                                                      have HC305_0 := Aside0.mk hl305_0
                                                      clear hi305_0 hl305_0
                                                      replace p305 := eq_true p305
                                                      replace q305 := eq_true q305
                                                      go_wp2_with (first | ((with_reducible refine gate_callee (f := 38) rfl ?_); refine goesL_ (some 95) rfl rfl Try.func38 (by kernel_rfl) rfl #[.slice A305_0 (rd_L1 t291 x88_3).length c305_0] rfl (by (try simp only [List.map_toArray, List.map_cons, List.map_nil]); first | done | rfl | (simp only [List.length_drop, List.length_take]; rfl)) ?_; (with_reducible refine (impl_NextCool.calls k3 _ _ (rd_L1 t291 x88_3) t306 true _ ?side1 ?side2 A32.out).mono ?_); (case side1 => repeat (first | exact (by repeat (first | (with_reducible exact HR305_0.out) | (with_reducible refine Kd.C_alloc ?_ _) | (with_reducible refine Kd.C_drewN ?_ _) | (with_reducible refine Kd.C_drew ?_) | exact HR305_0.out)) | (with_reducible refine Kd.C_alloc ?_ _) | (with_reducible refine Kd.C_drewN ?_ _) | (with_reducible refine Kd.C_drew ?_))); (case side2 => exact HC305_0.out); rintro e w54 ⟨v308, rfl, ho0, hb⟩; refine ⟨_, rfl, ?_⟩; have n0_ := Aside0.mk (Kd.S_elder' (by (with_reducible repeat (first | apply Kd.S_alloc | apply Kd.S_drewN | apply Kd.S_drew)); exact HO_7.out) (Kd.R_base ho0) hb); have n1_ := Aside0.mk (Kd.R_below (by (with_reducible repeat (first | apply Kd.R_alloc | apply Kd.R_drewN | apply Kd.R_drew)); exact HO_13.out) hb); have n2_ := Aside0.mk (Kd.S_elder' (by (with_reducible repeat (first | apply Kd.S_alloc | apply Kd.S_drewN | apply Kd.S_drew)); exact HO_86.out) (Kd.R_base ho0) hb); have n3_ := Aside0.mk (Kd.R_elder' (by (with_reducible repeat (first | apply Kd.R_alloc | apply Kd.R_drewN | apply Kd.R_drew)); exact HL305_0.out) (Kd.R_base ho0) hb); have n4_ := Aside0.mk (Kd.R_lower (Kd.R_new' ho0 (Kd.R_lt (by (with_reducible repeat (first | apply Kd.R_alloc | apply Kd.R_drewN | apply Kd.R_drew)); exact HL305_0.out))) (below_size (by repeat (first | (with_reducible first | exact HB.out | apply below_alloc | apply pw_below_drewN | apply below_drew1) | exact HB.out)))); have n5_ := Aside0.mk (Kd.C_below (by first | (with_reducible exact HR305_0.out) | (with_reducible exact Kd.C_drewN HR305_0.out _) | (with_reducible exact Kd.C_drew HR305_0.out) | (with_reducible exact Kd.C_alloc HR305_0.out _) | repeat (first | (with_reducible exact HR305_0.out) | (with_reducible refine Kd.C_alloc ?_ _) | (with_reducible refine Kd.C_drewN ?_ _) | (with_reducible refine Kd.C_drew ?_) | exact HR305_0.out)) hb); have n6_ := Aside0.mk (below_step (by repeat (first | (with_reducible first | exact HB.out | apply below_alloc | apply pw_below_drewN | apply below_drew1) | exact HB.out)) hb); clear HO_7; clear HO_13; clear HO_86; clear HL305_0; clear HR305_0; clear HB; have HO_7 := n0_; have HO_13 := n1_; have HO_86 := n2_; have HL305_0 := n3_; have HO309 := n4_; have HR305_0 := n5_; have HB := n6_; clear n0_ n1_ n2_ n3_ n4_ n5_ n6_; (try clear hb); (try clear hb2); (try clear hk); (try clear hi); (try clear ho0)) | ((with_reducible refine gate_callee (f := 39) rfl ?_); refine goesL_ (some 100) rfl rfl Try.func39 (by kernel_rfl) rfl #[.slice A305_0 (rd_L1 t291 x88_3).length c305_0] rfl (by (try simp only [List.map_toArray, List.map_cons, List.map_nil]); first | done | rfl | (simp only [List.length_drop, List.length_take]; rfl)) ?_; (with_reducible refine (impl_FromBits.calls k3 _ _ (rd_L1 t291 x88_3) t310 true _ ?side1 ?side2 A33.out).mono ?_); (case side1 => repeat (first | exact (by repeat (first | (with_reducible exact HR305_0.out) | (with_reducible refine Kd.C_alloc ?_ _) | (with_reducible refine Kd.C_drewN ?_ _) | (with_reducible refine Kd.C_drew ?_) | exact HR305_0.out)) | (with_reducible refine Kd.C_alloc ?_ _) | (with_reducible refine Kd.C_drewN ?_ _) | (with_reducible refine Kd.C_drew ?_))); (case side2 => exact HC305_0.out); rintro e w55 ⟨v312, rfl, ho0, hb⟩; refine ⟨_, rfl, ?_⟩; have n0_ := Aside0.mk (Kd.S_elder' (by (with_reducible repeat (first | apply Kd.S_alloc | apply Kd.S_drewN | apply Kd.S_drew)); exact HO_7.out) (Kd.R_base ho0) hb); have n1_ := Aside0.mk (Kd.R_below (by (with_reducible repeat (first | apply Kd.R_alloc | apply Kd.R_drewN | apply Kd.R_drew)); exact HO_13.out) hb); have n2_ := Aside0.mk (Kd.S_elder' (by (with_reducible repeat (first | apply Kd.S_alloc | apply Kd.S_drewN | apply Kd.S_drew)); exact HO_86.out) (Kd.R_base ho0) hb); have n3_ := Aside0.mk (Kd.R_elder' (by (with_reducible repeat (first | apply Kd.R_alloc | apply Kd.R_drewN | apply Kd.R_drew)); exact HL305_0.out) (Kd.R_base ho0) hb); have n4_ := Aside0.mk (Kd.R_elder' (by (with_reducible repeat (first | apply Kd.R_alloc | apply Kd.R_drewN | apply Kd.R_drew)); exact HO309.out) (Kd.R_base ho0) hb); have n5_ := Aside0.mk (Kd.R_lower (Kd.R_new' (Kd.R_new' ho0 (Kd.R_lt (by (with_reducible repeat (first | apply Kd.R_alloc | apply Kd.R_drewN | apply Kd.R_drew)); exact HL305_0.out))) (Kd.R_lt (by (with_reducible repeat (first | apply Kd.R_alloc | apply Kd.R_drewN | apply Kd.R_drew)); exact HO309.out))) (below_size (by repeat (first | (with_reducible first | exact HB.out | apply below_alloc | apply pw_below_drewN | apply below_drew1) | exact HB.out)))); have n6_ := Aside0.mk (Kd.C_below (by first | (with_reducible exact HR305_0.out) | (with_reducible exact Kd.C_drewN HR305_0.out _) | (with_reducible exact Kd.C_drew HR305_0.out) | (with_reducible exact Kd.C_alloc HR305_0.out _) | repeat (first | (with_reducible exact HR305_0.out) | (with_reducible refine Kd.C_alloc ?_ _) | (with_reducible refine Kd.C_drewN ?_ _) | (with_reducible refine Kd.C_drew ?_) | exact HR305_0.out)) hb); have n7_ := Aside0.mk (below_step (by repeat (first | (with_reducible first | exact HB.out | apply below_alloc | apply pw_below_drewN | apply below_drew1) | exact HB.out)) hb); clear HO_7; clear HO_13; clear HO_86; clear HL305_0; clear HO309; clear HR305_0; clear HB; have HO_7 := n0_; have HO_13 := n1_; have HO_86 := n2_; have HL305_0 := n3_; have HO309 := n4_; have HO313 := n5_; have HR305_0 := n6_; have HB := n7_; clear n0_ n1_ n2_ n3_ n4_ n5_ n6_ n7_; (try clear hb); (try clear hb2); (try clear hk); (try clear hi); (try clear ho0); obtain ⟨Ao56, co56, eo56⟩ := Kd.R_slice HO313.out; subst eo56) | ((with_reducible refine gate_callee (f := 40) rfl ?_); refine goesL_ (some 106) rfl rfl Try.func40 (by kernel_rfl) rfl #[.int .i64 t289, .slice Ao56 t310.length co56] rfl (by (try simp only [List.map_toArray, List.map_cons, List.map_nil]); first | done | rfl | (simp only [List.length_drop, List.length_take]; rfl)) ?_; (with_reducible refine (impl_CombinationRank.calls k3 t289 _ _ t310 t314 true _ ?side1 ?side2 A34.out).mono ?_); (case side1 => repeat (first | exact (Kd.R_reads' HO313.out).2.2 | (with_reducible refine Kd.C_alloc ?_ _) | (with_reducible refine Kd.C_drewN ?_ _) | (with_reducible refine Kd.C_drew ?_))); (case side2 => exact (Kd.R_reads' HO313.out).2.1); rintro e w' ⟨rfl, ⟨nd, rfl⟩⟩; refine ⟨_, rfl, ?_⟩; (try (rw [drewN_self w55]; generalize hq_ : World.drewN w55 _ = w55; have n0_ : Aside0 (Kd.R (Kd.int .i64) 3 w55 w.heap.size (fun k_ => some k_ ≠ (v308 : Value).ownBlock ∧ some k_ ≠ (.slice Ao56 t310.length co56 : Value).ownBlock ∧ some k_ ≠ (.slice (some ad305) t291.length co28 : Value).ownBlock) (.slice A305_0 (rd_L1 t291 x88_3).length c305_0) (rd_L1 t291 x88_3)) := ⟨by rw [← hq_]; exact (by (with_reducible repeat (first | apply Kd.R_alloc | apply Kd.R_drewN | apply Kd.R_drew)); exact Kd.R_mono HL305_0.out (fun k_ hk => by first | exact ⟨hk.1.2, ⟨hk.2, hk.1.1.2⟩⟩ | (and_intros <;> first | exact hk.1 | exact hk.2 | exact hk.1.1 | exact hk.1.2 | exact hk.2.1 | exact hk.2.2 | exact hk.1.1.1 | exact hk.1.1.2 | exact hk.1.2.1 | exact hk.1.2.2 | exact hk.2.1.1 | exact hk.2.1.2 | exact hk.2.2.1 | exact hk.2.2.2 | trivial)))⟩; have n1_ : Aside0 (Kd.R (Kd.int .i64) 3 w55 w.heap.size (fun k_ => some k_ ≠ (.slice A305_0 (rd_L1 t291 x88_3).length c305_0 : Value).ownBlock ∧ some k_ ≠ (.slice Ao56 t310.length co56 : Value).ownBlock) v308 t306) := ⟨by rw [← hq_]; exact (by (with_reducible repeat (first | apply Kd.R_alloc | apply Kd.R_drewN | apply Kd.R_drew)); exact Kd.R_mono HO309.out (fun k_ hk => by first | exact ⟨hk.1.2, hk.2⟩ | (and_intros <;> first | exact hk.1 | exact hk.2 | exact hk.1.1 | exact hk.1.2 | exact hk.2.1 | exact hk.2.2 | exact hk.1.1.1 | exact hk.1.1.2 | exact hk.1.2.1 | exact hk.1.2.2 | exact hk.2.1.1 | exact hk.2.1.2 | exact hk.2.2.1 | exact hk.2.2.2 | trivial)))⟩; have n2_ : Aside0 (Kd.R (Kd.int .i64) 3 w55 w.heap.size (fun k_ => some k_ ≠ (.slice A305_0 (rd_L1 t291 x88_3).length c305_0 : Value).ownBlock ∧ some k_ ≠ (v308 : Value).ownBlock) (.slice Ao56 t310.length co56) t310) := ⟨by rw [← hq_]; exact (by (with_reducible repeat (first | apply Kd.R_alloc | apply Kd.R_drewN | apply Kd.R_drew)); exact Kd.R_mono HO313.out (fun k_ hk => by first | exact ⟨hk.1.2, hk.2⟩ | (and_intros <;> first | exact hk.1 | exact hk.2 | exact hk.1.1 | exact hk.1.2 | exact hk.2.1 | exact hk.2.2 | exact hk.1.1.1 | exact hk.1.1.2 | exact hk.1.2.1 | exact hk.1.2.2 | exact hk.2.1.1 | exact hk.2.1.2 | exact hk.2.2.1 | exact hk.2.2.2 | trivial)))⟩; have n3_ : Aside0 (Kd.R Kd.bool 4 w55 w.heap.size (fun _ => True) v303 x13_3) := ⟨by rw [← hq_]; exact (by (with_reducible repeat (first | apply Kd.R_alloc | apply Kd.R_drewN | apply Kd.R_drew)); exact HO_13.out)⟩; have n4_ : Aside0 (Kd.S (Kd.slice 3 (Kd.int .i64)) 22 w55 w.heap.size (fun k_ => some k_ ≠ (v308 : Value).ownBlock ∧ some k_ ≠ (.slice Ao56 t310.length co56 : Value).ownBlock) (.slice (some ad305) t291.length co28) t291) := ⟨by rw [← hq_]; exact (by (with_reducible repeat (first | apply Kd.S_alloc | apply Kd.S_drewN | apply Kd.S_drew)); exact Kd.S_mono HO_7.out (fun k_ hk => by first | exact ⟨hk.1.2, hk.2⟩ | (and_intros <;> first | exact hk.1 | exact hk.2 | exact hk.1.1 | exact hk.1.2 | exact hk.2.1 | exact hk.2.2 | exact hk.1.1.1 | exact hk.1.1.2 | exact hk.1.2.1 | exact hk.1.2.2 | exact hk.2.1.1 | exact hk.2.1.2 | exact hk.2.2.1 | exact hk.2.2.2 | trivial)))⟩; have n5_ : Aside0 (Kd.S (Kd.slice 3 (Kd.int .i64)) 22 w55 w.heap.size (fun k_ => some k_ ≠ (v308 : Value).ownBlock ∧ some k_ ≠ (.slice Ao56 t310.length co56 : Value).ownBlock) (.slice (some ad305) t291.length co28) t291) := ⟨by rw [← hq_]; exact (by (with_reducible repeat (first | apply Kd.S_alloc | apply Kd.S_drewN | apply Kd.S_drew)); exact Kd.S_mono HO_86.out (fun k_ hk => by first | exact ⟨hk.1.2, hk.2⟩ | (and_intros <;> first | exact hk.1 | exact hk.2 | exact hk.1.1 | exact hk.1.2 | exact hk.2.1 | exact hk.2.2 | exact hk.1.1.1 | exact hk.1.1.2 | exact hk.1.2.1 | exact hk.1.2.2 | exact hk.2.1.1 | exact hk.2.1.2 | exact hk.2.2.1 | exact hk.2.2.2 | trivial)))⟩; have n6_ : Aside0 (Below w.heap.size w w55) := ⟨by rw [← hq_]; exact (by repeat (first | (with_reducible first | exact HB.out | apply below_alloc | apply pw_below_drewN | apply below_drew1) | exact HB.out))⟩; have n7_ : Aside0 (Kd.C (Kd.int .i64) w55 A305_0 (rd_L1 t291 x88_3).length (rd_L1 t291 x88_3)) := ⟨by rw [← hq_]; exact (by repeat (first | (with_reducible exact HR305_0.out) | (with_reducible refine Kd.C_alloc ?_ _) | (with_reducible refine Kd.C_drewN ?_ _) | (with_reducible refine Kd.C_drew ?_) | exact HR305_0.out))⟩; clear HL305_0 HO309 HO313 HO_13 HO_7 HO_86 HB HR305_0 hq_; have HL305_0 := n0_; have HO309 := n1_; have HO313 := n2_; have HO_13 := n3_; have HO_7 := n4_; have HO_86 := n5_; have HB := n6_; have HR305_0 := n7_; clear n0_ n1_ n2_ n3_ n4_ n5_ n6_ n7_)); have p316 : 0 ≤ ((ji37) : Int) := of_decide_eq_true (by first | (with_reducible assumption) | assumption); have q316 : (ji37) < (t291.length : Int) := of_decide_eq_true (by first | (with_reducible assumption) | assumption); obtain ⟨ad316, A316_0, c316_0, e316, hx316_0, hl316_0, hi316_0⟩ := at_L1 (Kd.S_reads' HO_7.out).2.2 (ji37) p316 q316; obtain rfl : ad305 = ad316 := (by injection e316); obtain ⟨ce316, hce316, hMe316, hcc316⟩ := Kd.S_get HO_7.out [] (ji37) p316 (by first | exact q316 | exact of_decide_eq_true (by first | (with_reducible assumption) | assumption) | (have e_ := (Kd.S_reads' HO_7.out).1; omega)); obtain ⟨ve316_0, rfl, ge316_0⟩ := hMe316; have hv316_0 := hcc316 0 _ rfl; rw [Nat.add_zero, show ((Kd.slice 3 (Kd.int .i64))).sz = 1 from rfl, Nat.mul_one] at hv316_0; replace hv316_0 := Option.some.inj (hv316_0.symm.trans hx316_0); rw [hv316_0] at ge316_0; have HL316_0 := Aside0.mk (show Kd.R (Kd.int .i64) 3 _ _ _ _ (rd_L1 t291 (ji37)) from ge316_0); clear hv316_0 ge316_0; clear hcc316 hce316; have HR316_0 := Aside0.mk hi316_0; have HC316_0 := Aside0.mk hl316_0; clear hi316_0 hl316_0; replace p316 := eq_true p316; replace q316 := eq_true q316; obtain ⟨Ao57, co57, eo57⟩ := Kd.R_slice HO309.out; subst eo57) | (go_at_call 41; (with_reducible refine (laws_uSame.calls k3 _ _ t306 _ _ (rd_L1 t291 (ji37)) true _ ?side1 ?side2 ?side3 ?side4 A40.out).mono ?_); (case side1 => repeat (first | exact (Kd.R_reads' HO309.out).2.2 | (with_reducible refine Kd.C_alloc ?_ _) | (with_reducible refine Kd.C_drewN ?_ _) | (with_reducible refine Kd.C_drew ?_))); (case side2 => exact (Kd.R_reads' HO309.out).2.1); (case side3 => repeat (first | exact (by repeat (first | (with_reducible exact HR316_0.out) | (with_reducible refine Kd.C_alloc ?_ _) | (with_reducible refine Kd.C_drewN ?_ _) | (with_reducible refine Kd.C_drew ?_) | exact HR316_0.out)) | (with_reducible refine Kd.C_alloc ?_ _) | (with_reducible refine Kd.C_drewN ?_ _) | (with_reducible refine Kd.C_drew ?_))); (case side4 => exact HC316_0.out); rintro e w' ⟨rfl, ⟨nd, rfl⟩⟩; (try (rw [drewN_self w55]; generalize hq_ : World.drewN w55 _ = w55; have n0_ : Aside0 (Kd.R (Kd.int .i64) 3 w55 w.heap.size (fun k_ => some k_ ≠ (.slice Ao57 t306.length co57 : Value).ownBlock ∧ some k_ ≠ (.slice Ao56 t310.length co56 : Value).ownBlock ∧ some k_ ≠ (.slice (some ad305) t291.length co28 : Value).ownBlock) (.slice A305_0 (rd_L1 t291 x88_3).length c305_0) (rd_L1 t291 x88_3)) := ⟨by rw [← hq_]; exact (by (with_reducible repeat (first | apply Kd.R_alloc | apply Kd.R_drewN | apply Kd.R_drew)); exact Kd.R_mono HL305_0.out (fun k_ hk => by first | exact ⟨hk.1.2, ⟨hk.2, hk.1.1.2⟩⟩ | (and_intros <;> first | exact hk.1 | exact hk.2 | exact hk.1.1 | exact hk.1.2 | exact hk.2.1 | exact hk.2.2 | exact hk.1.1.1 | exact hk.1.1.2 | exact hk.1.2.1 | exact hk.1.2.2 | exact hk.2.1.1 | exact hk.2.1.2 | exact hk.2.2.1 | exact hk.2.2.2 | trivial)))⟩; have n1_ : Aside0 (Kd.R (Kd.int .i64) 3 w55 w.heap.size (fun k_ => some k_ ≠ (.slice Ao57 t306.length co57 : Value).ownBlock ∧ some k_ ≠ (.slice Ao56 t310.length co56 : Value).ownBlock ∧ some k_ ≠ (.slice (some ad305) t291.length co28 : Value).ownBlock) (.slice A316_0 (rd_L1 t291 (ji37)).length c316_0) (rd_L1 t291 (ji37))) := ⟨by rw [← hq_]; exact (by (with_reducible repeat (first | apply Kd.R_alloc | apply Kd.R_drewN | apply Kd.R_drew)); exact Kd.R_mono HL316_0.out (fun k_ hk => by first | exact ⟨hk.1.1.2, ⟨hk.1.2, hk.2⟩⟩ | (and_intros <;> first | exact hk.1 | exact hk.2 | exact hk.1.1 | exact hk.1.2 | exact hk.2.1 | exact hk.2.2 | exact hk.1.1.1 | exact hk.1.1.2 | exact hk.1.2.1 | exact hk.1.2.2 | exact hk.2.1.1 | exact hk.2.1.2 | exact hk.2.2.1 | exact hk.2.2.2 | trivial)))⟩; have n2_ : Aside0 (Kd.R (Kd.int .i64) 3 w55 w.heap.size (fun k_ => some k_ ≠ (.slice A305_0 (rd_L1 t291 x88_3).length c305_0 : Value).ownBlock ∧ some k_ ≠ (.slice Ao56 t310.length co56 : Value).ownBlock) (.slice Ao57 t306.length co57) t306) := ⟨by rw [← hq_]; exact (by (with_reducible repeat (first | apply Kd.R_alloc | apply Kd.R_drewN | apply Kd.R_drew)); exact Kd.R_mono HO309.out (fun k_ hk => by first | exact ⟨hk.1.2, hk.2⟩ | (and_intros <;> first | exact hk.1 | exact hk.2 | exact hk.1.1 | exact hk.1.2 | exact hk.2.1 | exact hk.2.2 | exact hk.1.1.1 | exact hk.1.1.2 | exact hk.1.2.1 | exact hk.1.2.2 | exact hk.2.1.1 | exact hk.2.1.2 | exact hk.2.2.1 | exact hk.2.2.2 | trivial)))⟩; have n3_ : Aside0 (Kd.R (Kd.int .i64) 3 w55 w.heap.size (fun k_ => some k_ ≠ (.slice A305_0 (rd_L1 t291 x88_3).length c305_0 : Value).ownBlock ∧ some k_ ≠ (.slice Ao57 t306.length co57 : Value).ownBlock) (.slice Ao56 t310.length co56) t310) := ⟨by rw [← hq_]; exact (by (with_reducible repeat (first | apply Kd.R_alloc | apply Kd.R_drewN | apply Kd.R_drew)); exact Kd.R_mono HO313.out (fun k_ hk => by first | exact ⟨hk.1.2, hk.2⟩ | (and_intros <;> first | exact hk.1 | exact hk.2 | exact hk.1.1 | exact hk.1.2 | exact hk.2.1 | exact hk.2.2 | exact hk.1.1.1 | exact hk.1.1.2 | exact hk.1.2.1 | exact hk.1.2.2 | exact hk.2.1.1 | exact hk.2.1.2 | exact hk.2.2.1 | exact hk.2.2.2 | trivial)))⟩; have n4_ : Aside0 (Kd.R Kd.bool 4 w55 w.heap.size (fun _ => True) v303 x13_3) := ⟨by rw [← hq_]; exact (by (with_reducible repeat (first | apply Kd.R_alloc | apply Kd.R_drewN | apply Kd.R_drew)); exact HO_13.out)⟩; have n5_ : Aside0 (Kd.S (Kd.slice 3 (Kd.int .i64)) 22 w55 w.heap.size (fun k_ => some k_ ≠ (.slice Ao57 t306.length co57 : Value).ownBlock ∧ some k_ ≠ (.slice Ao56 t310.length co56 : Value).ownBlock) (.slice (some ad305) t291.length co28) t291) := ⟨by rw [← hq_]; exact (by (with_reducible repeat (first | apply Kd.S_alloc | apply Kd.S_drewN | apply Kd.S_drew)); exact Kd.S_mono HO_7.out (fun k_ hk => by first | exact ⟨hk.1.2, hk.2⟩ | (and_intros <;> first | exact hk.1 | exact hk.2 | exact hk.1.1 | exact hk.1.2 | exact hk.2.1 | exact hk.2.2 | exact hk.1.1.1 | exact hk.1.1.2 | exact hk.1.2.1 | exact hk.1.2.2 | exact hk.2.1.1 | exact hk.2.1.2 | exact hk.2.2.1 | exact hk.2.2.2 | trivial)))⟩; have n6_ : Aside0 (Kd.S (Kd.slice 3 (Kd.int .i64)) 22 w55 w.heap.size (fun k_ => some k_ ≠ (.slice Ao57 t306.length co57 : Value).ownBlock ∧ some k_ ≠ (.slice Ao56 t310.length co56 : Value).ownBlock) (.slice (some ad305) t291.length co28) t291) := ⟨by rw [← hq_]; exact (by (with_reducible repeat (first | apply Kd.S_alloc | apply Kd.S_drewN | apply Kd.S_drew)); exact Kd.S_mono HO_86.out (fun k_ hk => by first | exact ⟨hk.1.2, hk.2⟩ | (and_intros <;> first | exact hk.1 | exact hk.2 | exact hk.1.1 | exact hk.1.2 | exact hk.2.1 | exact hk.2.2 | exact hk.1.1.1 | exact hk.1.1.2 | exact hk.1.2.1 | exact hk.1.2.2 | exact hk.2.1.1 | exact hk.2.1.2 | exact hk.2.2.1 | exact hk.2.2.2 | trivial)))⟩; have n7_ : Aside0 (Below w.heap.size w w55) := ⟨by rw [← hq_]; exact (by repeat (first | (with_reducible first | exact HB.out | apply below_alloc | apply pw_below_drewN | apply below_drew1) | exact HB.out))⟩; have n8_ : Aside0 (Kd.C (Kd.int .i64) w55 A305_0 (rd_L1 t291 x88_3).length (rd_L1 t291 x88_3)) := ⟨by rw [← hq_]; exact (by repeat (first | (with_reducible exact HR305_0.out) | (with_reducible refine Kd.C_alloc ?_ _) | (with_reducible refine Kd.C_drewN ?_ _) | (with_reducible refine Kd.C_drew ?_) | exact HR305_0.out))⟩; have n9_ : Aside0 (Kd.C (Kd.int .i64) w55 A316_0 (rd_L1 t291 (ji37)).length (rd_L1 t291 (ji37))) := ⟨by rw [← hq_]; exact (by repeat (first | (with_reducible exact HR316_0.out) | (with_reducible refine Kd.C_alloc ?_ _) | (with_reducible refine Kd.C_drewN ?_ _) | (with_reducible refine Kd.C_drew ?_) | exact HR316_0.out))⟩; clear HL305_0 HL316_0 HO309 HO313 HO_13 HO_7 HO_86 HB HR305_0 HR316_0 hq_; have HL305_0 := n0_; have HL316_0 := n1_; have HO309 := n2_; have HO313 := n3_; have HO_13 := n4_; have HO_7 := n5_; have HO_86 := n6_; have HB := n7_; have HR305_0 := n8_; have HR316_0 := n9_; clear n0_ n1_ n2_ n3_ n4_ n5_ n6_ n7_ n8_ n9_)); obtain ⟨Ao58, co58, eo58⟩ := Kd.R_slice HO_13.out; subst eo58; have p318 : 0 ≤ (t314 : Int) := of_decide_eq_true (by first | (with_reducible assumption) | assumption); have q318 : t314 < (x13_3.length : Int) := of_decide_eq_true (by first | (with_reducible assumption) | assumption); obtain ⟨ad318, e318, hx318_0⟩ := Kd.at_bool (Kd.R_reads' HO_13.out).2.2 t314 p318 q318; (try rw [← Nbq46.out] at hx318_0); cases e318; replace p318 := eq_true p318; replace q318 := eq_true q318; have p53 : 0 ≤ (t314 : Int) := of_decide_eq_true (by first | (with_reducible assumption) | assumption); have q53 : (t314 : Int) < ((x13_3.length : Int) : Int) := of_decide_eq_true (by first | (with_reducible assumption) | assumption); obtain ⟨go53, co53, eo53, gb53, gl53, cl53, HG53⟩ := Kd.R_form HO_13.out (by omega); (first | cases eo53 | (injection eo53 with ea_ en_ ec_; (first | subst ea_ | (injection ea_ with ea_; subst ea_)); subst ec_; clear en_)); have GB53 := Aside0.mk gb53; have GG53 := Aside0.mk HG53; clear gb53 gl53 HG53; (first | simp only [add_plain] at hx318_0 | skip); obtain ⟨hx53_0, hf53_0⟩ := Kd.R_celln false HO_13.out (t314 : Int) p53 q53; replace p53 := eq_true p53; replace q53 := eq_true q53; obtain ⟨hy59_, hz59_⟩ := Kd.R_celln false HO_13.out (t314 : Int) (of_decide_eq_true (by first | (with_reducible assumption) | assumption)) (of_decide_eq_true (by first | (with_reducible assumption) | assumption)); have HP59 := Kd.R_putg HO_13.out (t314 : Int) true) | ((with_reducible refine gate_store (t := 4) (p := 139) rfl ?_); refine store_event (t := 4) (p := 139) (v := ?vo_w60) (w1 := (w55.setCell ⟨go53, (t314 : Int).toNat, none⟩ (.bool true))) ?hg ?ho ?hn ?hr ?_; (case ho => rfl); (case hg => rfl); (case hn => rfl); (case hr => first | (go_simp; done) | (go_simp; rfl)); intro w60 hw; have hg : w55.grownBy w60 (some go53) := (by rw [hw]; exact HP59.2); have hp_ : Kd.R Kd.bool 4 w60 w.heap.size (fun _ => True) (.slice (some ⟨go53, 0, none⟩) x13_3.length co58) y319 := (by rw [hw, Ny319.out]; exact HP59.1); clear HP59; have n0_ := Aside0.mk (Kd.S_over' (v := (.slice (some ⟨go53, 0, none⟩) x13_3.length co58)) (by (with_reducible repeat (first | apply Kd.S_alloc | apply Kd.S_drewN | apply Kd.S_drew)); exact HO_7.out) (Kd.R_typed HO_13.out) (by decide) hg); have n1_ := Aside0.mk (hp_); have n2_ := Aside0.mk (Kd.S_over' (v := (.slice (some ⟨go53, 0, none⟩) x13_3.length co58)) (by (with_reducible repeat (first | apply Kd.S_alloc | apply Kd.S_drewN | apply Kd.S_drew)); exact HO_86.out) (Kd.R_typed HO_13.out) (by decide) hg); have n3_ := Aside0.mk (Kd.R_over' (v := (.slice (some ⟨go53, 0, none⟩) x13_3.length co58)) (by (with_reducible repeat (first | apply Kd.R_alloc | apply Kd.R_drewN | apply Kd.R_drew)); exact HL305_0.out) (Kd.R_typed HO_13.out) (by decide) hg); have n4_ := Aside0.mk (Kd.R_over' (v := (.slice (some ⟨go53, 0, none⟩) x13_3.length co58)) (by (with_reducible repeat (first | apply Kd.R_alloc | apply Kd.R_drewN | apply Kd.R_drew)); exact HO309.out) (Kd.R_typed HO_13.out) (by decide) hg); have n5_ := Aside0.mk (Kd.R_over' (v := (.slice (some ⟨go53, 0, none⟩) x13_3.length co58)) (by (with_reducible repeat (first | apply Kd.R_alloc | apply Kd.R_drewN | apply Kd.R_drew)); exact HO313.out) (Kd.R_typed HO_13.out) (by decide) hg); have n6_ := Aside0.mk (Kd.R_over' (v := (.slice (some ⟨go53, 0, none⟩) x13_3.length co58)) (by (with_reducible repeat (first | apply Kd.R_alloc | apply Kd.R_drewN | apply Kd.R_drew)); exact HL316_0.out) (Kd.R_typed HO_13.out) (by decide) hg); have n7_ := Aside0.mk ((by rw [hw]; exact below_set (HB.out) GB53.out : Below w.heap.size w w60)); clear HO_7; clear HO_13; clear HO_86; clear HL305_0; clear HO309; clear HO313; clear HL316_0; clear HB; have HO_7 := n0_; have HO_13 := n1_; have HO_86 := n2_; have HL305_0 := n3_; have HO309 := n4_; have HO313 := n5_; have HL316_0 := n6_; have HB := n7_; clear n0_ n1_ n2_ n3_ n4_ n5_ n6_ n7_; clear hg hw hp_))
                                                      go_roundg k3
                                                      case measure => have := HJ7.out; have := HJ19.out; have := HK3.out; omega
                                                      case rel => exact ⟨(y319), (wrap64 (x88_3 + 1)), (by first | rfl | (simp; done) | (simp [*]; done)), H', ⟨by have := HJ7.out; have := HJ19.out; have := HK3.out; omega⟩, ⟨by (with_reducible repeat (first | apply Kd.S_alloc | apply Kd.S_drewN | apply Kd.S_drew)); exact Kd.S_mono HO_7.out (fun _ hk => trivial)⟩, ⟨by (with_reducible repeat (first | apply Kd.R_alloc | apply Kd.R_drewN | apply Kd.R_drew)); exact HO_13.out⟩, ⟨by (with_reducible repeat (first | apply Kd.S_alloc | apply Kd.S_drewN | apply Kd.S_drew)); exact Kd.S_mono HO_86.out (fun _ hk => trivial)⟩, ⟨by repeat (first | (with_reducible first | exact HB.out | apply below_alloc | apply pw_below_drewN | apply below_drew1) | exact HB.out)⟩⟩
                                                  · rw [if_neg c45] at H
                                                    exact absurd H (by simp)
                                                · rw [if_neg c44] at H
                                                  exact absurd H (by simp)
                                              · replace c43 := Bool.eq_false_iff.mpr c43
                                                subst c43
                                                have H1 : (some false) = some r := by rw [if_neg (show ¬ (false = true) by decide)] at H; exact H
                                                clear H
                                                have H := H1
                                                clear H1
                                                obtain rfl := Option.some.inj H
                                                have p305 : 0 ≤ (x88_3 : Int) := of_decide_eq_true (by first | (with_reducible assumption) | assumption)
                                                have q305 : x88_3 < (t291.length : Int) := of_decide_eq_true (by first | (with_reducible assumption) | assumption)
                                                obtain ⟨ad305, A305_0, c305_0, e305, hx305_0, hl305_0, hi305_0⟩ := at_L1 (Kd.S_reads' HO_86.out).2.2 x88_3 p305 q305
                                                cases e305
                                                obtain ⟨ce305, hce305, hMe305, hcc305⟩ := Kd.S_get HO_86.out [] x88_3 p305 (by first | exact q305 | exact of_decide_eq_true (by first | (with_reducible assumption) | assumption) | (have e_ := (Kd.S_reads' HO_86.out).1; omega))
                                                obtain ⟨ve305_0, rfl, ge305_0⟩ := hMe305
                                                have hv305_0 := hcc305 0 _ rfl
                                                rw [Nat.add_zero, show ((Kd.slice 3 (Kd.int .i64))).sz = 1 from rfl, Nat.mul_one] at hv305_0
                                                replace hv305_0 := Option.some.inj (hv305_0.symm.trans hx305_0)
                                                rw [hv305_0] at ge305_0
                                                have HL305_0 := Aside0.mk (show Kd.R (Kd.int .i64) 3 _ _ _ _ (rd_L1 t291 x88_3) from ge305_0)
                                                clear hv305_0 ge305_0
                                                clear hcc305 hce305
                                                have HR305_0 := Aside0.mk hi305_0
                                                have HC305_0 := Aside0.mk hl305_0
                                                clear hi305_0 hl305_0
                                                replace p305 := eq_true p305
                                                replace q305 := eq_true q305
                                                go_wp2_with (first | ((with_reducible refine gate_callee (f := 38) rfl ?_); refine goesL_ (some 95) rfl rfl Try.func38 (by kernel_rfl) rfl #[.slice A305_0 (rd_L1 t291 x88_3).length c305_0] rfl (by (try simp only [List.map_toArray, List.map_cons, List.map_nil]); first | done | rfl | (simp only [List.length_drop, List.length_take]; rfl)) ?_; (with_reducible refine (impl_NextCool.calls k3 _ _ (rd_L1 t291 x88_3) t306 true _ ?side1 ?side2 A32.out).mono ?_); (case side1 => repeat (first | exact (by repeat (first | (with_reducible exact HR305_0.out) | (with_reducible refine Kd.C_alloc ?_ _) | (with_reducible refine Kd.C_drewN ?_ _) | (with_reducible refine Kd.C_drew ?_) | exact HR305_0.out)) | (with_reducible refine Kd.C_alloc ?_ _) | (with_reducible refine Kd.C_drewN ?_ _) | (with_reducible refine Kd.C_drew ?_))); (case side2 => exact HC305_0.out); rintro e w61 ⟨v308, rfl, ho0, hb⟩; refine ⟨_, rfl, ?_⟩; have n0_ := Aside0.mk (Kd.S_elder' (by (with_reducible repeat (first | apply Kd.S_alloc | apply Kd.S_drewN | apply Kd.S_drew)); exact HO_7.out) (Kd.R_base ho0) hb); have n1_ := Aside0.mk (Kd.R_below (by (with_reducible repeat (first | apply Kd.R_alloc | apply Kd.R_drewN | apply Kd.R_drew)); exact HO_13.out) hb); have n2_ := Aside0.mk (Kd.S_elder' (by (with_reducible repeat (first | apply Kd.S_alloc | apply Kd.S_drewN | apply Kd.S_drew)); exact HO_86.out) (Kd.R_base ho0) hb); have n3_ := Aside0.mk (Kd.R_elder' (by (with_reducible repeat (first | apply Kd.R_alloc | apply Kd.R_drewN | apply Kd.R_drew)); exact HL305_0.out) (Kd.R_base ho0) hb); have n4_ := Aside0.mk (Kd.R_lower (Kd.R_new' ho0 (Kd.R_lt (by (with_reducible repeat (first | apply Kd.R_alloc | apply Kd.R_drewN | apply Kd.R_drew)); exact HL305_0.out))) (below_size (by repeat (first | (with_reducible first | exact HB.out | apply below_alloc | apply pw_below_drewN | apply below_drew1) | exact HB.out)))); have n5_ := Aside0.mk (Kd.C_below (by first | (with_reducible exact HR305_0.out) | (with_reducible exact Kd.C_drewN HR305_0.out _) | (with_reducible exact Kd.C_drew HR305_0.out) | (with_reducible exact Kd.C_alloc HR305_0.out _) | repeat (first | (with_reducible exact HR305_0.out) | (with_reducible refine Kd.C_alloc ?_ _) | (with_reducible refine Kd.C_drewN ?_ _) | (with_reducible refine Kd.C_drew ?_) | exact HR305_0.out)) hb); have n6_ := Aside0.mk (below_step (by repeat (first | (with_reducible first | exact HB.out | apply below_alloc | apply pw_below_drewN | apply below_drew1) | exact HB.out)) hb); clear HO_7; clear HO_13; clear HO_86; clear HL305_0; clear HR305_0; clear HB; have HO_7 := n0_; have HO_13 := n1_; have HO_86 := n2_; have HL305_0 := n3_; have HO309 := n4_; have HR305_0 := n5_; have HB := n6_; clear n0_ n1_ n2_ n3_ n4_ n5_ n6_; (try clear hb); (try clear hb2); (try clear hk); (try clear hi); (try clear ho0)) | ((with_reducible refine gate_callee (f := 39) rfl ?_); refine goesL_ (some 100) rfl rfl Try.func39 (by kernel_rfl) rfl #[.slice A305_0 (rd_L1 t291 x88_3).length c305_0] rfl (by (try simp only [List.map_toArray, List.map_cons, List.map_nil]); first | done | rfl | (simp only [List.length_drop, List.length_take]; rfl)) ?_; (with_reducible refine (impl_FromBits.calls k3 _ _ (rd_L1 t291 x88_3) t310 true _ ?side1 ?side2 A33.out).mono ?_); (case side1 => repeat (first | exact (by repeat (first | (with_reducible exact HR305_0.out) | (with_reducible refine Kd.C_alloc ?_ _) | (with_reducible refine Kd.C_drewN ?_ _) | (with_reducible refine Kd.C_drew ?_) | exact HR305_0.out)) | (with_reducible refine Kd.C_alloc ?_ _) | (with_reducible refine Kd.C_drewN ?_ _) | (with_reducible refine Kd.C_drew ?_))); (case side2 => exact HC305_0.out); rintro e w62 ⟨v312, rfl, ho0, hb⟩; refine ⟨_, rfl, ?_⟩; have n0_ := Aside0.mk (Kd.S_elder' (by (with_reducible repeat (first | apply Kd.S_alloc | apply Kd.S_drewN | apply Kd.S_drew)); exact HO_7.out) (Kd.R_base ho0) hb); have n1_ := Aside0.mk (Kd.R_below (by (with_reducible repeat (first | apply Kd.R_alloc | apply Kd.R_drewN | apply Kd.R_drew)); exact HO_13.out) hb); have n2_ := Aside0.mk (Kd.S_elder' (by (with_reducible repeat (first | apply Kd.S_alloc | apply Kd.S_drewN | apply Kd.S_drew)); exact HO_86.out) (Kd.R_base ho0) hb); have n3_ := Aside0.mk (Kd.R_elder' (by (with_reducible repeat (first | apply Kd.R_alloc | apply Kd.R_drewN | apply Kd.R_drew)); exact HL305_0.out) (Kd.R_base ho0) hb); have n4_ := Aside0.mk (Kd.R_elder' (by (with_reducible repeat (first | apply Kd.R_alloc | apply Kd.R_drewN | apply Kd.R_drew)); exact HO309.out) (Kd.R_base ho0) hb); have n5_ := Aside0.mk (Kd.R_lower (Kd.R_new' (Kd.R_new' ho0 (Kd.R_lt (by (with_reducible repeat (first | apply Kd.R_alloc | apply Kd.R_drewN | apply Kd.R_drew)); exact HL305_0.out))) (Kd.R_lt (by (with_reducible repeat (first | apply Kd.R_alloc | apply Kd.R_drewN | apply Kd.R_drew)); exact HO309.out))) (below_size (by repeat (first | (with_reducible first | exact HB.out | apply below_alloc | apply pw_below_drewN | apply below_drew1) | exact HB.out)))); have n6_ := Aside0.mk (Kd.C_below (by first | (with_reducible exact HR305_0.out) | (with_reducible exact Kd.C_drewN HR305_0.out _) | (with_reducible exact Kd.C_drew HR305_0.out) | (with_reducible exact Kd.C_alloc HR305_0.out _) | repeat (first | (with_reducible exact HR305_0.out) | (with_reducible refine Kd.C_alloc ?_ _) | (with_reducible refine Kd.C_drewN ?_ _) | (with_reducible refine Kd.C_drew ?_) | exact HR305_0.out)) hb); have n7_ := Aside0.mk (below_step (by repeat (first | (with_reducible first | exact HB.out | apply below_alloc | apply pw_below_drewN | apply below_drew1) | exact HB.out)) hb); clear HO_7; clear HO_13; clear HO_86; clear HL305_0; clear HO309; clear HR305_0; clear HB; have HO_7 := n0_; have HO_13 := n1_; have HO_86 := n2_; have HL305_0 := n3_; have HO309 := n4_; have HO313 := n5_; have HR305_0 := n6_; have HB := n7_; clear n0_ n1_ n2_ n3_ n4_ n5_ n6_ n7_; (try clear hb); (try clear hb2); (try clear hk); (try clear hi); (try clear ho0); obtain ⟨Ao63, co63, eo63⟩ := Kd.R_slice HO313.out; subst eo63) | ((with_reducible refine gate_callee (f := 40) rfl ?_); refine goesL_ (some 106) rfl rfl Try.func40 (by kernel_rfl) rfl #[.int .i64 t289, .slice Ao63 t310.length co63] rfl (by (try simp only [List.map_toArray, List.map_cons, List.map_nil]); first | done | rfl | (simp only [List.length_drop, List.length_take]; rfl)) ?_; (with_reducible refine (impl_CombinationRank.calls k3 t289 _ _ t310 t314 false _ ?side1 ?side2 A34.out).mono ?_); (case side1 => repeat (first | exact (Kd.R_reads' HO313.out).2.2 | (with_reducible refine Kd.C_alloc ?_ _) | (with_reducible refine Kd.C_drewN ?_ _) | (with_reducible refine Kd.C_drew ?_))); (case side2 => exact (Kd.R_reads' HO313.out).2.1); rintro e w' ⟨rfl, ⟨nd, rfl⟩⟩; refine ⟨_, rfl, ?_⟩; have p316 : 0 ≤ ((ji37) : Int) := of_decide_eq_true (by first | (with_reducible assumption) | assumption); have q316 : (ji37) < (t291.length : Int) := of_decide_eq_true (by first | (with_reducible assumption) | assumption); obtain ⟨ad316, A316_0, c316_0, e316, hx316_0, hl316_0, hi316_0⟩ := at_L1 (Kd.S_reads' HO_7.out).2.2 (ji37) p316 q316; obtain rfl : ad305 = ad316 := (by injection e316); obtain ⟨ce316, hce316, hMe316, hcc316⟩ := Kd.S_get HO_7.out [] (ji37) p316 (by first | exact q316 | exact of_decide_eq_true (by first | (with_reducible assumption) | assumption) | (have e_ := (Kd.S_reads' HO_7.out).1; omega)); obtain ⟨ve316_0, rfl, ge316_0⟩ := hMe316; have hv316_0 := hcc316 0 _ rfl; rw [Nat.add_zero, show ((Kd.slice 3 (Kd.int .i64))).sz = 1 from rfl, Nat.mul_one] at hv316_0; replace hv316_0 := Option.some.inj (hv316_0.symm.trans hx316_0); rw [hv316_0] at ge316_0; have HL316_0 := Aside0.mk (show Kd.R (Kd.int .i64) 3 _ _ _ _ (rd_L1 t291 (ji37)) from ge316_0); clear hv316_0 ge316_0; clear hcc316 hce316; have HR316_0 := Aside0.mk hi316_0; have HC316_0 := Aside0.mk hl316_0; clear hi316_0 hl316_0; replace p316 := eq_true p316; replace q316 := eq_true q316; obtain ⟨Ao64, co64, eo64⟩ := Kd.R_slice HO309.out; subst eo64) | (go_at_call 41; (with_reducible refine (laws_uSame.calls k3 _ _ t306 _ _ (rd_L1 t291 (ji37)) true _ ?side1 ?side2 ?side3 ?side4 A40.out).mono ?_); (case side1 => repeat (first | exact (Kd.R_reads' HO309.out).2.2 | (with_reducible refine Kd.C_alloc ?_ _) | (with_reducible refine Kd.C_drewN ?_ _) | (with_reducible refine Kd.C_drew ?_))); (case side2 => exact (Kd.R_reads' HO309.out).2.1); (case side3 => repeat (first | exact (by repeat (first | (with_reducible exact HR316_0.out) | (with_reducible refine Kd.C_alloc ?_ _) | (with_reducible refine Kd.C_drewN ?_ _) | (with_reducible refine Kd.C_drew ?_) | exact HR316_0.out)) | (with_reducible refine Kd.C_alloc ?_ _) | (with_reducible refine Kd.C_drewN ?_ _) | (with_reducible refine Kd.C_drew ?_))); (case side4 => exact HC316_0.out); rintro e w' ⟨rfl, ⟨nd, rfl⟩⟩))
                                                go_ret
                                                exact ⟨by first | rfl | (simp [errW_none, errW_some] <;> rfl) | (simp only [← hji37]; first | rfl | (simp [errW_none, errW_some] <;> rfl)) | (simp [*, errW_none, errW_some] <;> rfl), by repeat (first | (with_reducible first | exact HB.out | apply below_alloc | apply pw_below_drewN | apply below_drew1) | exact HB.out)⟩
                                            · replace c42 := Bool.eq_false_iff.mpr c42
                                              subst c42
                                              have H1 : (some false) = some r := by rw [if_neg (show ¬ (false = true) by decide)] at H; exact H
                                              clear H
                                              have H := H1
                                              clear H1
                                              obtain rfl := Option.some.inj H
                                              have p305 : 0 ≤ (x88_3 : Int) := of_decide_eq_true (by first | (with_reducible assumption) | assumption)
                                              have q305 : x88_3 < (t291.length : Int) := of_decide_eq_true (by first | (with_reducible assumption) | assumption)
                                              obtain ⟨ad305, A305_0, c305_0, e305, hx305_0, hl305_0, hi305_0⟩ := at_L1 (Kd.S_reads' HO_86.out).2.2 x88_3 p305 q305
                                              cases e305
                                              obtain ⟨ce305, hce305, hMe305, hcc305⟩ := Kd.S_get HO_86.out [] x88_3 p305 (by first | exact q305 | exact of_decide_eq_true (by first | (with_reducible assumption) | assumption) | (have e_ := (Kd.S_reads' HO_86.out).1; omega))
                                              obtain ⟨ve305_0, rfl, ge305_0⟩ := hMe305
                                              have hv305_0 := hcc305 0 _ rfl
                                              rw [Nat.add_zero, show ((Kd.slice 3 (Kd.int .i64))).sz = 1 from rfl, Nat.mul_one] at hv305_0
                                              replace hv305_0 := Option.some.inj (hv305_0.symm.trans hx305_0)
                                              rw [hv305_0] at ge305_0
                                              have HL305_0 := Aside0.mk (show Kd.R (Kd.int .i64) 3 _ _ _ _ (rd_L1 t291 x88_3) from ge305_0)
                                              clear hv305_0 ge305_0
                                              clear hcc305 hce305
                                              have HR305_0 := Aside0.mk hi305_0
                                              have HC305_0 := Aside0.mk hl305_0
                                              clear hi305_0 hl305_0
                                              replace p305 := eq_true p305
                                              replace q305 := eq_true q305
                                              go_wp2_with (first | ((with_reducible refine gate_callee (f := 38) rfl ?_); refine goesL_ (some 95) rfl rfl Try.func38 (by kernel_rfl) rfl #[.slice A305_0 (rd_L1 t291 x88_3).length c305_0] rfl (by (try simp only [List.map_toArray, List.map_cons, List.map_nil]); first | done | rfl | (simp only [List.length_drop, List.length_take]; rfl)) ?_; (with_reducible refine (impl_NextCool.calls k3 _ _ (rd_L1 t291 x88_3) t306 true _ ?side1 ?side2 A32.out).mono ?_); (case side1 => repeat (first | exact (by repeat (first | (with_reducible exact HR305_0.out) | (with_reducible refine Kd.C_alloc ?_ _) | (with_reducible refine Kd.C_drewN ?_ _) | (with_reducible refine Kd.C_drew ?_) | exact HR305_0.out)) | (with_reducible refine Kd.C_alloc ?_ _) | (with_reducible refine Kd.C_drewN ?_ _) | (with_reducible refine Kd.C_drew ?_))); (case side2 => exact HC305_0.out); rintro e w65 ⟨v308, rfl, ho0, hb⟩; refine ⟨_, rfl, ?_⟩; have n0_ := Aside0.mk (Kd.S_elder' (by (with_reducible repeat (first | apply Kd.S_alloc | apply Kd.S_drewN | apply Kd.S_drew)); exact HO_7.out) (Kd.R_base ho0) hb); have n1_ := Aside0.mk (Kd.R_below (by (with_reducible repeat (first | apply Kd.R_alloc | apply Kd.R_drewN | apply Kd.R_drew)); exact HO_13.out) hb); have n2_ := Aside0.mk (Kd.S_elder' (by (with_reducible repeat (first | apply Kd.S_alloc | apply Kd.S_drewN | apply Kd.S_drew)); exact HO_86.out) (Kd.R_base ho0) hb); have n3_ := Aside0.mk (Kd.R_elder' (by (with_reducible repeat (first | apply Kd.R_alloc | apply Kd.R_drewN | apply Kd.R_drew)); exact HL305_0.out) (Kd.R_base ho0) hb); have n4_ := Aside0.mk (Kd.R_lower (Kd.R_new' ho0 (Kd.R_lt (by (with_reducible repeat (first | apply Kd.R_alloc | apply Kd.R_drewN | apply Kd.R_drew)); exact HL305_0.out))) (below_size (by repeat (first | (with_reducible first | exact HB.out | apply below_alloc | apply pw_below_drewN | apply below_drew1) | exact HB.out)))); have n5_ := Aside0.mk (Kd.C_below (by first | (with_reducible exact HR305_0.out) | (with_reducible exact Kd.C_drewN HR305_0.out _) | (with_reducible exact Kd.C_drew HR305_0.out) | (with_reducible exact Kd.C_alloc HR305_0.out _) | repeat (first | (with_reducible exact HR305_0.out) | (with_reducible refine Kd.C_alloc ?_ _) | (with_reducible refine Kd.C_drewN ?_ _) | (with_reducible refine Kd.C_drew ?_) | exact HR305_0.out)) hb); have n6_ := Aside0.mk (below_step (by repeat (first | (with_reducible first | exact HB.out | apply below_alloc | apply pw_below_drewN | apply below_drew1) | exact HB.out)) hb); clear HO_7; clear HO_13; clear HO_86; clear HL305_0; clear HR305_0; clear HB; have HO_7 := n0_; have HO_13 := n1_; have HO_86 := n2_; have HL305_0 := n3_; have HO309 := n4_; have HR305_0 := n5_; have HB := n6_; clear n0_ n1_ n2_ n3_ n4_ n5_ n6_; (try clear hb); (try clear hb2); (try clear hk); (try clear hi); (try clear ho0)) | ((with_reducible refine gate_callee (f := 39) rfl ?_); refine goesL_ (some 100) rfl rfl Try.func39 (by kernel_rfl) rfl #[.slice A305_0 (rd_L1 t291 x88_3).length c305_0] rfl (by (try simp only [List.map_toArray, List.map_cons, List.map_nil]); first | done | rfl | (simp only [List.length_drop, List.length_take]; rfl)) ?_; (with_reducible refine (impl_FromBits.calls k3 _ _ (rd_L1 t291 x88_3) t310 false _ ?side1 ?side2 A33.out).mono ?_); (case side1 => repeat (first | exact (by repeat (first | (with_reducible exact HR305_0.out) | (with_reducible refine Kd.C_alloc ?_ _) | (with_reducible refine Kd.C_drewN ?_ _) | (with_reducible refine Kd.C_drew ?_) | exact HR305_0.out)) | (with_reducible refine Kd.C_alloc ?_ _) | (with_reducible refine Kd.C_drewN ?_ _) | (with_reducible refine Kd.C_drew ?_))); (case side2 => exact HC305_0.out); rintro e w66 ⟨v312, rfl, ho0, hb⟩; refine ⟨_, rfl, ?_⟩; have n0_ := Aside0.mk (Kd.S_elder' (by (with_reducible repeat (first | apply Kd.S_alloc | apply Kd.S_drewN | apply Kd.S_drew)); exact HO_7.out) (Kd.R_base ho0) hb); have n1_ := Aside0.mk (Kd.R_below (by (with_reducible repeat (first | apply Kd.R_alloc | apply Kd.R_drewN | apply Kd.R_drew)); exact HO_13.out) hb); have n2_ := Aside0.mk (Kd.S_elder' (by (with_reducible repeat (first | apply Kd.S_alloc | apply Kd.S_drewN | apply Kd.S_drew)); exact HO_86.out) (Kd.R_base ho0) hb); have n3_ := Aside0.mk (Kd.R_elder' (by (with_reducible repeat (first | apply Kd.R_alloc | apply Kd.R_drewN | apply Kd.R_drew)); exact HL305_0.out) (Kd.R_base ho0) hb); have n4_ := Aside0.mk (Kd.R_elder' (by (with_reducible repeat (first | apply Kd.R_alloc | apply Kd.R_drewN | apply Kd.R_drew)); exact HO309.out) (Kd.R_base ho0) hb); have n5_ := Aside0.mk (Kd.R_lower (Kd.R_new' (Kd.R_new' ho0 (Kd.R_lt (by (with_reducible repeat (first | apply Kd.R_alloc | apply Kd.R_drewN | apply Kd.R_drew)); exact HL305_0.out))) (Kd.R_lt (by (with_reducible repeat (first | apply Kd.R_alloc | apply Kd.R_drewN | apply Kd.R_drew)); exact HO309.out))) (below_size (by repeat (first | (with_reducible first | exact HB.out | apply below_alloc | apply pw_below_drewN | apply below_drew1) | exact HB.out)))); have n6_ := Aside0.mk (Kd.C_below (by first | (with_reducible exact HR305_0.out) | (with_reducible exact Kd.C_drewN HR305_0.out _) | (with_reducible exact Kd.C_drew HR305_0.out) | (with_reducible exact Kd.C_alloc HR305_0.out _) | repeat (first | (with_reducible exact HR305_0.out) | (with_reducible refine Kd.C_alloc ?_ _) | (with_reducible refine Kd.C_drewN ?_ _) | (with_reducible refine Kd.C_drew ?_) | exact HR305_0.out)) hb); have n7_ := Aside0.mk (below_step (by repeat (first | (with_reducible first | exact HB.out | apply below_alloc | apply pw_below_drewN | apply below_drew1) | exact HB.out)) hb); clear HO_7; clear HO_13; clear HO_86; clear HL305_0; clear HO309; clear HR305_0; clear HB; have HO_7 := n0_; have HO_13 := n1_; have HO_86 := n2_; have HL305_0 := n3_; have HO309 := n4_; have HO313 := n5_; have HR305_0 := n6_; have HB := n7_; clear n0_ n1_ n2_ n3_ n4_ n5_ n6_ n7_; (try clear hb); (try clear hb2); (try clear hk); (try clear hi); (try clear ho0); obtain ⟨Ao67, co67, eo67⟩ := Kd.R_slice HO313.out; subst eo67) | ((with_reducible refine gate_callee (f := 40) rfl ?_); refine goesL_ (some 106) rfl rfl Try.func40 (by kernel_rfl) rfl #[.int .i64 t289, .slice Ao67 t310.length co67] rfl (by (try simp only [List.map_toArray, List.map_cons, List.map_nil]); first | done | rfl | (simp only [List.length_drop, List.length_take]; rfl)) ?_; (with_reducible refine (impl_CombinationRank.calls k3 t289 _ _ t310 t314 t315 _ ?side1 ?side2 A34.out).mono ?_); (case side1 => repeat (first | exact (Kd.R_reads' HO313.out).2.2 | (with_reducible refine Kd.C_alloc ?_ _) | (with_reducible refine Kd.C_drewN ?_ _) | (with_reducible refine Kd.C_drew ?_))); (case side2 => exact (Kd.R_reads' HO313.out).2.1); rintro e w' ⟨rfl, ⟨nd, rfl⟩⟩; refine ⟨_, rfl, ?_⟩; have p316 : 0 ≤ ((ji37) : Int) := of_decide_eq_true (by first | (with_reducible assumption) | assumption); have q316 : (ji37) < (t291.length : Int) := of_decide_eq_true (by first | (with_reducible assumption) | assumption); obtain ⟨ad316, A316_0, c316_0, e316, hx316_0, hl316_0, hi316_0⟩ := at_L1 (Kd.S_reads' HO_7.out).2.2 (ji37) p316 q316; obtain rfl : ad305 = ad316 := (by injection e316); obtain ⟨ce316, hce316, hMe316, hcc316⟩ := Kd.S_get HO_7.out [] (ji37) p316 (by first | exact q316 | exact of_decide_eq_true (by first | (with_reducible assumption) | assumption) | (have e_ := (Kd.S_reads' HO_7.out).1; omega)); obtain ⟨ve316_0, rfl, ge316_0⟩ := hMe316; have hv316_0 := hcc316 0 _ rfl; rw [Nat.add_zero, show ((Kd.slice 3 (Kd.int .i64))).sz = 1 from rfl, Nat.mul_one] at hv316_0; replace hv316_0 := Option.some.inj (hv316_0.symm.trans hx316_0); rw [hv316_0] at ge316_0; have HL316_0 := Aside0.mk (show Kd.R (Kd.int .i64) 3 _ _ _ _ (rd_L1 t291 (ji37)) from ge316_0); clear hv316_0 ge316_0; clear hcc316 hce316; have HR316_0 := Aside0.mk hi316_0; have HC316_0 := Aside0.mk hl316_0; clear hi316_0 hl316_0; replace p316 := eq_true p316; replace q316 := eq_true q316; obtain ⟨Ao68, co68, eo68⟩ := Kd.R_slice HO309.out; subst eo68) | (go_at_call 41; (with_reducible refine (laws_uSame.calls k3 _ _ t306 _ _ (rd_L1 t291 (ji37)) true _ ?side1 ?side2 ?side3 ?side4 A40.out).mono ?_); (case side1 => repeat (first | exact (Kd.R_reads' HO309.out).2.2 | (with_reducible refine Kd.C_alloc ?_ _) | (with_reducible refine Kd.C_drewN ?_ _) | (with_reducible refine Kd.C_drew ?_))); (case side2 => exact (Kd.R_reads' HO309.out).2.1); (case side3 => repeat (first | exact (by repeat (first | (with_reducible exact HR316_0.out) | (with_reducible refine Kd.C_alloc ?_ _) | (with_reducible refine Kd.C_drewN ?_ _) | (with_reducible refine Kd.C_drew ?_) | exact HR316_0.out)) | (with_reducible refine Kd.C_alloc ?_ _) | (with_reducible refine Kd.C_drewN ?_ _) | (with_reducible refine Kd.C_drew ?_))); (case side4 => exact HC316_0.out); rintro e w' ⟨rfl, ⟨nd, rfl⟩⟩))
                                              go_ret
                                              exact ⟨by first | rfl | (simp [errW_none, errW_some] <;> rfl) | (simp only [← hji37]; first | rfl | (simp [errW_none, errW_some] <;> rfl)) | (simp [*, errW_none, errW_some] <;> rfl), by repeat (first | (with_reducible first | exact HB.out | apply below_alloc | apply pw_below_drewN | apply below_drew1) | exact HB.out)⟩
                                          · replace c41 := Bool.eq_false_iff.mpr c41
                                            subst c41
                                            have H1 : (some false) = some r := by rw [if_neg (show ¬ (false = true) by decide)] at H; exact H
                                            clear H
                                            have H := H1
                                            clear H1
                                            obtain rfl := Option.some.inj H
                                            have p305 : 0 ≤ (x88_3 : Int) := of_decide_eq_true (by first | (with_reducible assumption) | assumption)
                                            have q305 : x88_3 < (t291.length : Int) := of_decide_eq_true (by first | (with_reducible assumption) | assumption)
                                            obtain ⟨ad305, A305_0, c305_0, e305, hx305_0, hl305_0, hi305_0⟩ := at_L1 (Kd.S_reads' HO_86.out).2.2 x88_3 p305 q305
                                            cases e305
                                            obtain ⟨ce305, hce305, hMe305, hcc305⟩ := Kd.S_get HO_86.out [] x88_3 p305 (by first | exact q305 | exact of_decide_eq_true (by first | (with_reducible assumption) | assumption) | (have e_ := (Kd.S_reads' HO_86.out).1; omega))
                                            obtain ⟨ve305_0, rfl, ge305_0⟩ := hMe305
                                            have hv305_0 := hcc305 0 _ rfl
                                            rw [Nat.add_zero, show ((Kd.slice 3 (Kd.int .i64))).sz = 1 from rfl, Nat.mul_one] at hv305_0
                                            replace hv305_0 := Option.some.inj (hv305_0.symm.trans hx305_0)
                                            rw [hv305_0] at ge305_0
                                            have HL305_0 := Aside0.mk (show Kd.R (Kd.int .i64) 3 _ _ _ _ (rd_L1 t291 x88_3) from ge305_0)
                                            clear hv305_0 ge305_0
                                            clear hcc305 hce305
                                            have HR305_0 := Aside0.mk hi305_0
                                            have HC305_0 := Aside0.mk hl305_0
                                            clear hi305_0 hl305_0
                                            replace p305 := eq_true p305
                                            replace q305 := eq_true q305
                                            go_wp2_with (first | ((with_reducible refine gate_callee (f := 38) rfl ?_); refine goesL_ (some 95) rfl rfl Try.func38 (by kernel_rfl) rfl #[.slice A305_0 (rd_L1 t291 x88_3).length c305_0] rfl (by (try simp only [List.map_toArray, List.map_cons, List.map_nil]); first | done | rfl | (simp only [List.length_drop, List.length_take]; rfl)) ?_; (with_reducible refine (impl_NextCool.calls k3 _ _ (rd_L1 t291 x88_3) t306 true _ ?side1 ?side2 A32.out).mono ?_); (case side1 => repeat (first | exact (by repeat (first | (with_reducible exact HR305_0.out) | (with_reducible refine Kd.C_alloc ?_ _) | (with_reducible refine Kd.C_drewN ?_ _) | (with_reducible refine Kd.C_drew ?_) | exact HR305_0.out)) | (with_reducible refine Kd.C_alloc ?_ _) | (with_reducible refine Kd.C_drewN ?_ _) | (with_reducible refine Kd.C_drew ?_))); (case side2 => exact HC305_0.out); rintro e w69 ⟨v308, rfl, ho0, hb⟩; refine ⟨_, rfl, ?_⟩; have n0_ := Aside0.mk (Kd.S_elder' (by (with_reducible repeat (first | apply Kd.S_alloc | apply Kd.S_drewN | apply Kd.S_drew)); exact HO_7.out) (Kd.R_base ho0) hb); have n1_ := Aside0.mk (Kd.R_below (by (with_reducible repeat (first | apply Kd.R_alloc | apply Kd.R_drewN | apply Kd.R_drew)); exact HO_13.out) hb); have n2_ := Aside0.mk (Kd.S_elder' (by (with_reducible repeat (first | apply Kd.S_alloc | apply Kd.S_drewN | apply Kd.S_drew)); exact HO_86.out) (Kd.R_base ho0) hb); have n3_ := Aside0.mk (Kd.R_elder' (by (with_reducible repeat (first | apply Kd.R_alloc | apply Kd.R_drewN | apply Kd.R_drew)); exact HL305_0.out) (Kd.R_base ho0) hb); have n4_ := Aside0.mk (Kd.R_lower (Kd.R_new' ho0 (Kd.R_lt (by (with_reducible repeat (first | apply Kd.R_alloc | apply Kd.R_drewN | apply Kd.R_drew)); exact HL305_0.out))) (below_size (by repeat (first | (with_reducible first | exact HB.out | apply below_alloc | apply pw_below_drewN | apply below_drew1) | exact HB.out)))); have n5_ := Aside0.mk (Kd.C_below (by first | (with_reducible exact HR305_0.out) | (with_reducible exact Kd.C_drewN HR305_0.out _) | (with_reducible exact Kd.C_drew HR305_0.out) | (with_reducible exact Kd.C_alloc HR305_0.out _) | repeat (first | (with_reducible exact HR305_0.out) | (with_reducible refine Kd.C_alloc ?_ _) | (with_reducible refine Kd.C_drewN ?_ _) | (with_reducible refine Kd.C_drew ?_) | exact HR305_0.out)) hb); have n6_ := Aside0.mk (below_step (by repeat (first | (with_reducible first | exact HB.out | apply below_alloc | apply pw_below_drewN | apply below_drew1) | exact HB.out)) hb); clear HO_7; clear HO_13; clear HO_86; clear HL305_0; clear HR305_0; clear HB; have HO_7 := n0_; have HO_13 := n1_; have HO_86 := n2_; have HL305_0 := n3_; have HO309 := n4_; have HR305_0 := n5_; have HB := n6_; clear n0_ n1_ n2_ n3_ n4_ n5_ n6_; (try clear hb); (try clear hb2); (try clear hk); (try clear hi); (try clear ho0)) | ((with_reducible refine gate_callee (f := 39) rfl ?_); refine goesL_ (some 100) rfl rfl Try.func39 (by kernel_rfl) rfl #[.slice A305_0 (rd_L1 t291 x88_3).length c305_0] rfl (by (try simp only [List.map_toArray, List.map_cons, List.map_nil]); first | done | rfl | (simp only [List.length_drop, List.length_take]; rfl)) ?_; (with_reducible refine (impl_FromBits.calls k3 _ _ (rd_L1 t291 x88_3) t310 t311 _ ?side1 ?side2 A33.out).mono ?_); (case side1 => repeat (first | exact (by repeat (first | (with_reducible exact HR305_0.out) | (with_reducible refine Kd.C_alloc ?_ _) | (with_reducible refine Kd.C_drewN ?_ _) | (with_reducible refine Kd.C_drew ?_) | exact HR305_0.out)) | (with_reducible refine Kd.C_alloc ?_ _) | (with_reducible refine Kd.C_drewN ?_ _) | (with_reducible refine Kd.C_drew ?_))); (case side2 => exact HC305_0.out); rintro e w70 ⟨v312, rfl, ho0, hb⟩; refine ⟨_, rfl, ?_⟩; have n0_ := Aside0.mk (Kd.S_elder' (by (with_reducible repeat (first | apply Kd.S_alloc | apply Kd.S_drewN | apply Kd.S_drew)); exact HO_7.out) (Kd.R_base ho0) hb); have n1_ := Aside0.mk (Kd.R_below (by (with_reducible repeat (first | apply Kd.R_alloc | apply Kd.R_drewN | apply Kd.R_drew)); exact HO_13.out) hb); have n2_ := Aside0.mk (Kd.S_elder' (by (with_reducible repeat (first | apply Kd.S_alloc | apply Kd.S_drewN | apply Kd.S_drew)); exact HO_86.out) (Kd.R_base ho0) hb); have n3_ := Aside0.mk (Kd.R_elder' (by (with_reducible repeat (first | apply Kd.R_alloc | apply Kd.R_drewN | apply Kd.R_drew)); exact HL305_0.out) (Kd.R_base ho0) hb); have n4_ := Aside0.mk (Kd.R_elder' (by (with_reducible repeat (first | apply Kd.R_alloc | apply Kd.R_drewN | apply Kd.R_drew)); exact HO309.out) (Kd.R_base ho0) hb); have n5_ := Aside0.mk (Kd.R_lower (Kd.R_new' (Kd.R_new' ho0 (Kd.R_lt (by (with_reducible repeat (first | apply Kd.R_alloc | apply Kd.R_drewN | apply Kd.R_drew)); exact HL305_0.out))) (Kd.R_lt (by (with_reducible repeat (first | apply Kd.R_alloc | apply Kd.R_drewN | apply Kd.R_drew)); exact HO309.out))) (below_size (by repeat (first | (with_reducible first | exact HB.out | apply below_alloc | apply pw_below_drewN | apply below_drew1) | exact HB.out)))); have n6_ := Aside0.mk (Kd.C_below (by first | (with_reducible exact HR305_0.out) | (with_reducible exact Kd.C_drewN HR305_0.out _) | (with_reducible exact Kd.C_drew HR305_0.out) | (with_reducible exact Kd.C_alloc HR305_0.out _) | repeat (first | (with_reducible exact HR305_0.out) | (with_reducible refine Kd.C_alloc ?_ _) | (with_reducible refine Kd.C_drewN ?_ _) | (with_reducible refine Kd.C_drew ?_) | exact HR305_0.out)) hb); have n7_ := Aside0.mk (below_step (by repeat (first | (with_reducible first | exact HB.out | apply below_alloc | apply pw_below_drewN | apply below_drew1) | exact HB.out)) hb); clear HO_7; clear HO_13; clear HO_86; clear HL305_0; clear HO309; clear HR305_0; clear HB; have HO_7 := n0_; have HO_13 := n1_; have HO_86 := n2_; have HL305_0 := n3_; have HO309 := n4_; have HO313 := n5_; have HR305_0 := n6_; have HB := n7_; clear n0_ n1_ n2_ n3_ n4_ n5_ n6_ n7_; (try clear hb); (try clear hb2); (try clear hk); (try clear hi); (try clear ho0); obtain ⟨Ao71, co71, eo71⟩ := Kd.R_slice HO313.out; subst eo71) | ((with_reducible refine gate_callee (f := 40) rfl ?_); refine goesL_ (some 106) rfl rfl Try.func40 (by kernel_rfl) rfl #[.int .i64 t289, .slice Ao71 t310.length co71] rfl (by (try simp only [List.map_toArray, List.map_cons, List.map_nil]); first | done | rfl | (simp only [List.length_drop, List.length_take]; rfl)) ?_; (with_reducible refine (impl_CombinationRank.calls k3 t289 _ _ t310 t314 t315 _ ?side1 ?side2 A34.out).mono ?_); (case side1 => repeat (first | exact (Kd.R_reads' HO313.out).2.2 | (with_reducible refine Kd.C_alloc ?_ _) | (with_reducible refine Kd.C_drewN ?_ _) | (with_reducible refine Kd.C_drew ?_))); (case side2 => exact (Kd.R_reads' HO313.out).2.1); rintro e w' ⟨rfl, ⟨nd, rfl⟩⟩; refine ⟨_, rfl, ?_⟩; have p316 : 0 ≤ ((ji37) : Int) := of_decide_eq_true (by first | (with_reducible assumption) | assumption); have q316 : (ji37) < (t291.length : Int) := of_decide_eq_true (by first | (with_reducible assumption) | assumption); obtain ⟨ad316, A316_0, c316_0, e316, hx316_0, hl316_0, hi316_0⟩ := at_L1 (Kd.S_reads' HO_7.out).2.2 (ji37) p316 q316; obtain rfl : ad305 = ad316 := (by injection e316); obtain ⟨ce316, hce316, hMe316, hcc316⟩ := Kd.S_get HO_7.out [] (ji37) p316 (by first | exact q316 | exact of_decide_eq_true (by first | (with_reducible assumption) | assumption) | (have e_ := (Kd.S_reads' HO_7.out).1; omega)); obtain ⟨ve316_0, rfl, ge316_0⟩ := hMe316; have hv316_0 := hcc316 0 _ rfl; rw [Nat.add_zero, show ((Kd.slice 3 (Kd.int .i64))).sz = 1 from rfl, Nat.mul_one] at hv316_0; replace hv316_0 := Option.some.inj (hv316_0.symm.trans hx316_0); rw [hv316_0] at ge316_0; have HL316_0 := Aside0.mk (show Kd.R (Kd.int .i64) 3 _ _ _ _ (rd_L1 t291 (ji37)) from ge316_0); clear hv316_0 ge316_0; clear hcc316 hce316; have HR316_0 := Aside0.mk hi316_0; have HC316_0 := Aside0.mk hl316_0; clear hi316_0 hl316_0; replace p316 := eq_true p316; replace q316 := eq_true q316; obtain ⟨Ao72, co72, eo72⟩ := Kd.R_slice HO309.out; subst eo72) | (go_at_call 41; (with_reducible refine (laws_uSame.calls k3 _ _ t306 _ _ (rd_L1 t291 (ji37)) false _ ?side1 ?side2 ?side3 ?side4 A40.out).mono ?_); (case side1 => repeat (first | exact (Kd.R_reads' HO309.out).2.2 | (with_reducible refine Kd.C_alloc ?_ _) | (with_reducible refine Kd.C_drewN ?_ _) | (with_reducible refine Kd.C_drew ?_))); (case side2 => exact (Kd.R_reads' HO309.out).2.1); (case side3 => repeat (first | exact (by repeat (first | (with_reducible exact HR316_0.out) | (with_reducible refine Kd.C_alloc ?_ _) | (with_reducible refine Kd.C_drewN ?_ _) | (with_reducible refine Kd.C_drew ?_) | exact HR316_0.out)) | (with_reducible refine Kd.C_alloc ?_ _) | (with_reducible refine Kd.C_drewN ?_ _) | (with_reducible refine Kd.C_drew ?_))); (case side4 => exact HC316_0.out); rintro e w' ⟨rfl, ⟨nd, rfl⟩⟩))
                                            go_ret
                                            exact ⟨by first | rfl | (simp [errW_none, errW_some] <;> rfl) | (simp only [← hji37]; first | rfl | (simp [errW_none, errW_some] <;> rfl)) | (simp [*, errW_none, errW_some] <;> rfl), by repeat (first | (with_reducible first | exact HB.out | apply below_alloc | apply pw_below_drewN | apply below_drew1) | exact HB.out)⟩
                                        · rw [if_neg c39] at H
                                          exact absurd H (by simp)
                                      · rw [if_neg c38] at H
                                        exact absurd H (by simp)
                                  · replace c35 := Bool.eq_false_iff.mpr c35
                                    subst c35
                                    have H1 : (some false) = some r := by rw [if_neg (show ¬ (false = true) by decide)] at H; exact H
                                    clear H
                                    have H := H1
                                    clear H1
                                    obtain rfl := Option.some.inj H
                                    have p305 : 0 ≤ (x88_3 : Int) := of_decide_eq_true (by first | (with_reducible assumption) | assumption)
                                    have q305 : x88_3 < (t291.length : Int) := of_decide_eq_true (by first | (with_reducible assumption) | assumption)
                                    obtain ⟨ad305, A305_0, c305_0, e305, hx305_0, hl305_0, hi305_0⟩ := at_L1 (Kd.S_reads' HO_86.out).2.2 x88_3 p305 q305
                                    cases e305
                                    obtain ⟨ce305, hce305, hMe305, hcc305⟩ := Kd.S_get HO_86.out [] x88_3 p305 (by first | exact q305 | exact of_decide_eq_true (by first | (with_reducible assumption) | assumption) | (have e_ := (Kd.S_reads' HO_86.out).1; omega))
                                    obtain ⟨ve305_0, rfl, ge305_0⟩ := hMe305
                                    have hv305_0 := hcc305 0 _ rfl
                                    rw [Nat.add_zero, show ((Kd.slice 3 (Kd.int .i64))).sz = 1 from rfl, Nat.mul_one] at hv305_0
                                    replace hv305_0 := Option.some.inj (hv305_0.symm.trans hx305_0)
                                    rw [hv305_0] at ge305_0
                                    have HL305_0 := Aside0.mk (show Kd.R (Kd.int .i64) 3 _ _ _ _ (rd_L1 t291 x88_3) from ge305_0)
                                    clear hv305_0 ge305_0
                                    clear hcc305 hce305
                                    have HR305_0 := Aside0.mk hi305_0
                                    have HC305_0 := Aside0.mk hl305_0
                                    clear hi305_0 hl305_0
                                    replace p305 := eq_true p305
                                    replace q305 := eq_true q305
                                    go_wp2_with (first | ((with_reducible refine gate_callee (f := 38) rfl ?_); refine goesL_ (some 95) rfl rfl Try.func38 (by kernel_rfl) rfl #[.slice A305_0 (rd_L1 t291 x88_3).length c305_0] rfl (by (try simp only [List.map_toArray, List.map_cons, List.map_nil]); first | done | rfl | (simp only [List.length_drop, List.length_take]; rfl)) ?_; (with_reducible refine (impl_NextCool.calls k3 _ _ (rd_L1 t291 x88_3) t306 false _ ?side1 ?side2 A32.out).mono ?_); (case side1 => repeat (first | exact (by repeat (first | (with_reducible exact HR305_0.out) | (with_reducible refine Kd.C_alloc ?_ _) | (with_reducible refine Kd.C_drewN ?_ _) | (with_reducible refine Kd.C_drew ?_) | exact HR305_0.out)) | (with_reducible refine Kd.C_alloc ?_ _) | (with_reducible refine Kd.C_drewN ?_ _) | (with_reducible refine Kd.C_drew ?_))); (case side2 => exact HC305_0.out); rintro e w73 ⟨v308, rfl, ho0, hb⟩; refine ⟨_, rfl, ?_⟩; have n0_ := Aside0.mk (Kd.S_elder' (by (with_reducible repeat (first | apply Kd.S_alloc | apply Kd.S_drewN | apply Kd.S_drew)); exact HO_7.out) (Kd.R_base ho0) hb); have n1_ := Aside0.mk (Kd.R_below (by (with_reducible repeat (first | apply Kd.R_alloc | apply Kd.R_drewN | apply Kd.R_drew)); exact HO_13.out) hb); have n2_ := Aside0.mk (Kd.S_elder' (by (with_reducible repeat (first | apply Kd.S_alloc | apply Kd.S_drewN | apply Kd.S_drew)); exact HO_86.out) (Kd.R_base ho0) hb); have n3_ := Aside0.mk (Kd.R_elder' (by (with_reducible repeat (first | apply Kd.R_alloc | apply Kd.R_drewN | apply Kd.R_drew)); exact HL305_0.out) (Kd.R_base ho0) hb); have n4_ := Aside0.mk (Kd.R_lower (Kd.R_new' ho0 (Kd.R_lt (by (with_reducible repeat (first | apply Kd.R_alloc | apply Kd.R_drewN | apply Kd.R_drew)); exact HL305_0.out))) (below_size (by repeat (first | (with_reducible first | exact HB.out | apply below_alloc | apply pw_below_drewN | apply below_drew1) | exact HB.out)))); have n5_ := Aside0.mk (Kd.C_below (by first | (with_reducible exact HR305_0.out) | (with_reducible exact Kd.C_drewN HR305_0.out _) | (with_reducible exact Kd.C_drew HR305_0.out) | (with_reducible exact Kd.C_alloc HR305_0.out _) | repeat (first | (with_reducible exact HR305_0.out) | (with_reducible refine Kd.C_alloc ?_ _) | (with_reducible refine Kd.C_drewN ?_ _) | (with_reducible refine Kd.C_drew ?_) | exact HR305_0.out)) hb); have n6_ := Aside0.mk (below_step (by repeat (first | (with_reducible first | exact HB.out | apply below_alloc | apply pw_below_drewN | apply below_drew1) | exact HB.out)) hb); clear HO_7; clear HO_13; clear HO_86; clear HL305_0; clear HR305_0; clear HB; have HO_7 := n0_; have HO_13 := n1_; have HO_86 := n2_; have HL305_0 := n3_; have HO309 := n4_; have HR305_0 := n5_; have HB := n6_; clear n0_ n1_ n2_ n3_ n4_ n5_ n6_; (try clear hb); (try clear hb2); (try clear hk); (try clear hi); (try clear ho0)) | ((with_reducible refine gate_callee (f := 39) rfl ?_); refine goesL_ (some 100) rfl rfl Try.func39 (by kernel_rfl) rfl #[.slice A305_0 (rd_L1 t291 x88_3).length c305_0] rfl (by (try simp only [List.map_toArray, List.map_cons, List.map_nil]); first | done | rfl | (simp only [List.length_drop, List.length_take]; rfl)) ?_; (with_reducible refine (impl_FromBits.calls k3 _ _ (rd_L1 t291 x88_3) t310 t311 _ ?side1 ?side2 A33.out).mono ?_); (case side1 => repeat (first | exact (by repeat (first | (with_reducible exact HR305_0.out) | (with_reducible refine Kd.C_alloc ?_ _) | (with_reducible refine Kd.C_drewN ?_ _) | (with_reducible refine Kd.C_drew ?_) | exact HR305_0.out)) | (with_reducible refine Kd.C_alloc ?_ _) | (with_reducible refine Kd.C_drewN ?_ _) | (with_reducible refine Kd.C_drew ?_))); (case side2 => exact HC305_0.out); rintro e w74 ⟨v312, rfl, ho0, hb⟩; refine ⟨_, rfl, ?_⟩; have n0_ := Aside0.mk (Kd.S_elder' (by (with_reducible repeat (first | apply Kd.S_alloc | apply Kd.S_drewN | apply Kd.S_drew)); exact HO_7.out) (Kd.R_base ho0) hb); have n1_ := Aside0.mk (Kd.R_below (by (with_reducible repeat (first | apply Kd.R_alloc | apply Kd.R_drewN | apply Kd.R_drew)); exact HO_13.out) hb); have n2_ := Aside0.mk (Kd.S_elder' (by (with_reducible repeat (first | apply Kd.S_alloc | apply Kd.S_drewN | apply Kd.S_drew)); exact HO_86.out) (Kd.R_base ho0) hb); have n3_ := Aside0.mk (Kd.R_elder' (by (with_reducible repeat (first | apply Kd.R_alloc | apply Kd.R_drewN | apply Kd.R_drew)); exact HL305_0.out) (Kd.R_base ho0) hb); have n4_ := Aside0.mk (Kd.R_elder' (by (with_reducible repeat (first | apply Kd.R_alloc | apply Kd.R_drewN | apply Kd.R_drew)); exact HO309.out) (Kd.R_base ho0) hb); have n5_ := Aside0.mk (Kd.R_lower (Kd.R_new' (Kd.R_new' ho0 (Kd.R_lt (by (with_reducible repeat (first | apply Kd.R_alloc | apply Kd.R_drewN | apply Kd.R_drew)); exact HL305_0.out))) (Kd.R_lt (by (with_reducible repeat (first | apply Kd.R_alloc | apply Kd.R_drewN | apply Kd.R_drew)); exact HO309.out))) (below_size (by repeat (first | (with_reducible first | exact HB.out | apply below_alloc | apply pw_below_drewN | apply below_drew1) | exact HB.out)))); have n6_ := Aside0.mk (Kd.C_below (by first | (with_reducible exact HR305_0.out) | (with_reducible exact Kd.C_drewN HR305_0.out _) | (with_reducible exact Kd.C_drew HR305_0.out) | (with_reducible exact Kd.C_alloc HR305_0.out _) | repeat (first | (with_reducible exact HR305_0.out) | (with_reducible refine Kd.C_alloc ?_ _) | (with_reducible refine Kd.C_drewN ?_ _) | (with_reducible refine Kd.C_drew ?_) | exact HR305_0.out)) hb); have n7_ := Aside0.mk (below_step (by repeat (first | (with_reducible first | exact HB.out | apply below_alloc | apply pw_below_drewN | apply below_drew1) | exact HB.out)) hb); clear HO_7; clear HO_13; clear HO_86; clear HL305_0; clear HO309; clear HR305_0; clear HB; have HO_7 := n0_; have HO_13 := n1_; have HO_86 := n2_; have HL305_0 := n3_; have HO309 := n4_; have HO313 := n5_; have HR305_0 := n6_; have HB := n7_; clear n0_ n1_ n2_ n3_ n4_ n5_ n6_ n7_; (try clear hb); (try clear hb2); (try clear hk); (try clear hi); (try clear ho0); obtain ⟨Ao75, co75, eo75⟩ := Kd.R_slice HO313.out; subst eo75) | ((with_reducible refine gate_callee (f := 40) rfl ?_); refine goesL_ (some 106) rfl rfl Try.func40 (by kernel_rfl) rfl #[.int .i64 t289, .slice Ao75 t310.length co75] rfl (by (try simp only [List.map_toArray, List.map_cons, List.map_nil]); first | done | rfl | (simp only [List.length_drop, List.length_take]; rfl)) ?_; (with_reducible refine (impl_CombinationRank.calls k3 t289 _ _ t310 t314 t315 _ ?side1 ?side2 A34.out).mono ?_); (case side1 => repeat (first | exact (Kd.R_reads' HO313.out).2.2 | (with_reducible refine Kd.C_alloc ?_ _) | (with_reducible refine Kd.C_drewN ?_ _) | (with_reducible refine Kd.C_drew ?_))); (case side2 => exact (Kd.R_reads' HO313.out).2.1); rintro e w' ⟨rfl, ⟨nd, rfl⟩⟩; refine ⟨_, rfl, ?_⟩))
                                    go_ret
                                    exact ⟨by first | rfl | (simp [errW_none, errW_some] <;> rfl) | (simp [*, errW_none, errW_some] <;> rfl), by repeat (first | (with_reducible first | exact HB.out | apply below_alloc | apply pw_below_drewN | apply below_drew1) | exact HB.out)⟩
                                · rw [if_neg c31] at H
                                  exact absurd H (by simp)
                              · rw [if_neg c30] at H
                                exact absurd H (by simp)
                            · rw [if_neg c29] at H
                              have c29b0 : decide (x88_3 < (t291.length : Int)) = false := decide_eq_false c29
                              clear c29
                              replace H := Option.bind_eq_some_iff.mp H
                              obtain ⟨t320, A760, H⟩ := H
                              replace H : (if t300 = 0 then (none) else (if 0 ≤ (Int.tmod t320 t300) then (if (Int.tmod t320 t300) < (t291.length : Int) then ((impl_CoolRank.f k3 (rd_L1 t291 (Int.tmod t320 t300))).bind fun bt322 => (if bt322.2 = true then (if bt322.1 = (Int.tmod t320 t300) then (laws_FnCoolLists.j3 k3 l1) else (some false)) else (some false))) else (none)) else (none))) = some r := H
                              have A76 := Aside0.mk A760
                              clear A760
                              by_cases c77 : t300 = 0
                              · rw [if_pos c77] at H
                                exact absurd H (by simp)
                              · rw [if_neg c77] at H
                                have c77b0 : (t300 == 0) = false := beq_eq_false_iff_ne.mpr c77
                                have c77b1 : (t300 != 0) = true := bne_iff_ne.mpr c77
                                obtain ⟨ji78, hji78⟩ : ∃ j_ : Int, (Int.tmod t320 t300) = j_ := ⟨_, rfl⟩
                                replace H : (if 0 ≤ (ji78) then (if (ji78) < (t291.length : Int) then ((impl_CoolRank.f k3 (rd_L1 t291 (ji78))).bind fun bt322 => (if bt322.2 = true then (if bt322.1 = (ji78) then (laws_FnCoolLists.j3 k3 l1) else (some false)) else (some false))) else (none)) else (none)) = some r := by first | (rw [hji78] at H; exact H) | (simp only [hji78] at H ⊢; exact H)
                                (try rw [hji78] at A76)
                                by_cases c79 : 0 ≤ (ji78)
                                · rw [if_pos c79] at H
                                  have c79b0 : decide (0 ≤ (ji78)) = true := decide_eq_true c79
                                  clear c79
                                  by_cases c80 : (ji78) < (t291.length : Int)
                                  · rw [if_pos c80] at H
                                    have c80b0 : decide ((ji78) < (t291.length : Int)) = true := decide_eq_true c80
                                    clear c80
                                    replace H := Option.bind_eq_some_iff.mp H
                                    obtain ⟨⟨t322, t323⟩, A810, H⟩ := H
                                    replace H : (if t323 = true then (if t322 = (ji78) then (laws_FnCoolLists.j3 k3 l1) else (some false)) else (some false)) = some r := H
                                    have A81 := Aside0.mk A810
                                    clear A810
                                    by_cases c82 : t323 = true
                                    · subst c82
                                      have H1 : (if t322 = (ji78) then (laws_FnCoolLists.j3 k3 l1) else (some false)) = some r := by rw [if_pos rfl] at H; exact H
                                      clear H
                                      have H := H1
                                      clear H1
                                      by_cases c83 : t322 = (ji78)
                                      · rw [if_pos c83] at H
                                        have c83b0 : (t322 == (ji78)) = true := beq_iff_eq.mpr c83
                                        have c83b1 : (t322 != (ji78)) = false := bne_eq_false_iff_eq.mpr c83
                                        clear c83
                                        have H' := Aside0.mk H
                                        clear H
                                        go_wp2_with (first | ((with_reducible refine gate_callee (f := 42) rfl ?_); refine goesL_ (some 142) rfl rfl Try.func42 (by kernel_rfl) rfl #[.slice A1 l1.length c1] rfl (by (try simp only [List.map_toArray, List.map_cons, List.map_nil]); first | done | rfl | (simp only [List.length_drop, List.length_take]; rfl)) ?_; (with_reducible refine (laws_numberOf.calls k3 _ _ l1 t320 _ ?side1 ?side2 A76.out).mono ?_); (case side1 => repeat (first | exact (Kd.C_below HR1.out HB.out) | (with_reducible refine Kd.C_alloc ?_ _) | (with_reducible refine Kd.C_drewN ?_ _) | (with_reducible refine Kd.C_drew ?_))); (case side2 => exact HC1.out); rintro e w' ⟨rfl, ⟨nd, rfl⟩⟩; refine ⟨_, rfl, ?_⟩; have p321 : 0 ≤ ((ji78) : Int) := of_decide_eq_true (by first | (with_reducible assumption) | assumption); have q321 : (ji78) < (t291.length : Int) := of_decide_eq_true (by first | (with_reducible assumption) | assumption); obtain ⟨ad321, A321_0, c321_0, e321, hx321_0, hl321_0, hi321_0⟩ := at_L1 (Kd.S_reads' HO_7.out).2.2 (ji78) p321 q321; cases e321; obtain ⟨ce321, hce321, hMe321, hcc321⟩ := Kd.S_get HO_7.out [] (ji78) p321 (by first | exact q321 | exact of_decide_eq_true (by first | (with_reducible assumption) | assumption) | (have e_ := (Kd.S_reads' HO_7.out).1; omega)); obtain ⟨ve321_0, rfl, ge321_0⟩ := hMe321; have hv321_0 := hcc321 0 _ rfl; rw [Nat.add_zero, show ((Kd.slice 3 (Kd.int .i64))).sz = 1 from rfl, Nat.mul_one] at hv321_0; replace hv321_0 := Option.some.inj (hv321_0.symm.trans hx321_0); rw [hv321_0] at ge321_0; have HL321_0 := Aside0.mk (show Kd.R (Kd.int .i64) 3 _ _ _ _ (rd_L1 t291 (ji78)) from ge321_0); clear hv321_0 ge321_0; clear hcc321 hce321; have HR321_0 := Aside0.mk hi321_0; have HC321_0 := Aside0.mk hl321_0; clear hi321_0 hl321_0; replace p321 := eq_true p321; replace q321 := eq_true q321) | ((with_reducible refine gate_callee (f := 15) rfl ?_); refine goesL_ (some 150) rfl rfl Try.func15 (by kernel_rfl) rfl #[.slice A321_0 (rd_L1 t291 (ji78)).length c321_0] rfl (by (try simp only [List.map_toArray, List.map_cons, List.map_nil]); first | done | (simp only [hji78]; rfl) | rfl | (simp only [List.length_drop, List.length_take]; rfl)) ?_; (with_reducible refine (impl_CoolRank.calls k3 _ _ (rd_L1 t291 (ji78)) t322 true _ ?side1 ?side2 A81.out).mono ?_); (case side1 => repeat (first | exact (by repeat (first | (with_reducible exact HR321_0.out) | (with_reducible refine Kd.C_alloc ?_ _) | (with_reducible refine Kd.C_drewN ?_ _) | (with_reducible refine Kd.C_drew ?_) | exact HR321_0.out)) | (with_reducible refine Kd.C_alloc ?_ _) | (with_reducible refine Kd.C_drewN ?_ _) | (with_reducible refine Kd.C_drew ?_))); (case side2 => exact HC321_0.out); rintro e w84 ⟨rfl, hb⟩; refine ⟨_, rfl, ?_⟩; have n0_ := Aside0.mk (Kd.S_below (by (with_reducible repeat (first | apply Kd.S_alloc | apply Kd.S_drewN | apply Kd.S_drew)); exact HO_7.out) hb); have n1_ := Aside0.mk (Kd.R_below (by (with_reducible repeat (first | apply Kd.R_alloc | apply Kd.R_drewN | apply Kd.R_drew)); exact HO_13.out) hb); have n2_ := Aside0.mk (Kd.S_below (by (with_reducible repeat (first | apply Kd.S_alloc | apply Kd.S_drewN | apply Kd.S_drew)); exact HO_86.out) hb); have n3_ := Aside0.mk (Kd.R_below (by (with_reducible repeat (first | apply Kd.R_alloc | apply Kd.R_drewN | apply Kd.R_drew)); exact HL321_0.out) hb); have n4_ := Aside0.mk (Kd.C_below (by first | (with_reducible exact HR321_0.out) | (with_reducible exact Kd.C_drewN HR321_0.out _) | (with_reducible exact Kd.C_drew HR321_0.out) | (with_reducible exact Kd.C_alloc HR321_0.out _) | repeat (first | (with_reducible exact HR321_0.out) | (with_reducible refine Kd.C_alloc ?_ _) | (with_reducible refine Kd.C_drewN ?_ _) | (with_reducible refine Kd.C_drew ?_) | exact HR321_0.out)) hb); have n5_ := Aside0.mk (below_step (by repeat (first | (with_reducible first | exact HB.out | apply below_alloc | apply pw_below_drewN | apply below_drew1) | exact HB.out)) hb); clear HO_7; clear HO_13; clear HO_86; clear HL321_0; clear HR321_0; clear HB; have HO_7 := n0_; have HO_13 := n1_; have HO_86 := n2_; have HL321_0 := n3_; have HR321_0 := n4_; have HB := n5_; clear n0_ n1_ n2_ n3_ n4_ n5_; (try clear hb); (try clear hb2); (try clear hk); (try clear hi)))
                                        go_meet
                                        case rel => exact ⟨_, H', ⟨by have := HJ7.out; have := HJ19.out; have := HK3.out; first | omega | exact Nat.le_refl _⟩, ⟨by repeat (first | (with_reducible first | exact HB.out | apply below_alloc | apply pw_below_drewN | apply below_drew1) | exact HB.out)⟩⟩
                                      · rw [if_neg c83] at H
                                        have c83b0 : (t322 == (ji78)) = false := beq_eq_false_iff_ne.mpr c83
                                        have c83b1 : (t322 != (ji78)) = true := bne_iff_ne.mpr c83
                                        obtain rfl := Option.some.inj H
                                        go_wp2_with (first | ((with_reducible refine gate_callee (f := 42) rfl ?_); refine goesL_ (some 142) rfl rfl Try.func42 (by kernel_rfl) rfl #[.slice A1 l1.length c1] rfl (by (try simp only [List.map_toArray, List.map_cons, List.map_nil]); first | done | rfl | (simp only [List.length_drop, List.length_take]; rfl)) ?_; (with_reducible refine (laws_numberOf.calls k3 _ _ l1 t320 _ ?side1 ?side2 A76.out).mono ?_); (case side1 => repeat (first | exact (Kd.C_below HR1.out HB.out) | (with_reducible refine Kd.C_alloc ?_ _) | (with_reducible refine Kd.C_drewN ?_ _) | (with_reducible refine Kd.C_drew ?_))); (case side2 => exact HC1.out); rintro e w' ⟨rfl, ⟨nd, rfl⟩⟩; refine ⟨_, rfl, ?_⟩; have p321 : 0 ≤ ((ji78) : Int) := of_decide_eq_true (by first | (with_reducible assumption) | assumption); have q321 : (ji78) < (t291.length : Int) := of_decide_eq_true (by first | (with_reducible assumption) | assumption); obtain ⟨ad321, A321_0, c321_0, e321, hx321_0, hl321_0, hi321_0⟩ := at_L1 (Kd.S_reads' HO_7.out).2.2 (ji78) p321 q321; cases e321; obtain ⟨ce321, hce321, hMe321, hcc321⟩ := Kd.S_get HO_7.out [] (ji78) p321 (by first | exact q321 | exact of_decide_eq_true (by first | (with_reducible assumption) | assumption) | (have e_ := (Kd.S_reads' HO_7.out).1; omega)); obtain ⟨ve321_0, rfl, ge321_0⟩ := hMe321; have hv321_0 := hcc321 0 _ rfl; rw [Nat.add_zero, show ((Kd.slice 3 (Kd.int .i64))).sz = 1 from rfl, Nat.mul_one] at hv321_0; replace hv321_0 := Option.some.inj (hv321_0.symm.trans hx321_0); rw [hv321_0] at ge321_0; have HL321_0 := Aside0.mk (show Kd.R (Kd.int .i64) 3 _ _ _ _ (rd_L1 t291 (ji78)) from ge321_0); clear hv321_0 ge321_0; clear hcc321 hce321; have HR321_0 := Aside0.mk hi321_0; have HC321_0 := Aside0.mk hl321_0; clear hi321_0 hl321_0; replace p321 := eq_true p321; replace q321 := eq_true q321) | ((with_reducible refine gate_callee (f := 15) rfl ?_); refine goesL_ (some 150) rfl rfl Try.func15 (by kernel_rfl) rfl #[.slice A321_0 (rd_L1 t291 (ji78)).length c321_0] rfl (by (try simp only [List.map_toArray, List.map_cons, List.map_nil]); first | done | (simp only [hji78]; rfl) | rfl | (simp only [List.length_drop, List.length_take]; rfl)) ?_; (with_reducible refine (impl_CoolRank.calls k3 _ _ (rd_L1 t291 (ji78)) t322 true _ ?side1 ?side2 A81.out).mono ?_); (case side1 => repeat (first | exact (by repeat (first | (with_reducible exact HR321_0.out) | (with_reducible refine Kd.C_alloc ?_ _) | (with_reducible refine Kd.C_drewN ?_ _) | (with_reducible refine Kd.C_drew ?_) | exact HR321_0.out)) | (with_reducible refine Kd.C_alloc ?_ _) | (with_reducible refine Kd.C_drewN ?_ _) | (with_reducible refine Kd.C_drew ?_))); (case side2 => exact HC321_0.out); rintro e w85 ⟨rfl, hb⟩; refine ⟨_, rfl, ?_⟩; have n0_ := Aside0.mk (Kd.S_below (by (with_reducible repeat (first | apply Kd.S_alloc | apply Kd.S_drewN | apply Kd.S_drew)); exact HO_7.out) hb); have n1_ := Aside0.mk (Kd.R_below (by (with_reducible repeat (first | apply Kd.R_alloc | apply Kd.R_drewN | apply Kd.R_drew)); exact HO_13.out) hb); have n2_ := Aside0.mk (Kd.S_below (by (with_reducible repeat (first | apply Kd.S_alloc | apply Kd.S_drewN | apply Kd.S_drew)); exact HO_86.out) hb); have n3_ := Aside0.mk (Kd.R_below (by (with_reducible repeat (first | apply Kd.R_alloc | apply Kd.R_drewN | apply Kd.R_drew)); exact HL321_0.out) hb); have n4_ := Aside0.mk (Kd.C_below (by first | (with_reducible exact HR321_0.out) | (with_reducible exact Kd.C_drewN HR321_0.out _) | (with_reducible exact Kd.C_drew HR321_0.out) | (with_reducible exact Kd.C_alloc HR321_0.out _) | repeat (first | (with_reducible exact HR321_0.out) | (with_reducible refine Kd.C_alloc ?_ _) | (with_reducible refine Kd.C_drewN ?_ _) | (with_reducible refine Kd.C_drew ?_) | exact HR321_0.out)) hb); have n5_ := Aside0.mk (below_step (by repeat (first | (with_reducible first | exact HB.out | apply below_alloc | apply pw_below_drewN | apply below_drew1) | exact HB.out)) hb); clear HO_7; clear HO_13; clear HO_86; clear HL321_0; clear HR321_0; clear HB; have HO_7 := n0_; have HO_13 := n1_; have HO_86 := n2_; have HL321_0 := n3_; have HR321_0 := n4_; have HB := n5_; clear n0_ n1_ n2_ n3_ n4_ n5_; (try clear hb); (try clear hb2); (try clear hk); (try clear hi)))
                                        go_ret
                                        exact ⟨by first | rfl | (simp [errW_none, errW_some] <;> rfl) | (simp only [← hji78]; first | rfl | (simp [errW_none, errW_some] <;> rfl)) | (simp [*, errW_none, errW_some] <;> rfl), by repeat (first | (with_reducible first | exact HB.out | apply below_alloc | apply pw_below_drewN | apply below_drew1) | exact HB.out)⟩
                                    · replace c82 := Bool.eq_false_iff.mpr c82
                                      subst c82
                                      have H1 : (some false) = some r := by rw [if_neg (show ¬ (false = true) by decide)] at H; exact H
                                      clear H
                                      have H := H1
                                      clear H1
                                      obtain rfl := Option.some.inj H
                                      go_wp2_with (first | ((with_reducible refine gate_callee (f := 42) rfl ?_); refine goesL_ (some 142) rfl rfl Try.func42 (by kernel_rfl) rfl #[.slice A1 l1.length c1] rfl (by (try simp only [List.map_toArray, List.map_cons, List.map_nil]); first | done | rfl | (simp only [List.length_drop, List.length_take]; rfl)) ?_; (with_reducible refine (laws_numberOf.calls k3 _ _ l1 t320 _ ?side1 ?side2 A76.out).mono ?_); (case side1 => repeat (first | exact (Kd.C_below HR1.out HB.out) | (with_reducible refine Kd.C_alloc ?_ _) | (with_reducible refine Kd.C_drewN ?_ _) | (with_reducible refine Kd.C_drew ?_))); (case side2 => exact HC1.out); rintro e w' ⟨rfl, ⟨nd, rfl⟩⟩; refine ⟨_, rfl, ?_⟩; have p321 : 0 ≤ ((ji78) : Int) := of_decide_eq_true (by first | (with_reducible assumption) | assumption); have q321 : (ji78) < (t291.length : Int) := of_decide_eq_true (by first | (with_reducible assumption) | assumption); obtain ⟨ad321, A321_0, c321_0, e321, hx321_0, hl321_0, hi321_0⟩ := at_L1 (Kd.S_reads' HO_7.out).2.2 (ji78) p321 q321; cases e321; obtain ⟨ce321, hce321, hMe321, hcc321⟩ := Kd.S_get HO_7.out [] (ji78) p321 (by first | exact q321 | exact of_decide_eq_true (by first | (with_reducible assumption) | assumption) | (have e_ := (Kd.S_reads' HO_7.out).1; omega)); obtain ⟨ve321_0, rfl, ge321_0⟩ := hMe321; have hv321_0 := hcc321 0 _ rfl; rw [Nat.add_zero, show ((Kd.slice 3 (Kd.int .i64))).sz = 1 from rfl, Nat.mul_one] at hv321_0; replace hv321_0 := Option.some.inj (hv321_0.symm.trans hx321_0); rw [hv321_0] at ge321_0; have HL321_0 := Aside0.mk (show Kd.R (Kd.int .i64) 3 _ _ _ _ (rd_L1 t291 (ji78)) from ge321_0); clear hv321_0 ge321_0; clear hcc321 hce321; have HR321_0 := Aside0.mk hi321_0; have HC321_0 := Aside0.mk hl321_0; clear hi321_0 hl321_0; replace p321 := eq_true p321; replace q321 := eq_true q321) | ((with_reducible refine gate_callee (f := 15) rfl ?_); refine goesL_ (some 150) rfl rfl Try.func15 (by kernel_rfl) rfl #[.slice A321_0 (rd_L1 t291 (ji78)).length c321_0] rfl (by (try simp only [List.map_toArray, List.map_cons, List.map_nil]); first | done | (simp only [hji78]; rfl) | rfl | (simp only [List.length_drop, List.length_take]; rfl)) ?_; (with_reducible refine (impl_CoolRank.calls k3 _ _ (rd_L1 t291 (ji78)) t322 false _ ?side1 ?side2 A81.out).mono ?_); (case side1 => repeat (first | exact (by repeat (first | (with_reducible exact HR321_0.out) | (with_reducible refine Kd.C_alloc ?_ _) | (with_reducible refine Kd.C_drewN ?_ _) | (with_reducible refine Kd.C_drew ?_) | exact HR321_0.out)) | (with_reducible refine Kd.C_alloc ?_ _) | (with_reducible refine Kd.C_drewN ?_ _) | (with_reducible refine Kd.C_drew ?_))); (case side2 => exact HC321_0.out); rintro e w86 ⟨rfl, hb⟩; refine ⟨_, rfl, ?_⟩; have n0_ := Aside0.mk (Kd.S_below (by (with_reducible repeat (first | apply Kd.S_alloc | apply Kd.S_drewN | apply Kd.S_drew)); exact HO_7.out) hb); have n1_ := Aside0.mk (Kd.R_below (by (with_reducible repeat (first | apply Kd.R_alloc | apply Kd.R_drewN | apply Kd.R_drew)); exact HO_13.out) hb); have n2_ := Aside0.mk (Kd.S_below (by (with_reducible repeat (first | apply Kd.S_alloc | apply Kd.S_drewN | apply Kd.S_drew)); exact HO_86.out) hb); have n3_ := Aside0.mk (Kd.R_below (by (with_reducible repeat (first | apply Kd.R_alloc | apply Kd.R_drewN | apply Kd.R_drew)); exact HL321_0.out) hb); have n4_ := Aside0.mk (Kd.C_below (by first | (with_reducible exact HR321_0.out) | (with_reducible exact Kd.C_drewN HR321_0.out _) | (with_reducible exact Kd.C_drew HR321_0.out) | (with_reducible exact Kd.C_alloc HR321_0.out _) | repeat (first | (with_reducible exact HR321_0.out) | (with_reducible refine Kd.C_alloc ?_ _) | (with_reducible refine Kd.C_drewN ?_ _) | (with_reducible refine Kd.C_drew ?_) | exact HR321_0.out)) hb); have n5_ := Aside0.mk (below_step (by repeat (first | (with_reducible first | exact HB.out | apply below_alloc | apply pw_below_drewN | apply below_drew1) | exact HB.out)) hb); clear HO_7; clear HO_13; clear HO_86; clear HL321_0; clear HR321_0; clear HB; have HO_7 := n0_; have HO_13 := n1_; have HO_86 := n2_; have HL321_0 := n3_; have HR321_0 := n4_; have HB := n5_; clear n0_ n1_ n2_ n3_ n4_ n5_; (try clear hb); (try clear hb2); (try clear hk); (try clear hi)))
                                      go_ret
                                      exact ⟨by first | rfl | (simp [errW_none, errW_some] <;> rfl) | (simp only [← hji78]; first | rfl | (simp [errW_none, errW_some] <;> rfl)) | (simp [*, errW_none, errW_some] <;> rfl), by repeat (first | (with_reducible first | exact HB.out | apply below_alloc | apply pw_below_drewN | apply below_drew1) | exact HB.out)⟩
                                  · rw [if_neg c80] at H
                                    exact absurd H (by simp)
                                · rw [if_neg c79] at H
                                  exact absurd H (by simp)
                      · rw [if_neg c25] at H
                        exact absurd H (by simp)
                    · rw [if_neg c24] at H
                      exact absurd H (by simp)
            · replace c18 := Bool.eq_false_iff.mpr c18
              subst c18
              have H1 : (laws_FnCoolLists.j3 kj7 l1) = some r := by rw [if_neg (show ¬ (false = true) by decide)] at H; exact H
              clear H
              have H := H1
              clear H1
              have H' := Aside0.mk H
              clear H
              go_wp2
              go_meet
              case rel => exact ⟨_, H', ⟨by have := HJ7.out; first | omega | exact Nat.le_refl _⟩, ⟨by repeat (first | (with_reducible first | exact HB.out | apply below_alloc | apply pw_below_drewN | apply below_drew1) | exact HB.out)⟩⟩
          case rest => as_aux_lemma =>
            clear HC17
            try clear c1
            try clear c2
            try clear p2
            try clear c3
            try clear p3
            try clear q3
            try clear hx3
            try clear c4
            try clear q4
            try clear p5
            try clear q5
            try clear hx5
            try clear hf5
            try clear p6
            try clear c7
            try clear c8
            try clear c9
            try clear c12
            try clear c12b0
            try clear c12b1
            try clear c12b2
            try clear c15
            try clear c16
            try clear c18
            try clear c21
            try clear c23
            try clear c24
            try clear c24b0
            try clear c24b1
            try clear c25
            try clear c25b0
            try clear c25b1
            try clear c29
            try clear c29b0
            try clear c30
            try clear c30b0
            try clear p30
            try clear q30
            try clear hx30
            try clear c31
            try clear c31b0
            try clear p31
            try clear q31
            try clear hx31
            try clear c32
            try clear p32
            try clear q32
            try clear hx32
            try clear c33
            try clear c34
            try clear c35
            try clear c36
            try clear c36b0
            try clear c36b1
            try clear c37
            try clear c38
            try clear c38b0
            try clear c39
            try clear c39b0
            try clear c40
            try clear c41
            try clear c42
            try clear c43
            try clear c44
            try clear c44b0
            try clear c45
            try clear c45b0
            try clear q46
            try clear c47
            try clear p53
            try clear q53
            try clear hx53
            try clear hf53
            try clear p64
            try clear c77
            try clear c77b0
            try clear c77b1
            try clear c79
            try clear c79b0
            try clear c80
            try clear c80b0
            try clear c82
            try clear c83
            try clear c83b0
            try clear c83b1
            try clear hx305_0
            try clear hx316_0
            try clear hx318_0
            try clear hx321_0
            try clear hx53_0
            try clear p2
            try clear p305
            try clear p316
            try clear p318
            try clear p321
            try clear p53
            try clear q305
            try clear q316
            try clear q318
            try clear q321
            try clear q53
            obtain ⟨kq, HA, HJ16, HB⟩ := hcut
            cases kq with
            | zero => exact absurd HA.out (by simp [laws_FnCoolLists.j3])
            | succ kj16 =>
              have H := HA.out
              clear HA
              simp only [laws_FnCoolLists.j3] at H
              replace H := Option.bind_eq_some_iff.mp H
              obtain ⟨t324, A870, H⟩ := H
              replace H : ((impl_FromBits.f kj16 t324).bind fun bt327 => ((spec_FromBits.f kj16 t324).bind fun bt331 => ((impl_NextCool.f kj16 t324).bind fun bt335 => ((spec_NextCool.f kj16 t324).bind fun bt339 => ((impl_CoolRank.f kj16 t324).bind fun bt343 => ((spec_CoolRank.f kj16 t324).bind fun bt345 => (if (bt327.2 != bt331.2) = true then (laws_FnCoolLists.j4 kj16 t324 bt327.1 bt327.2 true) else ((laws_uSame.f kj16 bt327.1 bt331.1).bind fun t347 => (if t347 = true then (if (bt335.2 != bt339.2) = true then (laws_FnCoolLists.j4 kj16 t324 bt327.1 bt327.2 true) else ((laws_uSame.f kj16 bt335.1 bt339.1).bind fun t348 => (if t348 = true then (if (bt343.2 != bt345.2) = true then (laws_FnCoolLists.j4 kj16 t324 bt327.1 bt327.2 true) else (laws_FnCoolLists.j4 kj16 t324 bt327.1 bt327.2 (bt343.1 != bt345.1))) else (laws_FnCoolLists.j4 kj16 t324 bt327.1 bt327.2 true)))) else (laws_FnCoolLists.j4 kj16 t324 bt327.1 bt327.2 true)))))))))) = some r := H
              have A87 := Aside0.mk A870
              clear A870
              replace H := Option.bind_eq_some_iff.mp H
              obtain ⟨⟨t327, t328⟩, A880, H⟩ := H
              replace H : ((spec_FromBits.f kj16 t324).bind fun bt331 => ((impl_NextCool.f kj16 t324).bind fun bt335 => ((spec_NextCool.f kj16 t324).bind fun bt339 => ((impl_CoolRank.f kj16 t324).bind fun bt343 => ((spec_CoolRank.f kj16 t324).bind fun bt345 => (if (t328 != bt331.2) = true then (laws_FnCoolLists.j4 kj16 t324 t327 t328 true) else ((laws_uSame.f kj16 t327 bt331.1).bind fun t347 => (if t347 = true then (if (bt335.2 != bt339.2) = true then (laws_FnCoolLists.j4 kj16 t324 t327 t328 true) else ((laws_uSame.f kj16 bt335.1 bt339.1).bind fun t348 => (if t348 = true then (if (bt343.2 != bt345.2) = true then (laws_FnCoolLists.j4 kj16 t324 t327 t328 true) else (laws_FnCoolLists.j4 kj16 t324 t327 t328 (bt343.1 != bt345.1))) else (laws_FnCoolLists.j4 kj16 t324 t327 t328 true)))) else (laws_FnCoolLists.j4 kj16 t324 t327 t328 true))))))))) = some r := H
              have A88 := Aside0.mk A880
              clear A880
              replace H := Option.bind_eq_some_iff.mp H
              obtain ⟨⟨t331, t332⟩, A890, H⟩ := H
              replace H : ((impl_NextCool.f kj16 t324).bind fun bt335 => ((spec_NextCool.f kj16 t324).bind fun bt339 => ((impl_CoolRank.f kj16 t324).bind fun bt343 => ((spec_CoolRank.f kj16 t324).bind fun bt345 => (if (t328 != t332) = true then (laws_FnCoolLists.j4 kj16 t324 t327 t328 true) else ((laws_uSame.f kj16 t327 t331).bind fun t347 => (if t347 = true then (if (bt335.2 != bt339.2) = true then (laws_FnCoolLists.j4 kj16 t324 t327 t328 true) else ((laws_uSame.f kj16 bt335.1 bt339.1).bind fun t348 => (if t348 = true then (if (bt343.2 != bt345.2) = true then (laws_FnCoolLists.j4 kj16 t324 t327 t328 true) else (laws_FnCoolLists.j4 kj16 t324 t327 t328 (bt343.1 != bt345.1))) else (laws_FnCoolLists.j4 kj16 t324 t327 t328 true)))) else (laws_FnCoolLists.j4 kj16 t324 t327 t328 true)))))))) = some r := H
              have A89 := Aside0.mk A890
              clear A890
              replace H := Option.bind_eq_some_iff.mp H
              obtain ⟨⟨t335, t336⟩, A900, H⟩ := H
              replace H : ((spec_NextCool.f kj16 t324).bind fun bt339 => ((impl_CoolRank.f kj16 t324).bind fun bt343 => ((spec_CoolRank.f kj16 t324).bind fun bt345 => (if (t328 != t332) = true then (laws_FnCoolLists.j4 kj16 t324 t327 t328 true) else ((laws_uSame.f kj16 t327 t331).bind fun t347 => (if t347 = true then (if (t336 != bt339.2) = true then (laws_FnCoolLists.j4 kj16 t324 t327 t328 true) else ((laws_uSame.f kj16 t335 bt339.1).bind fun t348 => (if t348 = true then (if (bt343.2 != bt345.2) = true then (laws_FnCoolLists.j4 kj16 t324 t327 t328 true) else (laws_FnCoolLists.j4 kj16 t324 t327 t328 (bt343.1 != bt345.1))) else (laws_FnCoolLists.j4 kj16 t324 t327 t328 true)))) else (laws_FnCoolLists.j4 kj16 t324 t327 t328 true))))))) = some r := H
              have A90 := Aside0.mk A900
              clear A900
              replace H := Option.bind_eq_some_iff.mp H
              obtain ⟨⟨t339, t340⟩, A910, H⟩ := H
              replace H : ((impl_CoolRank.f kj16 t324).bind fun bt343 => ((spec_CoolRank.f kj16 t324).bind fun bt345 => (if (t328 != t332) = true then (laws_FnCoolLists.j4 kj16 t324 t327 t328 true) else ((laws_uSame.f kj16 t327 t331).bind fun t347 => (if t347 = true then (if (t336 != t340) = true then (laws_FnCoolLists.j4 kj16 t324 t327 t328 true) else ((laws_uSame.f kj16 t335 t339).bind fun t348 => (if t348 = true then (if (bt343.2 != bt345.2) = true then (laws_FnCoolLists.j4 kj16 t324 t327 t328 true) else (laws_FnCoolLists.j4 kj16 t324 t327 t328 (bt343.1 != bt345.1))) else (laws_FnCoolLists.j4 kj16 t324 t327 t328 true)))) else (laws_FnCoolLists.j4 kj16 t324 t327 t328 true)))))) = some r := H
              have A91 := Aside0.mk A910
              clear A910
              replace H := Option.bind_eq_some_iff.mp H
              obtain ⟨⟨t343, t344⟩, A920, H⟩ := H
              replace H : ((spec_CoolRank.f kj16 t324).bind fun bt345 => (if (t328 != t332) = true then (laws_FnCoolLists.j4 kj16 t324 t327 t328 true) else ((laws_uSame.f kj16 t327 t331).bind fun t347 => (if t347 = true then (if (t336 != t340) = true then (laws_FnCoolLists.j4 kj16 t324 t327 t328 true) else ((laws_uSame.f kj16 t335 t339).bind fun t348 => (if t348 = true then (if (t344 != bt345.2) = true then (laws_FnCoolLists.j4 kj16 t324 t327 t328 true) else (laws_FnCoolLists.j4 kj16 t324 t327 t328 (t343 != bt345.1))) else (laws_FnCoolLists.j4 kj16 t324 t327 t328 true)))) else (laws_FnCoolLists.j4 kj16 t324 t327 t328 true))))) = some r := H
              have A92 := Aside0.mk A920
              clear A920
              replace H := Option.bind_eq_some_iff.mp H
              obtain ⟨⟨t345, t346⟩, A930, H⟩ := H
              replace H : (if (t328 != t332) = true then (laws_FnCoolLists.j4 kj16 t324 t327 t328 true) else ((laws_uSame.f kj16 t327 t331).bind fun t347 => (if t347 = true then (if (t336 != t340) = true then (laws_FnCoolLists.j4 kj16 t324 t327 t328 true) else ((laws_uSame.f kj16 t335 t339).bind fun t348 => (if t348 = true then (if (t344 != t346) = true then (laws_FnCoolLists.j4 kj16 t324 t327 t328 true) else (laws_FnCoolLists.j4 kj16 t324 t327 t328 (t343 != t345))) else (laws_FnCoolLists.j4 kj16 t324 t327 t328 true)))) else (laws_FnCoolLists.j4 kj16 t324 t327 t328 true)))) = some r := H
              have A93 := Aside0.mk A930
              clear A930
              have HC94 := Aside0.mk H
              clear H
              go_upto_region 34 with (first | ((with_reducible refine gate_callee (f := 43) rfl ?_); refine goesL_ (some 161) rfl rfl Try.func43 (by kernel_rfl) rfl #[.slice A1 l1.length c1] rfl (by (try simp only [List.map_toArray, List.map_cons, List.map_nil]); first | done | rfl | (simp only [List.length_drop, List.length_take]; rfl)) ?_; (with_reducible refine (spec_DrawFromBits.calls kj16 _ _ l1 t324 _ ?side1 ?side2 A87.out).mono ?_); (case side1 => repeat (first | exact (Kd.C_below HR1.out HB.out) | (with_reducible refine Kd.C_alloc ?_ _) | (with_reducible refine Kd.C_drewN ?_ _) | (with_reducible refine Kd.C_drew ?_))); (case side2 => exact HC1.out); rintro e w95 ⟨v325, rfl, ho0, hb⟩; refine ⟨_, rfl, ?_⟩; have n0_ := Aside0.mk (Kd.R_lower ho0 (below_size (by repeat (first | (with_reducible first | exact HB.out | apply below_alloc | apply pw_below_drewN | apply below_drew1) | exact HB.out)))); have n1_ := Aside0.mk (below_step (by repeat (first | (with_reducible first | exact HB.out | apply below_alloc | apply pw_below_drewN | apply below_drew1) | exact HB.out)) hb); clear HB; have HO326 := n0_; have HB := n1_; clear n0_ n1_; (try clear hb); (try clear hb2); (try clear hk); (try clear hi); (try clear ho0); obtain ⟨Ao96, co96, eo96⟩ := Kd.R_slice HO326.out; subst eo96) | ((with_reducible refine gate_callee (f := 39) rfl ?_); refine goesL_ (some 164) rfl rfl Try.func39 (by kernel_rfl) rfl #[.slice Ao96 t324.length co96] rfl (by (try simp only [List.map_toArray, List.map_cons, List.map_nil]); first | done | rfl | (simp only [List.length_drop, List.length_take]; rfl)) ?_; (with_reducible refine (impl_FromBits.calls kj16 _ _ t324 t327 t328 _ ?side1 ?side2 A88.out).mono ?_); (case side1 => repeat (first | exact (Kd.R_reads' HO326.out).2.2 | (with_reducible refine Kd.C_alloc ?_ _) | (with_reducible refine Kd.C_drewN ?_ _) | (with_reducible refine Kd.C_drew ?_))); (case side2 => exact (Kd.R_reads' HO326.out).2.1); rintro e w97 ⟨v329, rfl, ho0, hb⟩; refine ⟨_, rfl, ?_⟩; have n0_ := Aside0.mk (Kd.R_elder' (by (with_reducible repeat (first | apply Kd.R_alloc | apply Kd.R_drewN | apply Kd.R_drew)); exact HO326.out) (Kd.R_base ho0) hb); have n1_ := Aside0.mk (Kd.R_lower (Kd.R_new' ho0 (Kd.R_lt (by (with_reducible repeat (first | apply Kd.R_alloc | apply Kd.R_drewN | apply Kd.R_drew)); exact HO326.out))) (below_size (by repeat (first | (with_reducible first | exact HB.out | apply below_alloc | apply pw_below_drewN | apply below_drew1) | exact HB.out)))); have n2_ := Aside0.mk (below_step (by repeat (first | (with_reducible first | exact HB.out | apply below_alloc | apply pw_below_drewN | apply below_drew1) | exact HB.out)) hb); clear HO326; clear HB; have HO326 := n0_; have HO330 := n1_; have HB := n2_; clear n0_ n1_ n2_; (try clear hb); (try clear hb2); (try clear hk); (try clear hi); (try clear ho0)) | ((with_reducible refine gate_callee (f := 44) rfl ?_); refine goesL_ (some 169) rfl rfl Try.func44 (by kernel_rfl) rfl #[.slice Ao96 t324.length co96] rfl (by (try simp only [List.map_toArray, List.map_cons, List.map_nil]); first | done | rfl | (simp only [List.length_drop, List.length_take]; rfl)) ?_; (with_reducible refine (spec_FromBits.calls kj16 _ _ t324 t331 t332 _ ?side1 ?side2 A89.out).mono ?_); (case side1 => repeat (first | exact (Kd.R_reads' HO326.out).2.2 | (with_reducible refine Kd.C_alloc ?_ _) | (with_reducible refine Kd.C_drewN ?_ _) | (with_reducible refine Kd.C_drew ?_))); (case side2 => exact (Kd.R_reads' HO326.out).2.1); rintro e w98 ⟨v333, rfl, ho0, hb⟩; refine ⟨_, rfl, ?_⟩; have n0_ := Aside0.mk (Kd.R_elder' (by (with_reducible repeat (first | apply Kd.R_alloc | apply Kd.R_drewN | apply Kd.R_drew)); exact HO326.out) (Kd.R_base ho0) hb); have n1_ := Aside0.mk (Kd.R_elder' (by (with_reducible repeat (first | apply Kd.R_alloc | apply Kd.R_drewN | apply Kd.R_drew)); exact HO330.out) (Kd.R_base ho0) hb); have n2_ := Aside0.mk (Kd.R_lower (Kd.R_new' (Kd.R_new' ho0 (Kd.R_lt (by (with_reducible repeat (first | apply Kd.R_alloc | apply Kd.R_drewN | apply Kd.R_drew)); exact HO326.out))) (Kd.R_lt (by (with_reducible repeat (first | apply Kd.R_alloc | apply Kd.R_drewN | apply Kd.R_drew)); exact HO330.out))) (below_size (by repeat (first | (with_reducible first | exact HB.out | apply below_alloc | apply pw_below_drewN | apply below_drew1) | exact HB.out)))); have n3_ := Aside0.mk (below_step (by repeat (first | (with_reducible first | exact HB.out | apply below_alloc | apply pw_below_drewN | apply below_drew1) | exact HB.out)) hb); clear HO326; clear HO330; clear HB; have HO326 := n0_; have HO330 := n1_; have HO334 := n2_; have HB := n3_; clear n0_ n1_ n2_ n3_; (try clear hb); (try clear hb2); (try clear hk); (try clear hi); (try clear ho0)) | ((with_reducible refine gate_callee (f := 38) rfl ?_); refine goesL_ (some 174) rfl rfl Try.func38 (by kernel_rfl) rfl #[.slice Ao96 t324.length co96] rfl (by (try simp only [List.map_toArray, List.map_cons, List.map_nil]); first | done | rfl | (simp only [List.length_drop, List.length_take]; rfl)) ?_; (with_reducible refine (impl_NextCool.calls kj16 _ _ t324 t335 t336 _ ?side1 ?side2 A90.out).mono ?_); (case side1 => repeat (first | exact (Kd.R_reads' HO326.out).2.2 | (with_reducible refine Kd.C_alloc ?_ _) | (with_reducible refine Kd.C_drewN ?_ _) | (with_reducible refine Kd.C_drew ?_))); (case side2 => exact (Kd.R_reads' HO326.out).2.1); rintro e w99 ⟨v337, rfl, ho0, hb⟩; refine ⟨_, rfl, ?_⟩; have n0_ := Aside0.mk (Kd.R_elder' (by (with_reducible repeat (first | apply Kd.R_alloc | apply Kd.R_drewN | apply Kd.R_drew)); exact HO326.out) (Kd.R_base ho0) hb); have n1_ := Aside0.mk (Kd.R_elder' (by (with_reducible repeat (first | apply Kd.R_alloc | apply Kd.R_drewN | apply Kd.R_drew)); exact HO330.out) (Kd.R_base ho0) hb); have n2_ := Aside0.mk (Kd.R_elder' (by (with_reducible repeat (first | apply Kd.R_alloc | apply Kd.R_drewN | apply Kd.R_drew)); exact HO334.out) (Kd.R_base ho0) hb); have n3_ := Aside0.mk (Kd.R_lower (Kd.R_new' (Kd.R_new' (Kd.R_new' ho0 (Kd.R_lt (by (with_reducible repeat (first | apply Kd.R_alloc | apply Kd.R_drewN | apply Kd.R_drew)); exact HO326.out))) (Kd.R_lt (by (with_reducible repeat (first | apply Kd.R_alloc | apply Kd.R_drewN | apply Kd.R_drew)); exact HO330.out))) (Kd.R_lt (by (with_reducible repeat (first | apply Kd.R_alloc | apply Kd.R_drewN | apply Kd.R_drew)); exact HO334.out))) (below_size (by repeat (first | (with_reducible first | exact HB.out | apply below_alloc | apply pw_below_drewN | apply below_drew1) | exact HB.out)))); have n4_ := Aside0.mk (below_step (by repeat (first | (with_reducible first | exact HB.out | apply below_alloc | apply pw_below_drewN | apply below_drew1) | exact HB.out)) hb); clear HO326; clear HO330; clear HO334; clear HB; have HO326 := n0_; have HO330 := n1_; have HO334 := n2_; have HO338 := n3_; have HB := n4_; clear n0_ n1_ n2_ n3_ n4_; (try clear hb); (try clear hb2); (try clear hk); (try clear hi); (try clear ho0)) | ((with_reducible refine gate_callee (f := 45) rfl ?_); refine goesL_ (some 179) rfl rfl Try.func45 (by kernel_rfl) rfl #[.slice Ao96 t324.length co96] rfl (by (try simp only [List.map_toArray, List.map_cons, List.map_nil]); first | done | rfl | (simp only [List.length_drop, List.length_take]; rfl)) ?_; (with_reducible refine (spec_NextCool.calls kj16 _ _ t324 t339 t340 _ ?side1 ?side2 A91.out).mono ?_); (case side1 => repeat (first | exact (Kd.R_reads' HO326.out).2.2 | (with_reducible refine Kd.C_alloc ?_ _) | (with_reducible refine Kd.C_drewN ?_ _) | (with_reducible refine Kd.C_drew ?_))); (case side2 => exact (Kd.R_reads' HO326.out).2.1); rintro e w100 ⟨v341, rfl, ho0, hb⟩; refine ⟨_, rfl, ?_⟩; have n0_ := Aside0.mk (Kd.R_elder' (by (with_reducible repeat (first | apply Kd.R_alloc | apply Kd.R_drewN | apply Kd.R_drew)); exact HO326.out) (Kd.R_base ho0) hb); have n1_ := Aside0.mk (Kd.R_elder' (by (with_reducible repeat (first | apply Kd.R_alloc | apply Kd.R_drewN | apply Kd.R_drew)); exact HO330.out) (Kd.R_base ho0) hb); have n2_ := Aside0.mk (Kd.R_elder' (by (with_reducible repeat (first | apply Kd.R_alloc | apply Kd.R_drewN | apply Kd.R_drew)); exact HO334.out) (Kd.R_base ho0) hb); have n3_ := Aside0.mk (Kd.R_elder' (by (with_reducible repeat (first | apply Kd.R_alloc | apply Kd.R_drewN | apply Kd.R_drew)); exact HO338.out) (Kd.R_base ho0) hb); have n4_ := Aside0.mk (Kd.R_lower (Kd.R_new' (Kd.R_new' (Kd.R_new' (Kd.R_new' ho0 (Kd.R_lt (by (with_reducible repeat (first | apply Kd.R_alloc | apply Kd.R_drewN | apply Kd.R_drew)); exact HO326.out))) (Kd.R_lt (by (with_reducible repeat (first | apply Kd.R_alloc | apply Kd.R_drewN | apply Kd.R_drew)); exact HO330.out))) (Kd.R_lt (by (with_reducible repeat (first | apply Kd.R_alloc | apply Kd.R_drewN | apply Kd.R_drew)); exact HO334.out))) (Kd.R_lt (by (with_reducible repeat (first | apply Kd.R_alloc | apply Kd.R_drewN | apply Kd.R_drew)); exact HO338.out))) (below_size (by repeat (first | (with_reducible first | exact HB.out | apply below_alloc | apply pw_below_drewN | apply below_drew1) | exact HB.out)))); have n5_ := Aside0.mk (below_step (by repeat (first | (with_reducible first | exact HB.out | apply below_alloc | apply pw_below_drewN | apply below_drew1) | exact HB.out)) hb); clear HO326; clear HO330; clear HO334; clear HO338; clear HB; have HO326 := n0_; have HO330 := n1_; have HO334 := n2_; have HO338 := n3_; have HO342 := n4_; have HB := n5_; clear n0_ n1_ n2_ n3_ n4_ n5_; (try clear hb); (try clear hb2); (try clear hk); (try clear hi); (try clear ho0)) | ((with_reducible refine gate_callee (f := 15) rfl ?_); refine goesL_ (some 184) rfl rfl Try.func15 (by kernel_rfl) rfl #[.slice Ao96 t324.length co96] rfl (by (try simp only [List.map_toArray, List.map_cons, List.map_nil]); first | done | rfl | (simp only [List.length_drop, List.length_take]; rfl)) ?_; (with_reducible refine (impl_CoolRank.calls kj16 _ _ t324 t343 t344 _ ?side1 ?side2 A92.out).mono ?_); (case side1 => repeat (first | exact (Kd.R_reads' HO326.out).2.2 | (with_reducible refine Kd.C_alloc ?_ _) | (with_reducible refine Kd.C_drewN ?_ _) | (with_reducible refine Kd.C_drew ?_))); (case side2 => exact (Kd.R_reads' HO326.out).2.1); rintro e w101 ⟨rfl, hb⟩; refine ⟨_, rfl, ?_⟩; have n0_ := Aside0.mk (Kd.R_below (by (with_reducible repeat (first | apply Kd.R_alloc | apply Kd.R_drewN | apply Kd.R_drew)); exact HO326.out) hb); have n1_ := Aside0.mk (Kd.R_below (by (with_reducible repeat (first | apply Kd.R_alloc | apply Kd.R_drewN | apply Kd.R_drew)); exact HO330.out) hb); have n2_ := Aside0.mk (Kd.R_below (by (with_reducible repeat (first | apply Kd.R_alloc | apply Kd.R_drewN | apply Kd.R_drew)); exact HO334.out) hb); have n3_ := Aside0.mk (Kd.R_below (by (with_reducible repeat (first | apply Kd.R_alloc | apply Kd.R_drewN | apply Kd.R_drew)); exact HO338.out) hb); have n4_ := Aside0.mk (Kd.R_below (by (with_reducible repeat (first | apply Kd.R_alloc | apply Kd.R_drewN | apply Kd.R_drew)); exact HO342.out) hb); have n5_ := Aside0.mk (below_step (by repeat (first | (with_reducible first | exact HB.out | apply below_alloc | apply pw_below_drewN | apply below_drew1) | exact HB.out)) hb); clear HO326; clear HO330; clear HO334; clear HO338; clear HO342; clear HB; have HO326 := n0_; have HO330 := n1_; have HO334 := n2_; have HO338 := n3_; have HO342 := n4_; have HB := n5_; clear n0_ n1_ n2_ n3_ n4_ n5_; (try clear hb); (try clear hb2); (try clear hk); (try clear hi)) | ((with_reducible refine gate_callee (f := 13) rfl ?_); refine goesL_ (some 189) rfl rfl Try.func13 (by kernel_rfl) rfl #[.slice Ao96 t324.length co96] rfl (by (try simp only [List.map_toArray, List.map_cons, List.map_nil]); first | done | rfl | (simp only [List.length_drop, List.length_take]; rfl)) ?_; (with_reducible refine (spec_CoolRank.calls kj16 _ _ t324 t345 t346 _ ?side1 ?side2 A93.out).mono ?_); (case side1 => repeat (first | exact (Kd.R_reads' HO326.out).2.2 | (with_reducible refine Kd.C_alloc ?_ _) | (with_reducible refine Kd.C_drewN ?_ _) | (with_reducible refine Kd.C_drew ?_))); (case side2 => exact (Kd.R_reads' HO326.out).2.1); rintro e w102 ⟨rfl, hb⟩; refine ⟨_, rfl, ?_⟩; have n0_ := Aside0.mk (Kd.R_below (by (with_reducible repeat (first | apply Kd.R_alloc | apply Kd.R_drewN | apply Kd.R_drew)); exact HO326.out) hb); have n1_ := Aside0.mk (Kd.R_below (by (with_reducible repeat (first | apply Kd.R_alloc | apply Kd.R_drewN | apply Kd.R_drew)); exact HO330.out) hb); have n2_ := Aside0.mk (Kd.R_below (by (with_reducible repeat (first | apply Kd.R_alloc | apply Kd.R_drewN | apply Kd.R_drew)); exact HO334.out) hb); have n3_ := Aside0.mk (Kd.R_below (by (with_reducible repeat (first | apply Kd.R_alloc | apply Kd.R_drewN | apply Kd.R_drew)); exact HO338.out) hb); have n4_ := Aside0.mk (Kd.R_below (by (with_reducible repeat (first | apply Kd.R_alloc | apply Kd.R_drewN | apply Kd.R_drew)); exact HO342.out) hb); have n5_ := Aside0.mk (below_step (by repeat (first | (with_reducible first | exact HB.out | apply below_alloc | apply pw_below_drewN | apply below_drew1) | exact HB.out)) hb); clear HO326; clear HO330; clear HO334; clear HO338; clear HO342; clear HB; have HO326 := n0_; have HO330 := n1_; have HO334 := n2_; have HO338 := n3_; have HO342 := n4_; have HB := n5_; clear n0_ n1_ n2_ n3_ n4_ n5_; (try clear hb); (try clear hb2); (try clear hk); (try clear hi)))
              (try simp only [Act.put, List.setIfInBounds_toArray, List.set_cons_zero, List.set_cons_succ])
              go_cut [221] (fun v221 wc => ∃ (kq : Nat) (x221_93 : Bool), v221 = .bool x221_93 ∧ Aside0 (laws_FnCoolLists.j4 kq t324 t327 t328 x221_93 = some r) ∧ Aside0 (kq ≤ kj16) ∧ Aside0 (Kd.R (Kd.int .i64) 3 wc w.heap.size (fun k_ => some k_ ≠ (v329 : Value).ownBlock) (.slice Ao96 t324.length co96) t324) ∧ Aside0 (Kd.R (Kd.int .i64) 3 wc w.heap.size (fun k_ => some k_ ≠ ((.slice Ao96 t324.length co96) : Value).ownBlock) v329 t327) ∧ Aside0 (Below w.heap.size w wc))
              case first =>
                have H := HC94.out
                clear HC94
                by_cases c103 : (t328 != t332) = true
                · rw [if_pos c103] at H
                  have c103b0 : (t328 != t332) = true := c103
                  (try (have c103b1 : decide (t328 = t332) = false := by simpa using c103))
                  (try (have c103b2 : (t328 == t332) = false := by simpa using c103))
                  (try (have c103b3 : ¬ (t328 = t332) := by simpa using c103))
                  clear c103
                  (first | rw [c103b0] | (simp only [i64_w, i32_w]; rw [c103b0]) | skip)
                  have H' := Aside0.mk H
                  clear H
                  go_wp2
                  go_meet
                  case rel => exact ⟨_, (true), (by first | rfl | (simp; done) | (simp [*]; done)), H', ⟨by have := HJ7.out; have := HJ16.out; first | omega | exact Nat.le_refl _⟩, ⟨by (with_reducible repeat (first | apply Kd.R_alloc | apply Kd.R_drewN | apply Kd.R_drew)); exact Kd.R_mono HO326.out (fun k_ hk => by first | exact hk.1.1.1.2 | (and_intros <;> first | exact hk.1 | exact hk.2 | exact hk.1.1 | exact hk.1.2 | exact hk.2.1 | exact hk.2.2 | exact hk.1.1.1 | exact hk.1.1.2 | exact hk.1.2.1 | exact hk.1.2.2 | exact hk.2.1.1 | exact hk.2.1.2 | exact hk.2.2.1 | exact hk.2.2.2 | trivial))⟩, ⟨by (with_reducible repeat (first | apply Kd.R_alloc | apply Kd.R_drewN | apply Kd.R_drew)); exact Kd.R_mono HO330.out (fun k_ hk => by first | exact hk.1.1.1.2 | (and_intros <;> first | exact hk.1 | exact hk.2 | exact hk.1.1 | exact hk.1.2 | exact hk.2.1 | exact hk.2.2 | exact hk.1.1.1 | exact hk.1.1.2 | exact hk.1.2.1 | exact hk.1.2.2 | exact hk.2.1.1 | exact hk.2.1.2 | exact hk.2.2.1 | exact hk.2.2.2 | trivial))⟩, ⟨by repeat (first | (with_reducible first | exact HB.out | apply below_alloc | apply pw_below_drewN | apply below_drew1) | exact HB.out)⟩⟩
                · rw [if_neg c103] at H
                  have c103b0 : (t328 != t332) = false := by simpa using c103
                  (try (have c103b1 : decide (t328 = t332) = true := by simpa using c103))
                  (try (have c103b2 : (t328 == t332) = true := by simpa using c103))
                  clear c103
                  (first | rw [c103b0] | (simp only [i64_w, i32_w]; rw [c103b0]) | skip)
                  replace H := Option.bind_eq_some_iff.mp H
                  obtain ⟨t347, A1040, H⟩ := H
                  replace H : (if t347 = true then (if (t336 != t340) = true then (laws_FnCoolLists.j4 kj16 t324 t327 t328 true) else ((laws_uSame.f kj16 t335 t339).bind fun t348 => (if t348 = true then (if (t344 != t346) = true then (laws_FnCoolLists.j4 kj16 t324 t327 t328 true) else (laws_FnCoolLists.j4 kj16 t324 t327 t328 (t343 != t345))) else (laws_FnCoolLists.j4 kj16 t324 t327 t328 true)))) else (laws_FnCoolLists.j4 kj16 t324 t327 t328 true)) = some r := H
                  have A104 := Aside0.mk A1040
                  clear A1040
                  by_cases c105 : t347 = true
                  · subst c105
                    have H1 : (if (t336 != t340) = true then (laws_FnCoolLists.j4 kj16 t324 t327 t328 true) else ((laws_uSame.f kj16 t335 t339).bind fun t348 => (if t348 = true then (if (t344 != t346) = true then (laws_FnCoolLists.j4 kj16 t324 t327 t328 true) else (laws_FnCoolLists.j4 kj16 t324 t327 t328 (t343 != t345))) else (laws_FnCoolLists.j4 kj16 t324 t327 t328 true)))) = some r := by rw [if_pos rfl] at H; exact H
                    clear H
                    have H := H1
                    clear H1
                    by_cases c106 : (t336 != t340) = true
                    · rw [if_pos c106] at H
                      have c106b0 : (t336 != t340) = true := c106
                      (try (have c106b1 : decide (t336 = t340) = false := by simpa using c106))
                      (try (have c106b2 : (t336 == t340) = false := by simpa using c106))
                      (try (have c106b3 : ¬ (t336 = t340) := by simpa using c106))
                      clear c106
                      have H' := Aside0.mk H
                      clear H
                      obtain ⟨Ao107, co107, eo107⟩ := Kd.R_slice HO330.out
                      subst eo107
                      obtain ⟨Ao108, co108, eo108⟩ := Kd.R_slice HO334.out
                      subst eo108
                      go_wp2_with (first | (go_at_call 41; (with_reducible refine (laws_uSame.calls kj16 _ _ t327 _ _ t331 true _ ?side1 ?side2 ?side3 ?side4 A104.out).mono ?_); (case side1 => repeat (first | exact (Kd.R_reads' HO330.out).2.2 | (with_reducible refine Kd.C_alloc ?_ _) | (with_reducible refine Kd.C_drewN ?_ _) | (with_reducible refine Kd.C_drew ?_))); (case side2 => exact (Kd.R_reads' HO330.out).2.1); (case side3 => repeat (first | exact (Kd.R_reads' HO334.out).2.2 | (with_reducible refine Kd.C_alloc ?_ _) | (with_reducible refine Kd.C_drewN ?_ _) | (with_reducible refine Kd.C_drew ?_))); (case side4 => exact (Kd.R_reads' HO334.out).2.1); rintro e w' ⟨rfl, ⟨nd, rfl⟩⟩))
                      go_meet
                      case rel => exact ⟨_, (true), (by first | rfl | (simp; done) | (simp [*]; done)), H', ⟨by have := HJ7.out; have := HJ16.out; first | omega | exact Nat.le_refl _⟩, ⟨by (with_reducible repeat (first | apply Kd.R_alloc | apply Kd.R_drewN | apply Kd.R_drew)); exact Kd.R_mono HO326.out (fun k_ hk => by first | exact hk.1.1.1.2 | (and_intros <;> first | exact hk.1 | exact hk.2 | exact hk.1.1 | exact hk.1.2 | exact hk.2.1 | exact hk.2.2 | exact hk.1.1.1 | exact hk.1.1.2 | exact hk.1.2.1 | exact hk.1.2.2 | exact hk.2.1.1 | exact hk.2.1.2 | exact hk.2.2.1 | exact hk.2.2.2 | trivial))⟩, ⟨by (with_reducible repeat (first | apply Kd.R_alloc | apply Kd.R_drewN | apply Kd.R_drew)); exact Kd.R_mono HO330.out (fun k_ hk => by first | exact hk.1.1.1.2 | (and_intros <;> first | exact hk.1 | exact hk.2 | exact hk.1.1 | exact hk.1.2 | exact hk.2.1 | exact hk.2.2 | exact hk.1.1.1 | exact hk.1.1.2 | exact hk.1.2.1 | exact hk.1.2.2 | exact hk.2.1.1 | exact hk.2.1.2 | exact hk.2.2.1 | exact hk.2.2.2 | trivial))⟩, ⟨by repeat (first | (with_reducible first | exact HB.out | apply below_alloc | apply pw_below_drewN | apply below_drew1) | exact HB.out)⟩⟩
                    · rw [if_neg c106] at H
                      have c106b0 : (t336 != t340) = false := by simpa using c106
                      (try (have c106b1 : decide (t336 = t340) = true := by simpa using c106))
                      (try (have c106b2 : (t336 == t340) = true := by simpa using c106))
                      clear c106
                      replace H := Option.bind_eq_some_iff.mp H
                      obtain ⟨t348, A1090, H⟩ := H
                      replace H : (if t348 = true then (if (t344 != t346) = true then (laws_FnCoolLists.j4 kj16 t324 t327 t328 true) else (laws_FnCoolLists.j4 kj16 t324 t327 t328 (t343 != t345))) else (laws_FnCoolLists.j4 kj16 t324 t327 t328 true)) = some r := H
                      have A109 := Aside0.mk A1090
                      clear A1090
                      by_cases c110 : t348 = true
                      · subst c110
                        have H1 : (if (t344 != t346) = true then (laws_FnCoolLists.j4 kj16 t324 t327 t328 true) else (laws_FnCoolLists.j4 kj16 t324 t327 t328 (t343 != t345))) = some r := by rw [if_pos rfl] at H; exact H
                        clear H
                        have H := H1
                        clear H1
                        by_cases c111 : (t344 != t346) = true
                        · rw [if_pos c111] at H
                          have c111b0 : (t344 != t346) = true := c111
                          (try (have c111b1 : decide (t344 = t346) = false := by simpa using c111))
                          (try (have c111b2 : (t344 == t346) = false := by simpa using c111))
                          (try (have c111b3 : ¬ (t344 = t346) := by simpa using c111))
                          clear c111
                          have H' := Aside0.mk H
                          clear H
                          obtain ⟨Ao112, co112, eo112⟩ := Kd.R_slice HO330.out
                          subst eo112
                          obtain ⟨Ao113, co113, eo113⟩ := Kd.R_slice HO334.out
                          subst eo113
                          go_wp2_with (first | (go_at_call 41; (with_reducible refine (laws_uSame.calls kj16 _ _ t327 _ _ t331 true _ ?side1 ?side2 ?side3 ?side4 A104.out).mono ?_); (case side1 => repeat (first | exact (Kd.R_reads' HO330.out).2.2 | (with_reducible refine Kd.C_alloc ?_ _) | (with_reducible refine Kd.C_drewN ?_ _) | (with_reducible refine Kd.C_drew ?_))); (case side2 => exact (Kd.R_reads' HO330.out).2.1); (case side3 => repeat (first | exact (Kd.R_reads' HO334.out).2.2 | (with_reducible refine Kd.C_alloc ?_ _) | (with_reducible refine Kd.C_drewN ?_ _) | (with_reducible refine Kd.C_drew ?_))); (case side4 => exact (Kd.R_reads' HO334.out).2.1); rintro e w' ⟨rfl, ⟨nd, rfl⟩⟩; obtain ⟨Ao114, co114, eo114⟩ := Kd.R_slice HO338.out; subst eo114; obtain ⟨Ao115, co115, eo115⟩ := Kd.R_slice HO342.out; subst eo115) | (go_at_call 41; (with_reducible refine (laws_uSame.calls kj16 _ _ t335 _ _ t339 true _ ?side1 ?side2 ?side3 ?side4 A109.out).mono ?_); (case side1 => repeat (first | exact (Kd.R_reads' HO338.out).2.2 | (with_reducible refine Kd.C_alloc ?_ _) | (with_reducible refine Kd.C_drewN ?_ _) | (with_reducible refine Kd.C_drew ?_))); (case side2 => exact (Kd.R_reads' HO338.out).2.1); (case side3 => repeat (first | exact (Kd.R_reads' HO342.out).2.2 | (with_reducible refine Kd.C_alloc ?_ _) | (with_reducible refine Kd.C_drewN ?_ _) | (with_reducible refine Kd.C_drew ?_))); (case side4 => exact (Kd.R_reads' HO342.out).2.1); rintro e w' ⟨rfl, ⟨nd, rfl⟩⟩))
                          go_meet
                          case rel => exact ⟨_, (true), (by first | rfl | (simp; done) | (simp [*]; done)), H', ⟨by have := HJ7.out; have := HJ16.out; first | omega | exact Nat.le_refl _⟩, ⟨by (with_reducible repeat (first | apply Kd.R_alloc | apply Kd.R_drewN | apply Kd.R_drew)); exact Kd.R_mono HO326.out (fun k_ hk => by first | exact hk.1.1.1.2 | (and_intros <;> first | exact hk.1 | exact hk.2 | exact hk.1.1 | exact hk.1.2 | exact hk.2.1 | exact hk.2.2 | exact hk.1.1.1 | exact hk.1.1.2 | exact hk.1.2.1 | exact hk.1.2.2 | exact hk.2.1.1 | exact hk.2.1.2 | exact hk.2.2.1 | exact hk.2.2.2 | trivial))⟩, ⟨by (with_reducible repeat (first | apply Kd.R_alloc | apply Kd.R_drewN | apply Kd.R_drew)); exact Kd.R_mono HO330.out (fun k_ hk => by first | exact hk.1.1.1.2 | (and_intros <;> first | exact hk.1 | exact hk.2 | exact hk.1.1 | exact hk.1.2 | exact hk.2.1 | exact hk.2.2 | exact hk.1.1.1 | exact hk.1.1.2 | exact hk.1.2.1 | exact hk.1.2.2 | exact hk.2.1.1 | exact hk.2.1.2 | exact hk.2.2.1 | exact hk.2.2.2 | trivial))⟩, ⟨by repeat (first | (with_reducible first | exact HB.out | apply below_alloc | apply pw_below_drewN | apply below_drew1) | exact HB.out)⟩⟩
                        · rw [if_neg c111] at H
                          have c111b0 : (t344 != t346) = false := by simpa using c111
                          (try (have c111b1 : decide (t344 = t346) = true := by simpa using c111))
                          (try (have c111b2 : (t344 == t346) = true := by simpa using c111))
                          clear c111
                          have H' := Aside0.mk H
                          clear H
                          obtain ⟨Ao116, co116, eo116⟩ := Kd.R_slice HO330.out
                          subst eo116
                          obtain ⟨Ao117, co117, eo117⟩ := Kd.R_slice HO334.out
                          subst eo117
                          go_wp2_with (first | (go_at_call 41; (with_reducible refine (laws_uSame.calls kj16 _ _ t327 _ _ t331 true _ ?side1 ?side2 ?side3 ?side4 A104.out).mono ?_); (case side1 => repeat (first | exact (Kd.R_reads' HO330.out).2.2 | (with_reducible refine Kd.C_alloc ?_ _) | (with_reducible refine Kd.C_drewN ?_ _) | (with_reducible refine Kd.C_drew ?_))); (case side2 => exact (Kd.R_reads' HO330.out).2.1); (case side3 => repeat (first | exact (Kd.R_reads' HO334.out).2.2 | (with_reducible refine Kd.C_alloc ?_ _) | (with_reducible refine Kd.C_drewN ?_ _) | (with_reducible refine Kd.C_drew ?_))); (case side4 => exact (Kd.R_reads' HO334.out).2.1); rintro e w' ⟨rfl, ⟨nd, rfl⟩⟩; obtain ⟨Ao118, co118, eo118⟩ := Kd.R_slice HO338.out; subst eo118; obtain ⟨Ao119, co119, eo119⟩ := Kd.R_slice HO342.out; subst eo119) | (go_at_call 41; (with_reducible refine (laws_uSame.calls kj16 _ _ t335 _ _ t339 true _ ?side1 ?side2 ?side3 ?side4 A109.out).mono ?_); (case side1 => repeat (first | exact (Kd.R_reads' HO338.out).2.2 | (with_reducible refine Kd.C_alloc ?_ _) | (with_reducible refine Kd.C_drewN ?_ _) | (with_reducible refine Kd.C_drew ?_))); (case side2 => exact (Kd.R_reads' HO338.out).2.1); (case side3 => repeat (first | exact (Kd.R_reads' HO342.out).2.2 | (with_reducible refine Kd.C_alloc ?_ _) | (with_reducible refine Kd.C_drewN ?_ _) | (with_reducible refine Kd.C_drew ?_))); (case side4 => exact (Kd.R_reads' HO342.out).2.1); rintro e w' ⟨rfl, ⟨nd, rfl⟩⟩))
                          go_meet
                          case rel => exact ⟨_, ((t343 != t345)), (by first | rfl | (simp; done) | (simp [*]; done)), H', ⟨by have := HJ7.out; have := HJ16.out; first | omega | exact Nat.le_refl _⟩, ⟨by (with_reducible repeat (first | apply Kd.R_alloc | apply Kd.R_drewN | apply Kd.R_drew)); exact Kd.R_mono HO326.out (fun k_ hk => by first | exact hk.1.1.1.2 | (and_intros <;> first | exact hk.1 | exact hk.2 | exact hk.1.1 | exact hk.1.2 | exact hk.2.1 | exact hk.2.2 | exact hk.1.1.1 | exact hk.1.1.2 | exact hk.1.2.1 | exact hk.1.2.2 | exact hk.2.1.1 | exact hk.2.1.2 | exact hk.2.2.1 | exact hk.2.2.2 | trivial))⟩, ⟨by (with_reducible repeat (first | apply Kd.R_alloc | apply Kd.R_drewN | apply Kd.R_drew)); exact Kd.R_mono HO330.out (fun k_ hk => by first | exact hk.1.1.1.2 | (and_intros <;> first | exact hk.1 | exact hk.2 | exact hk.1.1 | exact hk.1.2 | exact hk.2.1 | exact hk.2.2 | exact hk.1.1.1 | exact hk.1.1.2 | exact hk.1.2.1 | exact hk.1.2.2 | exact hk.2.1.1 | exact hk.2.1.2 | exact hk.2.2.1 | exact hk.2.2.2 | trivial))⟩, ⟨by repeat (first | (with_reducible first | exact HB.out | apply below_alloc | apply pw_below_drewN | apply below_drew1) | exact HB.out)⟩⟩
                      · replace c110 := Bool.eq_false_iff.mpr c110
                        subst c110
                        have H1 : (laws_FnCoolLists.j4 kj16 t324 t327 t328 true) = some r := by rw [if_neg (show ¬ (false = true) by decide)] at H; exact H
                        clear H
                        have H := H1
                        clear H1
                        have H' := Aside0.mk H
                        clear H
                        obtain ⟨Ao120, co120, eo120⟩ := Kd.R_slice HO330.out
                        subst eo120
                        obtain ⟨Ao121, co121, eo121⟩ := Kd.R_slice HO334.out
                        subst eo121
                        go_wp2_with (first | (go_at_call 41; (with_reducible refine (laws_uSame.calls kj16 _ _ t327 _ _ t331 true _ ?side1 ?side2 ?side3 ?side4 A104.out).mono ?_); (case side1 => repeat (first | exact (Kd.R_reads' HO330.out).2.2 | (with_reducible refine Kd.C_alloc ?_ _) | (with_reducible refine Kd.C_drewN ?_ _) | (with_reducible refine Kd.C_drew ?_))); (case side2 => exact (Kd.R_reads' HO330.out).2.1); (case side3 => repeat (first | exact (Kd.R_reads' HO334.out).2.2 | (with_reducible refine Kd.C_alloc ?_ _) | (with_reducible refine Kd.C_drewN ?_ _) | (with_reducible refine Kd.C_drew ?_))); (case side4 => exact (Kd.R_reads' HO334.out).2.1); rintro e w' ⟨rfl, ⟨nd, rfl⟩⟩; obtain ⟨Ao122, co122, eo122⟩ := Kd.R_slice HO338.out; subst eo122; obtain ⟨Ao123, co123, eo123⟩ := Kd.R_slice HO342.out; subst eo123) | (go_at_call 41; (with_reducible refine (laws_uSame.calls kj16 _ _ t335 _ _ t339 false _ ?side1 ?side2 ?side3 ?side4 A109.out).mono ?_); (case side1 => repeat (first | exact (Kd.R_reads' HO338.out).2.2 | (with_reducible refine Kd.C_alloc ?_ _) | (with_reducible refine Kd.C_drewN ?_ _) | (with_reducible refine Kd.C_drew ?_))); (case side2 => exact (Kd.R_reads' HO338.out).2.1); (case side3 => repeat (first | exact (Kd.R_reads' HO342.out).2.2 | (with_reducible refine Kd.C_alloc ?_ _) | (with_reducible refine Kd.C_drewN ?_ _) | (with_reducible refine Kd.C_drew ?_))); (case side4 => exact (Kd.R_reads' HO342.out).2.1); rintro e w' ⟨rfl, ⟨nd, rfl⟩⟩))
                        go_meet
                        case rel => exact ⟨_, (true), (by first | rfl | (simp; done) | (simp [*]; done)), H', ⟨by have := HJ7.out; have := HJ16.out; first | omega | exact Nat.le_refl _⟩, ⟨by (with_reducible repeat (first | apply Kd.R_alloc | apply Kd.R_drewN | apply Kd.R_drew)); exact Kd.R_mono HO326.out (fun k_ hk => by first | exact hk.1.1.1.2 | (and_intros <;> first | exact hk.1 | exact hk.2 | exact hk.1.1 | exact hk.1.2 | exact hk.2.1 | exact hk.2.2 | exact hk.1.1.1 | exact hk.1.1.2 | exact hk.1.2.1 | exact hk.1.2.2 | exact hk.2.1.1 | exact hk.2.1.2 | exact hk.2.2.1 | exact hk.2.2.2 | trivial))⟩, ⟨by (with_reducible repeat (first | apply Kd.R_alloc | apply Kd.R_drewN | apply Kd.R_drew)); exact Kd.R_mono HO330.out (fun k_ hk => by first | exact hk.1.1.1.2 | (and_intros <;> first | exact hk.1 | exact hk.2 | exact hk.1.1 | exact hk.1.2 | exact hk.2.1 | exact hk.2.2 | exact hk.1.1.1 | exact hk.1.1.2 | exact hk.1.2.1 | exact hk.1.2.2 | exact hk.2.1.1 | exact hk.2.1.2 | exact hk.2.2.1 | exact hk.2.2.2 | trivial))⟩, ⟨by repeat (first | (with_reducible first | exact HB.out | apply below_alloc | apply pw_below_drewN | apply below_drew1) | exact HB.out)⟩⟩
                  · replace c105 := Bool.eq_false_iff.mpr c105
                    subst c105
                    have H1 : (laws_FnCoolLists.j4 kj16 t324 t327 t328 true) = some r := by rw [if_neg (show ¬ (false = true) by decide)] at H; exact H
                    clear H
                    have H := H1
                    clear H1
                    have H' := Aside0.mk H
                    clear H
                    obtain ⟨Ao124, co124, eo124⟩ := Kd.R_slice HO330.out
                    subst eo124
                    obtain ⟨Ao125, co125, eo125⟩ := Kd.R_slice HO334.out
                    subst eo125
                    go_wp2_with (first | (go_at_call 41; (with_reducible refine (laws_uSame.calls kj16 _ _ t327 _ _ t331 false _ ?side1 ?side2 ?side3 ?side4 A104.out).mono ?_); (case side1 => repeat (first | exact (Kd.R_reads' HO330.out).2.2 | (with_reducible refine Kd.C_alloc ?_ _) | (with_reducible refine Kd.C_drewN ?_ _) | (with_reducible refine Kd.C_drew ?_))); (case side2 => exact (Kd.R_reads' HO330.out).2.1); (case side3 => repeat (first | exact (Kd.R_reads' HO334.out).2.2 | (with_reducible refine Kd.C_alloc ?_ _) | (with_reducible refine Kd.C_drewN ?_ _) | (with_reducible refine Kd.C_drew ?_))); (case side4 => exact (Kd.R_reads' HO334.out).2.1); rintro e w' ⟨rfl, ⟨nd, rfl⟩⟩))
                    go_meet
                    case rel => exact ⟨_, (true), (by first | rfl | (simp; done) | (simp [*]; done)), H', ⟨by have := HJ7.out; have := HJ16.out; first | omega | exact Nat.le_refl _⟩, ⟨by (with_reducible repeat (first | apply Kd.R_alloc | apply Kd.R_drewN | apply Kd.R_drew)); exact Kd.R_mono HO326.out (fun k_ hk => by first | exact hk.1.1.1.2 | (and_intros <;> first | exact hk.1 | exact hk.2 | exact hk.1.1 | exact hk.1.2 | exact hk.2.1 | exact hk.2.2 | exact hk.1.1.1 | exact hk.1.1.2 | exact hk.1.2.1 | exact hk.1.2.2 | exact hk.2.1.1 | exact hk.2.1.2 | exact hk.2.2.1 | exact hk.2.2.2 | trivial))⟩, ⟨by (with_reducible repeat (first | apply Kd.R_alloc | apply Kd.R_drewN | apply Kd.R_drew)); exact Kd.R_mono HO330.out (fun k_ hk => by first | exact hk.1.1.1.2 | (and_intros <;> first | exact hk.1 | exact hk.2 | exact hk.1.1 | exact hk.1.2 | exact hk.2.1 | exact hk.2.2 | exact hk.1.1.1 | exact hk.1.1.2 | exact hk.1.2.1 | exact hk.1.2.2 | exact hk.2.1.1 | exact hk.2.1.2 | exact hk.2.2.1 | exact hk.2.2.2 | trivial))⟩, ⟨by repeat (first | (with_reducible first | exact HB.out | apply below_alloc | apply pw_below_drewN | apply below_drew1) | exact HB.out)⟩⟩
              case rest => as_aux_lemma =>
                clear HC94
                try clear c1
                try clear c2
                try clear p2
                try clear c3
                try clear p3
                try clear q3
                try clear hx3
                try clear c4
                try clear q4
                try clear p5
                try clear q5
                try clear hx5
                try clear hf5
                try clear p6
                try clear c7
                try clear c8
                try clear c9
                try clear c10
                try clear c11
                try clear c12
                try clear c12b0
                try clear c12b1
                try clear c12b2
                try clear c13
                try clear c15
                try clear c16
                try clear c18
                try clear c21
                try clear c23
                try clear c24
                try clear c24b0
                try clear c24b1
                try clear c25
                try clear c25b0
                try clear c25b1
                try clear c29
                try clear c29b0
                try clear c30
                try clear c30b0
                try clear p30
                try clear q30
                try clear hx30
                try clear c31
                try clear c31b0
                try clear p31
                try clear q31
                try clear hx31
                try clear c32
                try clear p32
                try clear q32
                try clear hx32
                try clear c33
                try clear c34
                try clear c35
                try clear c36
                try clear c36b0
                try clear c36b1
                try clear c37
                try clear c38
                try clear c38b0
                try clear c39
                try clear c39b0
                try clear c40
                try clear c41
                try clear c42
                try clear c43
                try clear c44
                try clear c44b0
                try clear c45
                try clear c45b0
                try clear q46
                try clear c47
                try clear p53
                try clear q53
                try clear hx53
                try clear hf53
                try clear p64
                try clear c77
                try clear c77b0
                try clear c77b1
                try clear c79
                try clear c79b0
                try clear c80
                try clear c80b0
                try clear c82
                try clear c83
                try clear c83b0
                try clear c83b1
                try clear c103
                try clear c103b0
                try clear c103b1
                try clear c103b2
                try clear c105
                try clear c106
                try clear c106b0
                try clear c106b1
                try clear c106b2
                try clear c110
                try clear c111
                try clear c111b0
                try clear c111b1
                try clear c111b2
                try clear hx305_0
                try clear hx316_0
                try clear hx318_0
                try clear hx321_0
                try clear hx53_0
                try clear p2
                try clear p3
                try clear p30
                try clear p305
                try clear p31
                try clear p316
                try clear p318
                try clear p32
                try clear p321
                try clear p5
                try clear p53
                try clear p6
                try clear p64
                try clear q3
                try clear q30
                try clear q305
                try clear q31
                try clear q316
                try clear q318
                try clear q32
                try clear q321
                try clear q4
                try clear q46
                try clear q5
                try clear q53
                obtain ⟨kq, x221_93, rfl, HA, HJ93, HO_25, HO_26, HB⟩ := hcut
                cases kq with
                | zero => exact absurd HA.out (by simp [laws_FnCoolLists.j4])
                | succ kj93 =>
                  have H := HA.out
                  clear HA
                  simp only [laws_FnCoolLists.j4] at H
                  by_cases c126 : x221_93 = true
                  · subst c126
                    have H1 : (some false) = some r := by rw [if_pos rfl] at H; exact H
                    clear H
                    have H := H1
                    clear H1
                    obtain rfl := Option.some.inj H
                    go_wp2
                    go_ret
                    exact ⟨by first | rfl | (simp [errW_none, errW_some] <;> rfl) | (simp [*, errW_none, errW_some] <;> rfl), by repeat (first | (with_reducible first | exact HB.out | apply below_alloc | apply pw_below_drewN | apply below_drew1) | exact HB.out)⟩
                  · replace c126 := Bool.eq_false_iff.mpr c126
                    subst c126
                    have H1 : (if t328 = true then ((impl_BitsOf.f kj93 (t324.length : Int) t327).bind fun bt349 => (if bt349.2 = true then ((laws_uSame.f kj93 bt349.1 t324).bind fun t353 => (some t353)) else (some false))) else (some true)) = some r := by rw [if_neg (show ¬ (false = true) by decide)] at H; exact H
                    clear H
                    have H := H1
                    clear H1
                    by_cases c127 : t328 = true
                    · subst c127
                      have H1 : ((impl_BitsOf.f kj93 (t324.length : Int) t327).bind fun bt349 => (if bt349.2 = true then ((laws_uSame.f kj93 bt349.1 t324).bind fun t353 => (some t353)) else (some false))) = some r := by rw [if_pos rfl] at H; exact H
                      clear H
                      have H := H1
                      clear H1
                      replace H := Option.bind_eq_some_iff.mp H
                      obtain ⟨⟨t349, t350⟩, A1280, H⟩ := H
                      replace H : (if t350 = true then ((laws_uSame.f kj93 t349 t324).bind fun t353 => (some t353)) else (some false)) = some r := H
                      have A128 := Aside0.mk A1280
                      clear A1280
                      by_cases c129 : t350 = true
                      · subst c129
                        have H1 : ((laws_uSame.f kj93 t349 t324).bind fun t353 => (some t353)) = some r := by rw [if_pos rfl] at H; exact H
                        clear H
                        have H := H1
                        clear H1
                        replace H := Option.bind_eq_some_iff.mp H
                        obtain ⟨t353, A1300, H⟩ := H
                        replace H : (some t353) = some r := H
                        have A130 := Aside0.mk A1300
                        clear A1300
                        obtain rfl := Option.some.inj H
                        obtain ⟨Ao131, co131, eo131⟩ := Kd.R_slice HO_26.out
                        subst eo131
                        go_wp2_with (first | ((with_reducible refine gate_callee (f := 46) rfl ?_); refine goesL_ (some 227) rfl rfl Try.func46 (by kernel_rfl) rfl #[.int .i64 (t324.length : Int), .slice Ao131 t327.length co131] rfl (by (try simp only [List.map_toArray, List.map_cons, List.map_nil]); first | done | rfl | (simp only [List.length_drop, List.length_take]; rfl)) ?_; (with_reducible refine (impl_BitsOf.calls kj93 (t324.length : Int) _ _ t327 t349 true _ ?side1 ?side2 A128.out).mono ?_); (case side1 => repeat (first | exact (Kd.R_reads' HO_26.out).2.2 | (with_reducible refine Kd.C_alloc ?_ _) | (with_reducible refine Kd.C_drewN ?_ _) | (with_reducible refine Kd.C_drew ?_))); (case side2 => exact (Kd.R_reads' HO_26.out).2.1); rintro e w132 ⟨v351, rfl, ho0, hb⟩; refine ⟨_, rfl, ?_⟩; have n0_ := Aside0.mk (Kd.R_elder' (by (with_reducible repeat (first | apply Kd.R_alloc | apply Kd.R_drewN | apply Kd.R_drew)); exact HO_25.out) (Kd.R_base ho0) hb); have n1_ := Aside0.mk (Kd.R_elder' (by (with_reducible repeat (first | apply Kd.R_alloc | apply Kd.R_drewN | apply Kd.R_drew)); exact HO_26.out) (Kd.R_base ho0) hb); have n2_ := Aside0.mk (Kd.R_lower (Kd.R_new' (Kd.R_new' ho0 (Kd.R_lt (by (with_reducible repeat (first | apply Kd.R_alloc | apply Kd.R_drewN | apply Kd.R_drew)); exact HO_25.out))) (Kd.R_lt (by (with_reducible repeat (first | apply Kd.R_alloc | apply Kd.R_drewN | apply Kd.R_drew)); exact HO_26.out))) (below_size (by repeat (first | (with_reducible first | exact HB.out | apply below_alloc | apply pw_below_drewN | apply below_drew1) | exact HB.out)))); have n3_ := Aside0.mk (below_step (by repeat (first | (with_reducible first | exact HB.out | apply below_alloc | apply pw_below_drewN | apply below_drew1) | exact HB.out)) hb); clear HO_25; clear HO_26; clear HB; have HO_25 := n0_; have HO_26 := n1_; have HO352 := n2_; have HB := n3_; clear n0_ n1_ n2_ n3_; (try clear hb); (try clear hb2); (try clear hk); (try clear hi); (try clear ho0); obtain ⟨Ao133, co133, eo133⟩ := Kd.R_slice HO352.out; subst eo133) | (go_at_call 41; (with_reducible refine (laws_uSame.calls kj93 _ _ t349 _ _ t324 t353 _ ?side1 ?side2 ?side3 ?side4 A130.out).mono ?_); (case side1 => repeat (first | exact (Kd.R_reads' HO352.out).2.2 | (with_reducible refine Kd.C_alloc ?_ _) | (with_reducible refine Kd.C_drewN ?_ _) | (with_reducible refine Kd.C_drew ?_))); (case side2 => exact (Kd.R_reads' HO352.out).2.1); (case side3 => repeat (first | exact (Kd.R_reads' HO_25.out).2.2 | (with_reducible refine Kd.C_alloc ?_ _) | (with_reducible refine Kd.C_drewN ?_ _) | (with_reducible refine Kd.C_drew ?_))); (case side4 => exact (Kd.R_reads' HO_25.out).2.1); rintro e w' ⟨rfl, ⟨nd, rfl⟩⟩))
                        go_ret
                        exact ⟨by first | rfl | (simp [errW_none, errW_some] <;> rfl) | (simp [*, errW_none, errW_some] <;> rfl), by repeat (first | (with_reducible first | exact HB.out | apply below_alloc | apply pw_below_drewN | apply below_drew1) | exact HB.out)⟩
                      · replace c129 := Bool.eq_false_iff.mpr c129
                        subst c129
                        have H1 : (some false) = some r := by rw [if_neg (show ¬ (false = true) by decide)] at H; exact H
                        clear H
                        have H := H1
                        clear H1
                        obtain rfl := Option.some.inj H
                        obtain ⟨Ao134, co134, eo134⟩ := Kd.R_slice HO_26.out
                        subst eo134
                        go_wp2_with (first | ((with_reducible refine gate_callee (f := 46) rfl ?_); refine goesL_ (some 227) rfl rfl Try.func46 (by kernel_rfl) rfl #[.int .i64 (t324.length : Int), .slice Ao134 t327.length co134] rfl (by (try simp only [List.map_toArray, List.map_cons, List.map_nil]); first | done | rfl | (simp only [List.length_drop, List.length_take]; rfl)) ?_; (with_reducible refine (impl_BitsOf.calls kj93 (t324.length : Int) _ _ t327 t349 false _ ?side1 ?side2 A128.out).mono ?_); (case side1 => repeat (first | exact (Kd.R_reads' HO_26.out).2.2 | (with_reducible refine Kd.C_alloc ?_ _) | (with_reducible refine Kd.C_drewN ?_ _) | (with_reducible refine Kd.C_drew ?_))); (case side2 => exact (Kd.R_reads' HO_26.out).2.1); rintro e w135 ⟨v351, rfl, ho0, hb⟩; refine ⟨_, rfl, ?_⟩; have n0_ := Aside0.mk (Kd.R_elder' (by (with_reducible repeat (first | apply Kd.R_alloc | apply Kd.R_drewN | apply Kd.R_drew)); exact HO_25.out) (Kd.R_base ho0) hb); have n1_ := Aside0.mk (Kd.R_elder' (by (with_reducible repeat (first | apply Kd.R_alloc | apply Kd.R_drewN | apply Kd.R_drew)); exact HO_26.out) (Kd.R_base ho0) hb); have n2_ := Aside0.mk (Kd.R_lower (Kd.R_new' (Kd.R_new' ho0 (Kd.R_lt (by (with_reducible repeat (first | apply Kd.R_alloc | apply Kd.R_drewN | apply Kd.R_drew)); exact HO_25.out))) (Kd.R_lt (by (with_reducible repeat (first | apply Kd.R_alloc | apply Kd.R_drewN | apply Kd.R_drew)); exact HO_26.out))) (below_size (by repeat (first | (with_reducible first | exact HB.out | apply below_alloc | apply pw_below_drewN | apply below_drew1) | exact HB.out)))); have n3_ := Aside0.mk (below_step (by repeat (first | (with_reducible first | exact HB.out | apply below_alloc | apply pw_below_drewN | apply below_drew1) | exact HB.out)) hb); clear HO_25; clear HO_26; clear HB; have HO_25 := n0_; have HO_26 := n1_; have HO352 := n2_; have HB := n3_; clear n0_ n1_ n2_ n3_; (try clear hb); (try clear hb2); (try clear hk); (try clear hi); (try clear ho0)))
                        go_ret
                        exact ⟨by first | rfl | (simp [errW_none, errW_some] <;> rfl) | (simp [*, errW_none, errW_some] <;> rfl), by repeat (first | (with_reducible first | exact HB.out | apply below_alloc | apply pw_below_drewN | apply below_drew1) | exact HB.out)⟩
                    · replace c127 := Bool.eq_false_iff.mpr c127
                      subst c127
                      have H1 : (some true) = some r := by rw [if_neg (show ¬ (false = true) by decide)] at H; exact H
                      clear H
                      have H := H1
                      clear H1
                      obtain rfl := Option.some.inj H
                      go_wp2
                      go_ret
                      exact ⟨by first | rfl | (simp [errW_none, errW_some] <;> rfl) | (simp [*, errW_none, errW_some] <;> rfl), by repeat (first | (with_reducible first | exact HB.out | apply below_alloc | apply pw_below_drewN | apply below_drew1) | exact HB.out)⟩

/-- THE ONE PURE STATEMENT of laws_FnCoolLists: yours. -/
def laws_FnCoolLists.Pure : Prop := ∀ (l0 : List Int) (l1 : List Int), l0.length ≤ maxLen → l0.length * 1 ≤ 140737488351232 → (∀ x ∈ l0, (Lit.int .u8 x).wf = true) → l1.length ≤ maxLen → l1.length * 1 ≤ 140737488351232 → (∀ x ∈ l1, (Lit.int .u8 x).wf = true) → ∃ k, laws_FnCoolLists.f k l0 l1 = some true
theorem laws_FnCoolLists.walk (P : laws_FnCoolLists.Pure) (a0 : Option Addr) (len0 cap0 : Nat) (z0 : List Int) (a1 : Option Addr) (len1 cap1 : Nat) (z1 : List Int) (w : World) (w0 : (a0 = none ∧ len0 = 0 ∧ cap0 = 0 ∧ z0 = []) ∨ ∃ x, a0 = some x ∧ len0 ≤ cap0 ∧ cap0 ≤ maxLen ∧ z0.length = cap0 ∧ (∀ i, i < z0.length → w.cell? (x.add i) = some (.int .u8 (z0.getD i 0))) ∧ ∀ n ∈ z0, (Lit.int .u8 n).wf = true) (y0 : len0 * 1 ≤ 140737488351232) (w1 : (a1 = none ∧ len1 = 0 ∧ cap1 = 0 ∧ z1 = []) ∨ ∃ x, a1 = some x ∧ len1 ≤ cap1 ∧ cap1 ≤ maxLen ∧ z1.length = cap1 ∧ (∀ i, i < z1.length → w.cell? (x.add i) = some (.int .u8 (z1.getD i 0))) ∧ ∀ n ∈ z1, (Lit.int .u8 n).wf = true) (y1 : len1 * 1 ≤ 140737488351232) :
    Calls Try.prog 9 #[.slice a0 len0 cap0, .slice a1 len1 cap1] w fun e w' => e = .returned (.bool true) ∧ Below w.heap.size w w' := by
  obtain ⟨l0, rfl, hr0, hm0, hw0, hc0⟩ := ReadsInt.ofRowC w0
  obtain ⟨l1, rfl, hr1, hm1, hw1, hc1⟩ := ReadsInt.ofRowC w1
  obtain ⟨k, h⟩ := P l0 l1 hm0 y0 hw0 hm1 y1 hw1
  refine (laws_FnCoolLists.calls k _ _ l0 _ _ l1 true w (Kd.C_of_reads (d := (0 : Int)) (h1 := fun _ => rfl) hr0) hc0 (Kd.C_of_reads (d := (0 : Int)) (h1 := fun _ => rfl) hr1) hc1 h).mono ?_
  rintro e w' ⟨rfl, hd⟩
  exact ⟨rfl, hd⟩

end Go.Proofs.Ytelajnmnbmamhaa.MFnCoolLists
