import Derived.Test.YtmkokfljonbcmaaMFnExchangesx0
import Derived.Test.YtmkokfljonbcmaaMFnExchangesx1
import Derived.Test.YtmkokfljonbcmaaMFnExchangesx3
import Derived.Test.YtmkokfljonbcmaaMFnExchangesx5
import Derived.Test.YtmkokfljonbcmaaMFnExchangesx6
import Derived.Test.YtmkokfljonbcmaaMFnExchangesx9
import Derived.Test.YtmkokfljonbcmaaMFnExchangesx10
import Derived.Test.YtmkokfljonbcmaaMFnExchangesx11
import Derived.Test.YtmkokfljonbcmaaMFnExchangesx12
import Derived.Test.YtmkokfljonbcmaaMFnExchangesx13
namespace Go.Proofs.Ytmkokfljonbcmaa.MFnExchanges
open Go.RowKit Go.Proofs.YtmkokfljonbcmaaW.PrintWords Go.Proofs.YtmkokfljonbcmaaW.PrintLast Go.Proofs.YtmkokfljonbcmaaW.PrintMore
attribute [local go_sem] max2_int min2_int max_two min_two max_three min_three max_four min_four   
set_option linter.unusedVariables false
set_option linter.unusedSimpArgs false
mutual
def laws_FnExchanges.j0 : Nat → List Int → Bool → Option (Bool)
 | 0, _, _ => none
 | k + 1, x1, x99 => if x99 = true then (some false) else ((spec_DrawIsExchangeList.f k x1).bind fun bt529 => ((impl_IsExchangeList.f k bt529.1 bt529.2.1 bt529.2.2).bind fun bt534 => ((spec_IsExchangeList.f k bt529.1 bt529.2.1 bt529.2.2).bind fun bt536 => ((impl_IsRoundExchange.f k bt529.1 bt529.2.1 bt529.2.2).bind fun bt538 => ((spec_IsRoundExchange.f k bt529.1 bt529.2.1 bt529.2.2).bind fun bt540 => ((impl_IsAdjacentList.f k bt529.1 bt529.2.1 bt529.2.2).bind fun bt542 => ((spec_IsAdjacentList.f k bt529.1 bt529.2.1 bt529.2.2).bind fun bt544 => (if (bt534.2 != bt536.2) = true then (laws_FnExchanges.j1 k bt529.1 bt529.2.1 bt529.2.2 bt534.1 bt534.2 bt542.1 true) else (if (bt534.1 != bt536.1) = true then (laws_FnExchanges.j1 k bt529.1 bt529.2.1 bt529.2.2 bt534.1 bt534.2 bt542.1 true) else (if (bt538.2 != bt540.2) = true then (laws_FnExchanges.j1 k bt529.1 bt529.2.1 bt529.2.2 bt534.1 bt534.2 bt542.1 true) else (if (bt538.1 != bt540.1) = true then (laws_FnExchanges.j1 k bt529.1 bt529.2.1 bt529.2.2 bt534.1 bt534.2 bt542.1 true) else (if (bt542.2 != bt544.2) = true then (laws_FnExchanges.j1 k bt529.1 bt529.2.1 bt529.2.2 bt534.1 bt534.2 bt542.1 true) else (if (bt542.1 != bt544.1) = true then (laws_FnExchanges.j1 k bt529.1 bt529.2.1 bt529.2.2 bt534.1 bt534.2 bt542.1 true) else (if bt538.1 = true then (if bt534.1 = true then (if bt542.1 = true then (laws_FnExchanges.j1 k bt529.1 bt529.2.1 bt529.2.2 bt534.1 bt534.2 bt542.1 (!bt534.1)) else (laws_FnExchanges.j1 k bt529.1 bt529.2.1 bt529.2.2 bt534.1 bt534.2 bt542.1 false)) else (laws_FnExchanges.j1 k bt529.1 bt529.2.1 bt529.2.2 bt534.1 bt534.2 bt542.1 true)) else (if bt542.1 = true then (laws_FnExchanges.j1 k bt529.1 bt529.2.1 bt529.2.2 bt534.1 bt534.2 bt542.1 (!bt534.1)) else (laws_FnExchanges.j1 k bt529.1 bt529.2.1 bt529.2.2 bt534.1 bt534.2 bt542.1 false))))))))))))))))
def laws_FnExchanges.j1 : Nat → Int → Int → List (List Int) → Bool → Bool → Bool → Bool → Option (Bool)
 | 0, _, _, _, _, _, _, _ => none
 | k + 1, x14, x15, x16, x17, x18, x25, x189 => if x189 = true then (some false) else ((impl_ComplementsOf.f k x14 x16).bind fun bt546 => ((spec_ComplementsOf.f k x14 x16).bind fun bt550 => (if (bt546.2 != bt550.2) = true then (laws_FnExchanges.j2 k x14 x15 x17 x18 x25 bt546.1 true) else ((laws_uLists.f k bt546.1 bt550.1).bind fun t554 => (laws_FnExchanges.j2 k x14 x15 x17 x18 x25 bt546.1 (!t554))))))
def laws_FnExchanges.j2 : Nat → Int → Int → Bool → Bool → Bool → List (List Int) → Bool → Option (Bool)
 | 0, _, _, _, _, _, _, _ => none
 | k + 1, x14, x15, x17, x18, x25, x29, x210 => if x210 = true then (some false) else (if x18 = true then ((impl_IsExchangeList.f k x14 (wrap64 (x14 - x15)) x29).bind fun bt555 => ((impl_IsAdjacentList.f k x14 (wrap64 (x14 - x15)) x29).bind fun bt557 => (if bt555.2 = true then (if (bt555.1 == x17) = true then (if bt557.2 = true then (some (bt557.1 == x25)) else (some false)) else (some false)) else (some false)))) else (some true))
end
def laws_FnExchanges.f (k : Nat) (l0 : List Int) (l1 : List Int) : Option (Bool) := (laws_big.f l0 l1).bind fun t511 => (if t511 = true then (some true) else ((spec_DrawExchangeOf.f k l0).bind fun bt512 => ((impl_ExchangeOf.f k bt512.1 bt512.2.1 bt512.2.2).bind fun bt519 => ((spec_ExchangeOf.f k bt512.1 bt512.2.1 bt512.2.2).bind fun bt522 => (if (bt519.2.2 != bt522.2.2) = true then (laws_FnExchanges.j0 k l1 true) else (if bt519.1 = bt522.1 then (if bt519.2.1 = bt522.2.1 then (if bt519.2.2 = true then ((laws_uHas.f k bt512.2.1 bt519.1).bind fun t525 => (if t525 = true then ((laws_uHas.f k bt512.2.2 bt519.1).bind fun t526 => (if t526 = true then (laws_FnExchanges.j0 k l1 true) else ((laws_uHas.f k bt512.2.1 bt519.2.1).bind fun t527 => (if t527 = true then (laws_FnExchanges.j0 k l1 true) else ((laws_uHas.f k bt512.2.2 bt519.2.1).bind fun t528 => (laws_FnExchanges.j0 k l1 (!t528))))))) else (laws_FnExchanges.j0 k l1 true))) else (laws_FnExchanges.j0 k l1 false)) else (laws_FnExchanges.j0 k l1 true)) else (laws_FnExchanges.j0 k l1 true)))))))
theorem laws_FnExchanges.mono_l : ∀ k, (∀ y0 y1, LeO (laws_FnExchanges.j0 k y0 y1) (laws_FnExchanges.j0 (k + 1) y0 y1)) ∧ (∀ y0 y1 y2 y3 y4 y5 y6, LeO (laws_FnExchanges.j1 k y0 y1 y2 y3 y4 y5 y6) (laws_FnExchanges.j1 (k + 1) y0 y1 y2 y3 y4 y5 y6)) ∧ (∀ y0 y1 y2 y3 y4 y5 y6, LeO (laws_FnExchanges.j2 k y0 y1 y2 y3 y4 y5 y6) (laws_FnExchanges.j2 (k + 1) y0 y1 y2 y3 y4 y5 y6))
 | 0 => ⟨fun _ _ r h => by simp [laws_FnExchanges.j0] at h, fun _ _ _ _ _ _ _ r h => by simp [laws_FnExchanges.j1] at h, fun _ _ _ _ _ _ _ r h => by simp [laws_FnExchanges.j2] at h⟩
 | k + 1 => by
  obtain ⟨ih0, ih1, ih2⟩ := laws_FnExchanges.mono_l k
  refine ⟨?_, ?_, ?_⟩
  ·intro y0 y1
   unfold laws_FnExchanges.j0
   repeat' first
   | (with_reducible exact ih0 _ _)
   | (with_reducible exact ih1 _ _ _ _ _ _ _)
   | (with_reducible exact ih2 _ _ _ _ _ _ _)
   | (with_reducible exact impl_ComplementsOf.mono _ _ _)
   | (with_reducible exact impl_ExchangeOf.mono _ _ _ _)
   | (with_reducible exact impl_IsAdjacentList.mono _ _ _ _)
   | (with_reducible exact impl_IsExchangeList.mono _ _ _ _)
   | (with_reducible exact impl_IsRoundExchange.mono _ _ _ _)
   | (with_reducible exact laws_uHas.mono _ _ _)
   | (with_reducible exact laws_uLists.mono _ _ _)
   | (with_reducible exact spec_ComplementsOf.mono _ _ _)
   | (with_reducible exact spec_DrawExchangeOf.mono _ _)
   | (with_reducible exact spec_DrawIsExchangeList.mono _ _)
   | (with_reducible exact spec_ExchangeOf.mono _ _ _ _)
   | (with_reducible exact spec_IsAdjacentList.mono _ _ _ _)
   | (with_reducible exact spec_IsExchangeList.mono _ _ _ _)
   | (with_reducible exact spec_IsRoundExchange.mono _ _ _ _)
   | (with_reducible exact LeO.refl _)
   | (with_reducible exact LeO.none _)
   | (with_reducible refine LeO.ite ?_ ?_)
   | (with_reducible refine LeO.bind ?_ (fun _ => ?_))
   | exact ih0 _ _
   | exact ih1 _ _ _ _ _ _ _
   | exact ih2 _ _ _ _ _ _ _
   | exact impl_ComplementsOf.mono _ _ _
   | exact impl_ExchangeOf.mono _ _ _ _
   | exact impl_IsAdjacentList.mono _ _ _ _
   | exact impl_IsExchangeList.mono _ _ _ _
   | exact impl_IsRoundExchange.mono _ _ _ _
   | exact laws_uHas.mono _ _ _
   | exact laws_uLists.mono _ _ _
   | exact spec_ComplementsOf.mono _ _ _
   | exact spec_DrawExchangeOf.mono _ _
   | exact spec_DrawIsExchangeList.mono _ _
   | exact spec_ExchangeOf.mono _ _ _ _
   | exact spec_IsAdjacentList.mono _ _ _ _
   | exact spec_IsExchangeList.mono _ _ _ _
   | exact spec_IsRoundExchange.mono _ _ _ _
   | exact LeO.none _
   | refine LeO.ite ?_ ?_
   | refine LeO.bind ?_ (fun _ => ?_)
  ·intro y0 y1 y2 y3 y4 y5 y6
   unfold laws_FnExchanges.j1
   repeat' first
   | (with_reducible exact ih0 _ _)
   | (with_reducible exact ih1 _ _ _ _ _ _ _)
   | (with_reducible exact ih2 _ _ _ _ _ _ _)
   | (with_reducible exact impl_ComplementsOf.mono _ _ _)
   | (with_reducible exact impl_ExchangeOf.mono _ _ _ _)
   | (with_reducible exact impl_IsAdjacentList.mono _ _ _ _)
   | (with_reducible exact impl_IsExchangeList.mono _ _ _ _)
   | (with_reducible exact impl_IsRoundExchange.mono _ _ _ _)
   | (with_reducible exact laws_uHas.mono _ _ _)
   | (with_reducible exact laws_uLists.mono _ _ _)
   | (with_reducible exact spec_ComplementsOf.mono _ _ _)
   | (with_reducible exact spec_DrawExchangeOf.mono _ _)
   | (with_reducible exact spec_DrawIsExchangeList.mono _ _)
   | (with_reducible exact spec_ExchangeOf.mono _ _ _ _)
   | (with_reducible exact spec_IsAdjacentList.mono _ _ _ _)
   | (with_reducible exact spec_IsExchangeList.mono _ _ _ _)
   | (with_reducible exact spec_IsRoundExchange.mono _ _ _ _)
   | (with_reducible exact LeO.refl _)
   | (with_reducible exact LeO.none _)
   | (with_reducible refine LeO.ite ?_ ?_)
   | (with_reducible refine LeO.bind ?_ (fun _ => ?_))
   | exact ih0 _ _
   | exact ih1 _ _ _ _ _ _ _
   | exact ih2 _ _ _ _ _ _ _
   | exact impl_ComplementsOf.mono _ _ _
   | exact impl_ExchangeOf.mono _ _ _ _
   | exact impl_IsAdjacentList.mono _ _ _ _
   | exact impl_IsExchangeList.mono _ _ _ _
   | exact impl_IsRoundExchange.mono _ _ _ _
   | exact laws_uHas.mono _ _ _
   | exact laws_uLists.mono _ _ _
   | exact spec_ComplementsOf.mono _ _ _
   | exact spec_DrawExchangeOf.mono _ _
   | exact spec_DrawIsExchangeList.mono _ _
   | exact spec_ExchangeOf.mono _ _ _ _
   | exact spec_IsAdjacentList.mono _ _ _ _
   | exact spec_IsExchangeList.mono _ _ _ _
   | exact spec_IsRoundExchange.mono _ _ _ _
   | exact LeO.none _
   | refine LeO.ite ?_ ?_
   | refine LeO.bind ?_ (fun _ => ?_)
  ·intro y0 y1 y2 y3 y4 y5 y6
   unfold laws_FnExchanges.j2
   repeat' first
   | (with_reducible exact ih0 _ _)
   | (with_reducible exact ih1 _ _ _ _ _ _ _)
   | (with_reducible exact ih2 _ _ _ _ _ _ _)
   | (with_reducible exact impl_ComplementsOf.mono _ _ _)
   | (with_reducible exact impl_ExchangeOf.mono _ _ _ _)
   | (with_reducible exact impl_IsAdjacentList.mono _ _ _ _)
   | (with_reducible exact impl_IsExchangeList.mono _ _ _ _)
   | (with_reducible exact impl_IsRoundExchange.mono _ _ _ _)
   | (with_reducible exact laws_uHas.mono _ _ _)
   | (with_reducible exact laws_uLists.mono _ _ _)
   | (with_reducible exact spec_ComplementsOf.mono _ _ _)
   | (with_reducible exact spec_DrawExchangeOf.mono _ _)
   | (with_reducible exact spec_DrawIsExchangeList.mono _ _)
   | (with_reducible exact spec_ExchangeOf.mono _ _ _ _)
   | (with_reducible exact spec_IsAdjacentList.mono _ _ _ _)
   | (with_reducible exact spec_IsExchangeList.mono _ _ _ _)
   | (with_reducible exact spec_IsRoundExchange.mono _ _ _ _)
   | (with_reducible exact LeO.refl _)
   | (with_reducible exact LeO.none _)
   | (with_reducible refine LeO.ite ?_ ?_)
   | (with_reducible refine LeO.bind ?_ (fun _ => ?_))
   | exact ih0 _ _
   | exact ih1 _ _ _ _ _ _ _
   | exact ih2 _ _ _ _ _ _ _
   | exact impl_ComplementsOf.mono _ _ _
   | exact impl_ExchangeOf.mono _ _ _ _
   | exact impl_IsAdjacentList.mono _ _ _ _
   | exact impl_IsExchangeList.mono _ _ _ _
   | exact impl_IsRoundExchange.mono _ _ _ _
   | exact laws_uHas.mono _ _ _
   | exact laws_uLists.mono _ _ _
   | exact spec_ComplementsOf.mono _ _ _
   | exact spec_DrawExchangeOf.mono _ _
   | exact spec_DrawIsExchangeList.mono _ _
   | exact spec_ExchangeOf.mono _ _ _ _
   | exact spec_IsAdjacentList.mono _ _ _ _
   | exact spec_IsExchangeList.mono _ _ _ _
   | exact spec_IsRoundExchange.mono _ _ _ _
   | exact LeO.none _
   | refine LeO.ite ?_ ?_
   | refine LeO.bind ?_ (fun _ => ?_)
theorem laws_FnExchanges.mono : ∀ a0 a1 k, LeO (laws_FnExchanges.f k a0 a1) (laws_FnExchanges.f (k + 1) a0 a1) := by
 intro a0 a1 k
 obtain ⟨ih0, ih1, ih2⟩ := laws_FnExchanges.mono_l k
 unfold laws_FnExchanges.f
 repeat' first
   | (with_reducible exact ih0 _ _)
   | (with_reducible exact ih1 _ _ _ _ _ _ _)
   | (with_reducible exact ih2 _ _ _ _ _ _ _)
   | (with_reducible exact impl_ComplementsOf.mono _ _ _)
   | (with_reducible exact impl_ExchangeOf.mono _ _ _ _)
   | (with_reducible exact impl_IsAdjacentList.mono _ _ _ _)
   | (with_reducible exact impl_IsExchangeList.mono _ _ _ _)
   | (with_reducible exact impl_IsRoundExchange.mono _ _ _ _)
   | (with_reducible exact laws_uHas.mono _ _ _)
   | (with_reducible exact laws_uLists.mono _ _ _)
   | (with_reducible exact spec_ComplementsOf.mono _ _ _)
   | (with_reducible exact spec_DrawExchangeOf.mono _ _)
   | (with_reducible exact spec_DrawIsExchangeList.mono _ _)
   | (with_reducible exact spec_ExchangeOf.mono _ _ _ _)
   | (with_reducible exact spec_IsAdjacentList.mono _ _ _ _)
   | (with_reducible exact spec_IsExchangeList.mono _ _ _ _)
   | (with_reducible exact spec_IsRoundExchange.mono _ _ _ _)
   | (with_reducible exact LeO.refl _)
   | (with_reducible exact LeO.none _)
   | (with_reducible refine LeO.ite ?_ ?_)
   | (with_reducible refine LeO.bind ?_ (fun _ => ?_))
   | exact ih0 _ _
   | exact ih1 _ _ _ _ _ _ _
   | exact ih2 _ _ _ _ _ _ _
   | exact impl_ComplementsOf.mono _ _ _
   | exact impl_ExchangeOf.mono _ _ _ _
   | exact impl_IsAdjacentList.mono _ _ _ _
   | exact impl_IsExchangeList.mono _ _ _ _
   | exact impl_IsRoundExchange.mono _ _ _ _
   | exact laws_uHas.mono _ _ _
   | exact laws_uLists.mono _ _ _
   | exact spec_ComplementsOf.mono _ _ _
   | exact spec_DrawExchangeOf.mono _ _
   | exact spec_DrawIsExchangeList.mono _ _
   | exact spec_ExchangeOf.mono _ _ _ _
   | exact spec_IsAdjacentList.mono _ _ _ _
   | exact spec_IsExchangeList.mono _ _ _ _
   | exact spec_IsRoundExchange.mono _ _ _ _
   | exact LeO.none _
   | refine LeO.ite ?_ ?_
   | refine LeO.bind ?_ (fun _ => ?_)
set_option maxHeartbeats 8000000 in
set_option maxRecDepth 100000 in
theorem laws_FnExchanges.calls (k : Nat) (A0 : Option Addr) (c0 : Nat) (l0 : List Int) (A1 : Option Addr) (c1 : Nat) (l1 : List Int) (r : Bool) (w : World) (hr0 : Kd.C (Kd.int .u8) w A0 l0.length l0) (hc0 : l0.length ≤ c0) (hr1 : Kd.C (Kd.int .u8) w A1 l1.length l1) (hc1 : l1.length ≤ c1) (h : laws_FnExchanges.f k l0 l1 = some r) :
  Calls Try.prog 5 #[.slice A0 l0.length c0, .slice A1 l1.length c1] w fun e w' => e = .returned (.bool r) ∧ Below w.heap.size w w' := by
 have HR0 := Aside0.mk hr0
 have HC0 := Aside0.mk hc0
 clear hr0 hc0
 have HR1 := Aside0.mk hr1
 have HC1 := Aside0.mk hc1
 clear hr1 hc1
 have HB := Aside0.mk (Below.refl w.heap.size w)
 have H : ((laws_big.f l0 l1).bind fun t511 => (if t511 = true then (some true) else ((spec_DrawExchangeOf.f k l0).bind fun bt512 => ((impl_ExchangeOf.f k bt512.1 bt512.2.1 bt512.2.2).bind fun bt519 => ((spec_ExchangeOf.f k bt512.1 bt512.2.1 bt512.2.2).bind fun bt522 => (if (bt519.2.2 != bt522.2.2) = true then (laws_FnExchanges.j0 k l1 true) else (if bt519.1 = bt522.1 then (if bt519.2.1 = bt522.2.1 then (if bt519.2.2 = true then ((laws_uHas.f k bt512.2.1 bt519.1).bind fun t525 => (if t525 = true then ((laws_uHas.f k bt512.2.2 bt519.1).bind fun t526 => (if t526 = true then (laws_FnExchanges.j0 k l1 true) else ((laws_uHas.f k bt512.2.1 bt519.2.1).bind fun t527 => (if t527 = true then (laws_FnExchanges.j0 k l1 true) else ((laws_uHas.f k bt512.2.2 bt519.2.1).bind fun t528 => (laws_FnExchanges.j0 k l1 (!t528))))))) else (laws_FnExchanges.j0 k l1 true))) else (laws_FnExchanges.j0 k l1 false)) else (laws_FnExchanges.j0 k l1 true)) else (laws_FnExchanges.j0 k l1 true)))))))) = some r := h
 clear h
 replace H := Option.bind_eq_some_iff.mp H
 obtain ⟨t511, A30, H⟩ := H
 replace H : (if t511 = true then (some true) else ((spec_DrawExchangeOf.f k l0).bind fun bt512 => ((impl_ExchangeOf.f k bt512.1 bt512.2.1 bt512.2.2).bind fun bt519 => ((spec_ExchangeOf.f k bt512.1 bt512.2.1 bt512.2.2).bind fun bt522 => (if (bt519.2.2 != bt522.2.2) = true then (laws_FnExchanges.j0 k l1 true) else (if bt519.1 = bt522.1 then (if bt519.2.1 = bt522.2.1 then (if bt519.2.2 = true then ((laws_uHas.f k bt512.2.1 bt519.1).bind fun t525 => (if t525 = true then ((laws_uHas.f k bt512.2.2 bt519.1).bind fun t526 => (if t526 = true then (laws_FnExchanges.j0 k l1 true) else ((laws_uHas.f k bt512.2.1 bt519.2.1).bind fun t527 => (if t527 = true then (laws_FnExchanges.j0 k l1 true) else ((laws_uHas.f k bt512.2.2 bt519.2.1).bind fun t528 => (laws_FnExchanges.j0 k l1 (!t528))))))) else (laws_FnExchanges.j0 k l1 true))) else (laws_FnExchanges.j0 k l1 false)) else (laws_FnExchanges.j0 k l1 true)) else (laws_FnExchanges.j0 k l1 true))))))) = some r := H
 have A3 := Aside0.mk A30
 clear A30
 by_cases c4 : t511 = true
 ·subst c4
  have H1 : (some true) = some r := by rw [if_pos rfl] at H; exact H
  clear H
  have H := H1
  clear H1
  obtain rfl := Option.some.inj H
  go_enter Try.func5, Try.ntmps5
  go_wp2_with (first | ((with_reducible refine gate_callee (f := 11) rfl ?_); refine goesL_ (some 39) rfl rfl Try.func11 (by kernel_rfl) rfl #[.slice A0 l0.length c0, .slice A1 l1.length c1] rfl (by (try simp only [List.map_toArray, List.map_cons, List.map_nil]); first | done | rfl | (simp only [List.length_drop, List.length_take]; rfl)) ?_; (with_reducible refine (laws_big.calls _ _ l0 _ _ l1 true _ ?side1 ?side2 ?side3 ?side4 A3.out).mono ?_); (case side1 => repeat (first | exact HR0.out | (with_reducible refine Kd.C_alloc ?_ _) | (with_reducible refine Kd.C_drewN ?_ _) | (with_reducible refine Kd.C_drew ?_))); (case side2 => exact HC0.out); (case side3 => repeat (first | exact HR1.out | (with_reducible refine Kd.C_alloc ?_ _) | (with_reducible refine Kd.C_drewN ?_ _) | (with_reducible refine Kd.C_drew ?_))); (case side4 => exact HC1.out); rintro e w' ⟨rfl, ⟨nd, rfl⟩⟩; refine ⟨_, rfl, ?_⟩))
  go_ret
  exact ⟨by first | rfl | (simp [errW_none, errW_some] <;> rfl) | (simp [*, errW_none, errW_some] <;> rfl), by repeat (first | (with_reducible first | exact HB.out | apply below_alloc | apply pw_below_drewN | apply below_drew1) | exact HB.out)⟩
 ·replace c4 := Bool.eq_false_iff.mpr c4
  subst c4
  have H1 : ((spec_DrawExchangeOf.f k l0).bind fun bt512 => ((impl_ExchangeOf.f k bt512.1 bt512.2.1 bt512.2.2).bind fun bt519 => ((spec_ExchangeOf.f k bt512.1 bt512.2.1 bt512.2.2).bind fun bt522 => (if (bt519.2.2 != bt522.2.2) = true then (laws_FnExchanges.j0 k l1 true) else (if bt519.1 = bt522.1 then (if bt519.2.1 = bt522.2.1 then (if bt519.2.2 = true then ((laws_uHas.f k bt512.2.1 bt519.1).bind fun t525 => (if t525 = true then ((laws_uHas.f k bt512.2.2 bt519.1).bind fun t526 => (if t526 = true then (laws_FnExchanges.j0 k l1 true) else ((laws_uHas.f k bt512.2.1 bt519.2.1).bind fun t527 => (if t527 = true then (laws_FnExchanges.j0 k l1 true) else ((laws_uHas.f k bt512.2.2 bt519.2.1).bind fun t528 => (laws_FnExchanges.j0 k l1 (!t528))))))) else (laws_FnExchanges.j0 k l1 true))) else (laws_FnExchanges.j0 k l1 false)) else (laws_FnExchanges.j0 k l1 true)) else (laws_FnExchanges.j0 k l1 true)))))) = some r := by rw [if_neg (show ¬ (false = true) by decide)] at H; exact H
  clear H
  have H := H1
  clear H1
  replace H := Option.bind_eq_some_iff.mp H
  obtain ⟨⟨t512, t513, t516⟩, A50, H⟩ := H
  replace H : ((impl_ExchangeOf.f k t512 t513 t516).bind fun bt519 => ((spec_ExchangeOf.f k t512 t513 t516).bind fun bt522 => (if (bt519.2.2 != bt522.2.2) = true then (laws_FnExchanges.j0 k l1 true) else (if bt519.1 = bt522.1 then (if bt519.2.1 = bt522.2.1 then (if bt519.2.2 = true then ((laws_uHas.f k t513 bt519.1).bind fun t525 => (if t525 = true then ((laws_uHas.f k t516 bt519.1).bind fun t526 => (if t526 = true then (laws_FnExchanges.j0 k l1 true) else ((laws_uHas.f k t513 bt519.2.1).bind fun t527 => (if t527 = true then (laws_FnExchanges.j0 k l1 true) else ((laws_uHas.f k t516 bt519.2.1).bind fun t528 => (laws_FnExchanges.j0 k l1 (!t528))))))) else (laws_FnExchanges.j0 k l1 true))) else (laws_FnExchanges.j0 k l1 false)) else (laws_FnExchanges.j0 k l1 true)) else (laws_FnExchanges.j0 k l1 true))))) = some r := H
  have A5 := Aside0.mk A50
  clear A50
  replace H := Option.bind_eq_some_iff.mp H
  obtain ⟨⟨t519, t520, t521⟩, A60, H⟩ := H
  replace H : ((spec_ExchangeOf.f k t512 t513 t516).bind fun bt522 => (if (t521 != bt522.2.2) = true then (laws_FnExchanges.j0 k l1 true) else (if t519 = bt522.1 then (if t520 = bt522.2.1 then (if t521 = true then ((laws_uHas.f k t513 t519).bind fun t525 => (if t525 = true then ((laws_uHas.f k t516 t519).bind fun t526 => (if t526 = true then (laws_FnExchanges.j0 k l1 true) else ((laws_uHas.f k t513 t520).bind fun t527 => (if t527 = true then (laws_FnExchanges.j0 k l1 true) else ((laws_uHas.f k t516 t520).bind fun t528 => (laws_FnExchanges.j0 k l1 (!t528))))))) else (laws_FnExchanges.j0 k l1 true))) else (laws_FnExchanges.j0 k l1 false)) else (laws_FnExchanges.j0 k l1 true)) else (laws_FnExchanges.j0 k l1 true)))) = some r := H
  have A6 := Aside0.mk A60
  clear A60
  replace H := Option.bind_eq_some_iff.mp H
  obtain ⟨⟨t522, t523, t524⟩, A70, H⟩ := H
  replace H : (if (t521 != t524) = true then (laws_FnExchanges.j0 k l1 true) else (if t519 = t522 then (if t520 = t523 then (if t521 = true then ((laws_uHas.f k t513 t519).bind fun t525 => (if t525 = true then ((laws_uHas.f k t516 t519).bind fun t526 => (if t526 = true then (laws_FnExchanges.j0 k l1 true) else ((laws_uHas.f k t513 t520).bind fun t527 => (if t527 = true then (laws_FnExchanges.j0 k l1 true) else ((laws_uHas.f k t516 t520).bind fun t528 => (laws_FnExchanges.j0 k l1 (!t528))))))) else (laws_FnExchanges.j0 k l1 true))) else (laws_FnExchanges.j0 k l1 false)) else (laws_FnExchanges.j0 k l1 true)) else (laws_FnExchanges.j0 k l1 true))) = some r := H
  have A7 := Aside0.mk A70
  clear A70
  have HC8 := Aside0.mk H
  clear H
  go_enter Try.func5, Try.ntmps5
  go_upto_region 6 with (first | ((with_reducible refine gate_callee (f := 11) rfl ?_); refine goesL_ (some 39) rfl rfl Try.func11 (by kernel_rfl) rfl #[.slice A0 l0.length c0, .slice A1 l1.length c1] rfl (by (try simp only [List.map_toArray, List.map_cons, List.map_nil]); first | done | rfl | (simp only [List.length_drop, List.length_take]; rfl)) ?_; (with_reducible refine (laws_big.calls _ _ l0 _ _ l1 false _ ?side1 ?side2 ?side3 ?side4 A3.out).mono ?_); (case side1 => repeat (first | exact HR0.out | (with_reducible refine Kd.C_alloc ?_ _) | (with_reducible refine Kd.C_drewN ?_ _) | (with_reducible refine Kd.C_drew ?_))); (case side2 => exact HC0.out); (case side3 => repeat (first | exact HR1.out | (with_reducible refine Kd.C_alloc ?_ _) | (with_reducible refine Kd.C_drewN ?_ _) | (with_reducible refine Kd.C_drew ?_))); (case side4 => exact HC1.out); rintro e w' ⟨rfl, ⟨nd, rfl⟩⟩; refine ⟨_, rfl, ?_⟩) | ((with_reducible refine gate_callee (f := 19) rfl ?_); refine goesL_ (some 42) rfl rfl Try.func19 (by kernel_rfl) rfl #[.slice A0 l0.length c0] rfl (by (try simp only [List.map_toArray, List.map_cons, List.map_nil]); first | done | rfl | (simp only [List.length_drop, List.length_take]; rfl)) ?_; (with_reducible refine (spec_DrawExchangeOf.calls k _ _ l0 t512 t513 t516 _ ?side1 ?side2 A5.out).mono ?_); (case side1 => repeat (first | exact HR0.out | (with_reducible refine Kd.C_alloc ?_ _) | (with_reducible refine Kd.C_drewN ?_ _) | (with_reducible refine Kd.C_drew ?_))); (case side2 => exact HC0.out); rintro e w9 ⟨v514, v517, rfl, ho0, ho1, hb⟩; refine ⟨_, rfl, ?_⟩; have n0_ := Aside0.mk (Kd.V_lower (Kd.V_mono (ok' := fun k_ => True) ho0 (fun k_ hk_ => trivial)) (below_size (by repeat (first | (with_reducible first | exact HB.out | apply below_alloc | apply pw_below_drewN | apply below_drew1) | exact HB.out)))); have n1_ := Aside0.mk (Kd.V_lower (Kd.V_mono (ok' := fun k_ => True) ho1 (fun k_ hk_ => trivial)) (below_size (by repeat (first | (with_reducible first | exact HB.out | apply below_alloc | apply pw_below_drewN | apply below_drew1) | exact HB.out)))); have n2_ := Aside0.mk (below_step (by repeat (first | (with_reducible first | exact HB.out | apply below_alloc | apply pw_below_drewN | apply below_drew1) | exact HB.out)) hb); clear HB; have HO515 := n0_; have HO518 := n1_; have HB := n2_; clear n0_ n1_ n2_; (try clear hb); (try clear hb2); (try clear hk); (try clear hi); (try clear ho0); (try clear ho1); obtain ⟨Ao10, co10, eo10⟩ := Kd.V_slice HO515.out; subst eo10; obtain ⟨Ao11, co11, eo11⟩ := Kd.V_slice HO518.out; subst eo11) | ((with_reducible refine gate_callee (f := 20) rfl ?_); refine goesL_ (some 50) rfl rfl Try.func20 (by kernel_rfl) rfl #[.int .i64 t512, .slice Ao10 t513.length co10, .slice Ao11 t516.length co11] rfl (by (try simp only [List.map_toArray, List.map_cons, List.map_nil]); first | done | rfl | (simp only [List.length_drop, List.length_take]; rfl)) ?_; (with_reducible refine (impl_ExchangeOf.calls k t512 _ _ t513 _ _ t516 t519 t520 t521 _ ?side1 ?side2 ?side3 ?side4 A6.out).mono ?_); (case side1 => repeat (first | exact (Kd.V_reads' HO515.out).2.2 | (with_reducible refine Kd.C_alloc ?_ _) | (with_reducible refine Kd.C_drewN ?_ _) | (with_reducible refine Kd.C_drew ?_))); (case side2 => exact (Kd.V_reads' HO515.out).2.1); (case side3 => repeat (first | exact (Kd.V_reads' HO518.out).2.2 | (with_reducible refine Kd.C_alloc ?_ _) | (with_reducible refine Kd.C_drewN ?_ _) | (with_reducible refine Kd.C_drew ?_))); (case side4 => exact (Kd.V_reads' HO518.out).2.1); rintro e w12 ⟨rfl, hb⟩; refine ⟨_, rfl, ?_⟩; have n0_ := Aside0.mk (Kd.V_below (by (with_reducible repeat (first | apply Kd.V_alloc | apply Kd.V_drewN | apply Kd.V_drew)); exact HO515.out) hb); have n1_ := Aside0.mk (Kd.V_below (by (with_reducible repeat (first | apply Kd.V_alloc | apply Kd.V_drewN | apply Kd.V_drew)); exact HO518.out) hb); have n2_ := Aside0.mk (below_step (by repeat (first | (with_reducible first | exact HB.out | apply below_alloc | apply pw_below_drewN | apply below_drew1) | exact HB.out)) hb); clear HO515; clear HO518; clear HB; have HO515 := n0_; have HO518 := n1_; have HB := n2_; clear n0_ n1_ n2_; (try clear hb); (try clear hb2); (try clear hk); (try clear hi)) | ((with_reducible refine gate_callee (f := 21) rfl ?_); refine goesL_ (some 58) rfl rfl Try.func21 (by kernel_rfl) rfl #[.int .i64 t512, .slice Ao10 t513.length co10, .slice Ao11 t516.length co11] rfl (by (try simp only [List.map_toArray, List.map_cons, List.map_nil]); first | done | rfl | (simp only [List.length_drop, List.length_take]; rfl)) ?_; (with_reducible refine (spec_ExchangeOf.calls k t512 _ _ t513 _ _ t516 t522 t523 t524 _ ?side1 ?side2 ?side3 ?side4 A7.out).mono ?_); (case side1 => repeat (first | exact (Kd.V_reads' HO515.out).2.2 | (with_reducible refine Kd.C_alloc ?_ _) | (with_reducible refine Kd.C_drewN ?_ _) | (with_reducible refine Kd.C_drew ?_))); (case side2 => exact (Kd.V_reads' HO515.out).2.1); (case side3 => repeat (first | exact (Kd.V_reads' HO518.out).2.2 | (with_reducible refine Kd.C_alloc ?_ _) | (with_reducible refine Kd.C_drewN ?_ _) | (with_reducible refine Kd.C_drew ?_))); (case side4 => exact (Kd.V_reads' HO518.out).2.1); rintro e w13 ⟨rfl, hb⟩; refine ⟨_, rfl, ?_⟩; have n0_ := Aside0.mk (Kd.V_below (by (with_reducible repeat (first | apply Kd.V_alloc | apply Kd.V_drewN | apply Kd.V_drew)); exact HO515.out) hb); have n1_ := Aside0.mk (Kd.V_below (by (with_reducible repeat (first | apply Kd.V_alloc | apply Kd.V_drewN | apply Kd.V_drew)); exact HO518.out) hb); have n2_ := Aside0.mk (below_step (by repeat (first | (with_reducible first | exact HB.out | apply below_alloc | apply pw_below_drewN | apply below_drew1) | exact HB.out)) hb); clear HO515; clear HO518; clear HB; have HO515 := n0_; have HO518 := n1_; have HB := n2_; clear n0_ n1_ n2_; (try clear hb); (try clear hb2); (try clear hk); (try clear hi)))
  (try simp only [Act.put, List.setIfInBounds_toArray, List.set_cons_zero, List.set_cons_succ])
  go_cut [99] (fun v99 wc => ∃ (kq : Nat) (x99_7 : Bool), v99 = .bool x99_7 ∧ Aside0 (laws_FnExchanges.j0 kq l1 x99_7 = some r) ∧ Aside0 (kq ≤ k) ∧ Aside0 (Below w.heap.size w wc))
  case first =>
   have H := HC8.out
   clear HC8
   by_cases c14 : (t521 != t524) = true
   ·rw [if_pos c14] at H
    have c14b0 : (t521 != t524) = true := c14
    (try (have c14b1 : decide (t521 = t524) = false := by simpa using c14))
    (try (have c14b2 : (t521 == t524) = false := by simpa using c14))
    (try (have c14b3 : ¬ (t521 = t524) := by simpa using c14))
    clear c14
    (first | rw [c14b0] | (simp only [i64_w, i32_w]; rw [c14b0]) | skip)
    have H' := Aside0.mk H
    clear H
    go_wp2
    go_meet
    case rel => exact ⟨_, (true), (by first | rfl | (simp; done) | (simp [*]; done)), H', ⟨by first | omega | exact Nat.le_refl _⟩, ⟨by repeat (first | (with_reducible first | exact HB.out | apply below_alloc | apply pw_below_drewN | apply below_drew1) | exact HB.out)⟩⟩
   ·rw [if_neg c14] at H
    have c14b0 : (t521 != t524) = false := by simpa using c14
    (try (have c14b1 : decide (t521 = t524) = true := by simpa using c14))
    (try (have c14b2 : (t521 == t524) = true := by simpa using c14))
    clear c14
    (first | rw [c14b0] | (simp only [i64_w, i32_w]; rw [c14b0]) | skip)
    by_cases c15 : t519 = t522
    ·rw [if_pos c15] at H
     have c15b0 : (t519 == t522) = true := beq_iff_eq.mpr c15
     have c15b1 : (t519 != t522) = false := bne_eq_false_iff_eq.mpr c15
     clear c15
     by_cases c16 : t520 = t523
     ·rw [if_pos c16] at H
      have c16b0 : (t520 == t523) = true := beq_iff_eq.mpr c16
      have c16b1 : (t520 != t523) = false := bne_eq_false_iff_eq.mpr c16
      clear c16
      by_cases c17 : t521 = true
      ·subst c17
       have H1 : ((laws_uHas.f k t513 t519).bind fun t525 => (if t525 = true then ((laws_uHas.f k t516 t519).bind fun t526 => (if t526 = true then (laws_FnExchanges.j0 k l1 true) else ((laws_uHas.f k t513 t520).bind fun t527 => (if t527 = true then (laws_FnExchanges.j0 k l1 true) else ((laws_uHas.f k t516 t520).bind fun t528 => (laws_FnExchanges.j0 k l1 (!t528))))))) else (laws_FnExchanges.j0 k l1 true))) = some r := by rw [if_pos rfl] at H; exact H
       clear H
       have H := H1
       clear H1
       replace H := Option.bind_eq_some_iff.mp H
       obtain ⟨t525, A180, H⟩ := H
       replace H : (if t525 = true then ((laws_uHas.f k t516 t519).bind fun t526 => (if t526 = true then (laws_FnExchanges.j0 k l1 true) else ((laws_uHas.f k t513 t520).bind fun t527 => (if t527 = true then (laws_FnExchanges.j0 k l1 true) else ((laws_uHas.f k t516 t520).bind fun t528 => (laws_FnExchanges.j0 k l1 (!t528))))))) else (laws_FnExchanges.j0 k l1 true)) = some r := H
       have A18 := Aside0.mk A180
       clear A180
       by_cases c19 : t525 = true
       ·subst c19
        have H1 : ((laws_uHas.f k t516 t519).bind fun t526 => (if t526 = true then (laws_FnExchanges.j0 k l1 true) else ((laws_uHas.f k t513 t520).bind fun t527 => (if t527 = true then (laws_FnExchanges.j0 k l1 true) else ((laws_uHas.f k t516 t520).bind fun t528 => (laws_FnExchanges.j0 k l1 (!t528))))))) = some r := by rw [if_pos rfl] at H; exact H
        clear H
        have H := H1
        clear H1
        replace H := Option.bind_eq_some_iff.mp H
        obtain ⟨t526, A200, H⟩ := H
        replace H : (if t526 = true then (laws_FnExchanges.j0 k l1 true) else ((laws_uHas.f k t513 t520).bind fun t527 => (if t527 = true then (laws_FnExchanges.j0 k l1 true) else ((laws_uHas.f k t516 t520).bind fun t528 => (laws_FnExchanges.j0 k l1 (!t528)))))) = some r := H
        have A20 := Aside0.mk A200
        clear A200
        by_cases c21 : t526 = true
        ·subst c21
         have H1 : (laws_FnExchanges.j0 k l1 true) = some r := by rw [if_pos rfl] at H; exact H
         clear H
         have H := H1
         clear H1
         have H' := Aside0.mk H
         clear H
         go_wp2_with (first | (go_at_call 22; (with_reducible refine (laws_uHas.calls k _ _ t513 t519 true _ ?side1 ?side2 A18.out).mono ?_); (case side1 => repeat (first | exact (Kd.V_reads' HO515.out).2.2 | (with_reducible refine Kd.C_alloc ?_ _) | (with_reducible refine Kd.C_drewN ?_ _) | (with_reducible refine Kd.C_drew ?_))); (case side2 => exact (Kd.V_reads' HO515.out).2.1); rintro e w' ⟨rfl, ⟨nd, rfl⟩⟩) | (go_at_call 22; (with_reducible refine (laws_uHas.calls k _ _ t516 t519 true _ ?side1 ?side2 A20.out).mono ?_); (case side1 => repeat (first | exact (Kd.V_reads' HO518.out).2.2 | (with_reducible refine Kd.C_alloc ?_ _) | (with_reducible refine Kd.C_drewN ?_ _) | (with_reducible refine Kd.C_drew ?_))); (case side2 => exact (Kd.V_reads' HO518.out).2.1); rintro e w' ⟨rfl, ⟨nd, rfl⟩⟩))
         go_meet
         case rel => exact ⟨_, (true), (by first | rfl | (simp; done) | (simp [*]; done)), H', ⟨by first | omega | exact Nat.le_refl _⟩, ⟨by repeat (first | (with_reducible first | exact HB.out | apply below_alloc | apply pw_below_drewN | apply below_drew1) | exact HB.out)⟩⟩
        ·replace c21 := Bool.eq_false_iff.mpr c21
         subst c21
         have H1 : ((laws_uHas.f k t513 t520).bind fun t527 => (if t527 = true then (laws_FnExchanges.j0 k l1 true) else ((laws_uHas.f k t516 t520).bind fun t528 => (laws_FnExchanges.j0 k l1 (!t528))))) = some r := by rw [if_neg (show ¬ (false = true) by decide)] at H; exact H
         clear H
         have H := H1
         clear H1
         replace H := Option.bind_eq_some_iff.mp H
         obtain ⟨t527, A220, H⟩ := H
         replace H : (if t527 = true then (laws_FnExchanges.j0 k l1 true) else ((laws_uHas.f k t516 t520).bind fun t528 => (laws_FnExchanges.j0 k l1 (!t528)))) = some r := H
         have A22 := Aside0.mk A220
         clear A220
         by_cases c23 : t527 = true
         ·subst c23
          have H1 : (laws_FnExchanges.j0 k l1 true) = some r := by rw [if_pos rfl] at H; exact H
          clear H
          have H := H1
          clear H1
          have H' := Aside0.mk H
          clear H
          go_wp2_with (first | (go_at_call 22; (with_reducible refine (laws_uHas.calls k _ _ t513 t519 true _ ?side1 ?side2 A18.out).mono ?_); (case side1 => repeat (first | exact (Kd.V_reads' HO515.out).2.2 | (with_reducible refine Kd.C_alloc ?_ _) | (with_reducible refine Kd.C_drewN ?_ _) | (with_reducible refine Kd.C_drew ?_))); (case side2 => exact (Kd.V_reads' HO515.out).2.1); rintro e w' ⟨rfl, ⟨nd, rfl⟩⟩) | (go_at_call 22; (with_reducible refine (laws_uHas.calls k _ _ t516 t519 false _ ?side1 ?side2 A20.out).mono ?_); (case side1 => repeat (first | exact (Kd.V_reads' HO518.out).2.2 | (with_reducible refine Kd.C_alloc ?_ _) | (with_reducible refine Kd.C_drewN ?_ _) | (with_reducible refine Kd.C_drew ?_))); (case side2 => exact (Kd.V_reads' HO518.out).2.1); rintro e w' ⟨rfl, ⟨nd, rfl⟩⟩) | (go_at_call 22; (with_reducible refine (laws_uHas.calls k _ _ t513 t520 true _ ?side1 ?side2 A22.out).mono ?_); (case side1 => repeat (first | exact (Kd.V_reads' HO515.out).2.2 | (with_reducible refine Kd.C_alloc ?_ _) | (with_reducible refine Kd.C_drewN ?_ _) | (with_reducible refine Kd.C_drew ?_))); (case side2 => exact (Kd.V_reads' HO515.out).2.1); rintro e w' ⟨rfl, ⟨nd, rfl⟩⟩))
          go_meet
          case rel => exact ⟨_, (true), (by first | rfl | (simp; done) | (simp [*]; done)), H', ⟨by first | omega | exact Nat.le_refl _⟩, ⟨by repeat (first | (with_reducible first | exact HB.out | apply below_alloc | apply pw_below_drewN | apply below_drew1) | exact HB.out)⟩⟩
         ·replace c23 := Bool.eq_false_iff.mpr c23
          subst c23
          have H1 : ((laws_uHas.f k t516 t520).bind fun t528 => (laws_FnExchanges.j0 k l1 (!t528))) = some r := by rw [if_neg (show ¬ (false = true) by decide)] at H; exact H
          clear H
          have H := H1
          clear H1
          replace H := Option.bind_eq_some_iff.mp H
          obtain ⟨t528, A240, H⟩ := H
          replace H : (laws_FnExchanges.j0 k l1 (!t528)) = some r := H
          have A24 := Aside0.mk A240
          clear A240
          have H' := Aside0.mk H
          clear H
          go_wp2_with (first | (go_at_call 22; (with_reducible refine (laws_uHas.calls k _ _ t513 t519 true _ ?side1 ?side2 A18.out).mono ?_); (case side1 => repeat (first | exact (Kd.V_reads' HO515.out).2.2 | (with_reducible refine Kd.C_alloc ?_ _) | (with_reducible refine Kd.C_drewN ?_ _) | (with_reducible refine Kd.C_drew ?_))); (case side2 => exact (Kd.V_reads' HO515.out).2.1); rintro e w' ⟨rfl, ⟨nd, rfl⟩⟩) | (go_at_call 22; (with_reducible refine (laws_uHas.calls k _ _ t516 t519 false _ ?side1 ?side2 A20.out).mono ?_); (case side1 => repeat (first | exact (Kd.V_reads' HO518.out).2.2 | (with_reducible refine Kd.C_alloc ?_ _) | (with_reducible refine Kd.C_drewN ?_ _) | (with_reducible refine Kd.C_drew ?_))); (case side2 => exact (Kd.V_reads' HO518.out).2.1); rintro e w' ⟨rfl, ⟨nd, rfl⟩⟩) | (go_at_call 22; (with_reducible refine (laws_uHas.calls k _ _ t513 t520 false _ ?side1 ?side2 A22.out).mono ?_); (case side1 => repeat (first | exact (Kd.V_reads' HO515.out).2.2 | (with_reducible refine Kd.C_alloc ?_ _) | (with_reducible refine Kd.C_drewN ?_ _) | (with_reducible refine Kd.C_drew ?_))); (case side2 => exact (Kd.V_reads' HO515.out).2.1); rintro e w' ⟨rfl, ⟨nd, rfl⟩⟩) | (go_at_call 22; (with_reducible refine (laws_uHas.calls k _ _ t516 t520 t528 _ ?side1 ?side2 A24.out).mono ?_); (case side1 => repeat (first | exact (Kd.V_reads' HO518.out).2.2 | (with_reducible refine Kd.C_alloc ?_ _) | (with_reducible refine Kd.C_drewN ?_ _) | (with_reducible refine Kd.C_drew ?_))); (case side2 => exact (Kd.V_reads' HO518.out).2.1); rintro e w' ⟨rfl, ⟨nd, rfl⟩⟩))
          go_meet
          case rel => exact ⟨_, (!t528), (by first | rfl | (simp; done) | (simp [*]; done)), H', ⟨by first | omega | exact Nat.le_refl _⟩, ⟨by repeat (first | (with_reducible first | exact HB.out | apply below_alloc | apply pw_below_drewN | apply below_drew1) | exact HB.out)⟩⟩
       ·replace c19 := Bool.eq_false_iff.mpr c19
        subst c19
        have H1 : (laws_FnExchanges.j0 k l1 true) = some r := by rw [if_neg (show ¬ (false = true) by decide)] at H; exact H
        clear H
        have H := H1
        clear H1
        have H' := Aside0.mk H
        clear H
        go_wp2_with (first | (go_at_call 22; (with_reducible refine (laws_uHas.calls k _ _ t513 t519 false _ ?side1 ?side2 A18.out).mono ?_); (case side1 => repeat (first | exact (Kd.V_reads' HO515.out).2.2 | (with_reducible refine Kd.C_alloc ?_ _) | (with_reducible refine Kd.C_drewN ?_ _) | (with_reducible refine Kd.C_drew ?_))); (case side2 => exact (Kd.V_reads' HO515.out).2.1); rintro e w' ⟨rfl, ⟨nd, rfl⟩⟩))
        go_meet
        case rel => exact ⟨_, (true), (by first | rfl | (simp; done) | (simp [*]; done)), H', ⟨by first | omega | exact Nat.le_refl _⟩, ⟨by repeat (first | (with_reducible first | exact HB.out | apply below_alloc | apply pw_below_drewN | apply below_drew1) | exact HB.out)⟩⟩
      ·replace c17 := Bool.eq_false_iff.mpr c17
       subst c17
       have H1 : (laws_FnExchanges.j0 k l1 false) = some r := by rw [if_neg (show ¬ (false = true) by decide)] at H; exact H
       clear H
       have H := H1
       clear H1
       have H' := Aside0.mk H
       clear H
       go_wp2
       go_meet
       case rel => exact ⟨_, (false), (by first | rfl | (simp; done) | (simp [*]; done)), H', ⟨by first | omega | exact Nat.le_refl _⟩, ⟨by repeat (first | (with_reducible first | exact HB.out | apply below_alloc | apply pw_below_drewN | apply below_drew1) | exact HB.out)⟩⟩
     ·rw [if_neg c16] at H
      have c16b0 : (t520 == t523) = false := beq_eq_false_iff_ne.mpr c16
      have c16b1 : (t520 != t523) = true := bne_iff_ne.mpr c16
      have H' := Aside0.mk H
      clear H
      go_wp2
      go_meet
      case rel => exact ⟨_, (true), (by first | rfl | (simp; done) | (simp [*]; done)), H', ⟨by first | omega | exact Nat.le_refl _⟩, ⟨by repeat (first | (with_reducible first | exact HB.out | apply below_alloc | apply pw_below_drewN | apply below_drew1) | exact HB.out)⟩⟩
    ·rw [if_neg c15] at H
     have c15b0 : (t519 == t522) = false := beq_eq_false_iff_ne.mpr c15
     have c15b1 : (t519 != t522) = true := bne_iff_ne.mpr c15
     have H' := Aside0.mk H
     clear H
     go_wp2
     go_meet
     case rel => exact ⟨_, (true), (by first | rfl | (simp; done) | (simp [*]; done)), H', ⟨by first | omega | exact Nat.le_refl _⟩, ⟨by repeat (first | (with_reducible first | exact HB.out | apply below_alloc | apply pw_below_drewN | apply below_drew1) | exact HB.out)⟩⟩
  case rest => as_aux_lemma =>
   clear HC8
   try clear c1
   try clear c2
   try clear p2
   try clear c4
   try clear c5
   try clear c11
   try clear c14
   try clear c14b0
   try clear c14b1
   try clear c14b2
   try clear c15
   try clear c15b0
   try clear c15b1
   try clear c16
   try clear c16b0
   try clear c16b1
   try clear c17
   try clear c19
   try clear c20
   try clear c21
   try clear c23
   obtain ⟨kq, x99_7, rfl, HA, HJ7, HB⟩ := hcut
   cases kq with
   | zero => exact absurd HA.out (by simp [laws_FnExchanges.j0])
   | succ kj7 =>
    have H := HA.out
    clear HA
    simp only [laws_FnExchanges.j0] at H
    by_cases c25 : x99_7 = true
    ·subst c25
     have H1 : (some false) = some r := by rw [if_pos rfl] at H; exact H
     clear H
     have H := H1
     clear H1
     obtain rfl := Option.some.inj H
     go_wp2
     go_ret
     exact ⟨by first | rfl | (simp [errW_none, errW_some] <;> rfl) | (simp [*, errW_none, errW_some] <;> rfl), by repeat (first | (with_reducible first | exact HB.out | apply below_alloc | apply pw_below_drewN | apply below_drew1) | exact HB.out)⟩
    ·replace c25 := Bool.eq_false_iff.mpr c25
     subst c25
     have H1 : ((spec_DrawIsExchangeList.f kj7 l1).bind fun bt529 => ((impl_IsExchangeList.f kj7 bt529.1 bt529.2.1 bt529.2.2).bind fun bt534 => ((spec_IsExchangeList.f kj7 bt529.1 bt529.2.1 bt529.2.2).bind fun bt536 => ((impl_IsRoundExchange.f kj7 bt529.1 bt529.2.1 bt529.2.2).bind fun bt538 => ((spec_IsRoundExchange.f kj7 bt529.1 bt529.2.1 bt529.2.2).bind fun bt540 => ((impl_IsAdjacentList.f kj7 bt529.1 bt529.2.1 bt529.2.2).bind fun bt542 => ((spec_IsAdjacentList.f kj7 bt529.1 bt529.2.1 bt529.2.2).bind fun bt544 => (if (bt534.2 != bt536.2) = true then (laws_FnExchanges.j1 kj7 bt529.1 bt529.2.1 bt529.2.2 bt534.1 bt534.2 bt542.1 true) else (if (bt534.1 != bt536.1) = true then (laws_FnExchanges.j1 kj7 bt529.1 bt529.2.1 bt529.2.2 bt534.1 bt534.2 bt542.1 true) else (if (bt538.2 != bt540.2) = true then (laws_FnExchanges.j1 kj7 bt529.1 bt529.2.1 bt529.2.2 bt534.1 bt534.2 bt542.1 true) else (if (bt538.1 != bt540.1) = true then (laws_FnExchanges.j1 kj7 bt529.1 bt529.2.1 bt529.2.2 bt534.1 bt534.2 bt542.1 true) else (if (bt542.2 != bt544.2) = true then (laws_FnExchanges.j1 kj7 bt529.1 bt529.2.1 bt529.2.2 bt534.1 bt534.2 bt542.1 true) else (if (bt542.1 != bt544.1) = true then (laws_FnExchanges.j1 kj7 bt529.1 bt529.2.1 bt529.2.2 bt534.1 bt534.2 bt542.1 true) else (if bt538.1 = true then (if bt534.1 = true then (if bt542.1 = true then (laws_FnExchanges.j1 kj7 bt529.1 bt529.2.1 bt529.2.2 bt534.1 bt534.2 bt542.1 (!bt534.1)) else (laws_FnExchanges.j1 kj7 bt529.1 bt529.2.1 bt529.2.2 bt534.1 bt534.2 bt542.1 false)) else (laws_FnExchanges.j1 kj7 bt529.1 bt529.2.1 bt529.2.2 bt534.1 bt534.2 bt542.1 true)) else (if bt542.1 = true then (laws_FnExchanges.j1 kj7 bt529.1 bt529.2.1 bt529.2.2 bt534.1 bt534.2 bt542.1 (!bt534.1)) else (laws_FnExchanges.j1 kj7 bt529.1 bt529.2.1 bt529.2.2 bt534.1 bt534.2 bt542.1 false)))))))))))))))) = some r := by rw [if_neg (show ¬ (false = true) by decide)] at H; exact H
     clear H
     have H := H1
     clear H1
     replace H := Option.bind_eq_some_iff.mp H
     obtain ⟨⟨t529, t530, t531⟩, A260, H⟩ := H
     replace H : ((impl_IsExchangeList.f kj7 t529 t530 t531).bind fun bt534 => ((spec_IsExchangeList.f kj7 t529 t530 t531).bind fun bt536 => ((impl_IsRoundExchange.f kj7 t529 t530 t531).bind fun bt538 => ((spec_IsRoundExchange.f kj7 t529 t530 t531).bind fun bt540 => ((impl_IsAdjacentList.f kj7 t529 t530 t531).bind fun bt542 => ((spec_IsAdjacentList.f kj7 t529 t530 t531).bind fun bt544 => (if (bt534.2 != bt536.2) = true then (laws_FnExchanges.j1 kj7 t529 t530 t531 bt534.1 bt534.2 bt542.1 true) else (if (bt534.1 != bt536.1) = true then (laws_FnExchanges.j1 kj7 t529 t530 t531 bt534.1 bt534.2 bt542.1 true) else (if (bt538.2 != bt540.2) = true then (laws_FnExchanges.j1 kj7 t529 t530 t531 bt534.1 bt534.2 bt542.1 true) else (if (bt538.1 != bt540.1) = true then (laws_FnExchanges.j1 kj7 t529 t530 t531 bt534.1 bt534.2 bt542.1 true) else (if (bt542.2 != bt544.2) = true then (laws_FnExchanges.j1 kj7 t529 t530 t531 bt534.1 bt534.2 bt542.1 true) else (if (bt542.1 != bt544.1) = true then (laws_FnExchanges.j1 kj7 t529 t530 t531 bt534.1 bt534.2 bt542.1 true) else (if bt538.1 = true then (if bt534.1 = true then (if bt542.1 = true then (laws_FnExchanges.j1 kj7 t529 t530 t531 bt534.1 bt534.2 bt542.1 (!bt534.1)) else (laws_FnExchanges.j1 kj7 t529 t530 t531 bt534.1 bt534.2 bt542.1 false)) else (laws_FnExchanges.j1 kj7 t529 t530 t531 bt534.1 bt534.2 bt542.1 true)) else (if bt542.1 = true then (laws_FnExchanges.j1 kj7 t529 t530 t531 bt534.1 bt534.2 bt542.1 (!bt534.1)) else (laws_FnExchanges.j1 kj7 t529 t530 t531 bt534.1 bt534.2 bt542.1 false))))))))))))))) = some r := H
     have A26 := Aside0.mk A260
     clear A260
     replace H := Option.bind_eq_some_iff.mp H
     obtain ⟨⟨t534, t535⟩, A270, H⟩ := H
     replace H : ((spec_IsExchangeList.f kj7 t529 t530 t531).bind fun bt536 => ((impl_IsRoundExchange.f kj7 t529 t530 t531).bind fun bt538 => ((spec_IsRoundExchange.f kj7 t529 t530 t531).bind fun bt540 => ((impl_IsAdjacentList.f kj7 t529 t530 t531).bind fun bt542 => ((spec_IsAdjacentList.f kj7 t529 t530 t531).bind fun bt544 => (if (t535 != bt536.2) = true then (laws_FnExchanges.j1 kj7 t529 t530 t531 t534 t535 bt542.1 true) else (if (t534 != bt536.1) = true then (laws_FnExchanges.j1 kj7 t529 t530 t531 t534 t535 bt542.1 true) else (if (bt538.2 != bt540.2) = true then (laws_FnExchanges.j1 kj7 t529 t530 t531 t534 t535 bt542.1 true) else (if (bt538.1 != bt540.1) = true then (laws_FnExchanges.j1 kj7 t529 t530 t531 t534 t535 bt542.1 true) else (if (bt542.2 != bt544.2) = true then (laws_FnExchanges.j1 kj7 t529 t530 t531 t534 t535 bt542.1 true) else (if (bt542.1 != bt544.1) = true then (laws_FnExchanges.j1 kj7 t529 t530 t531 t534 t535 bt542.1 true) else (if bt538.1 = true then (if t534 = true then (if bt542.1 = true then (laws_FnExchanges.j1 kj7 t529 t530 t531 t534 t535 bt542.1 (!t534)) else (laws_FnExchanges.j1 kj7 t529 t530 t531 t534 t535 bt542.1 false)) else (laws_FnExchanges.j1 kj7 t529 t530 t531 t534 t535 bt542.1 true)) else (if bt542.1 = true then (laws_FnExchanges.j1 kj7 t529 t530 t531 t534 t535 bt542.1 (!t534)) else (laws_FnExchanges.j1 kj7 t529 t530 t531 t534 t535 bt542.1 false)))))))))))))) = some r := H
     have A27 := Aside0.mk A270
     clear A270
     replace H := Option.bind_eq_some_iff.mp H
     obtain ⟨⟨t536, t537⟩, A280, H⟩ := H
     replace H : ((impl_IsRoundExchange.f kj7 t529 t530 t531).bind fun bt538 => ((spec_IsRoundExchange.f kj7 t529 t530 t531).bind fun bt540 => ((impl_IsAdjacentList.f kj7 t529 t530 t531).bind fun bt542 => ((spec_IsAdjacentList.f kj7 t529 t530 t531).bind fun bt544 => (if (t535 != t537) = true then (laws_FnExchanges.j1 kj7 t529 t530 t531 t534 t535 bt542.1 true) else (if (t534 != t536) = true then (laws_FnExchanges.j1 kj7 t529 t530 t531 t534 t535 bt542.1 true) else (if (bt538.2 != bt540.2) = true then (laws_FnExchanges.j1 kj7 t529 t530 t531 t534 t535 bt542.1 true) else (if (bt538.1 != bt540.1) = true then (laws_FnExchanges.j1 kj7 t529 t530 t531 t534 t535 bt542.1 true) else (if (bt542.2 != bt544.2) = true then (laws_FnExchanges.j1 kj7 t529 t530 t531 t534 t535 bt542.1 true) else (if (bt542.1 != bt544.1) = true then (laws_FnExchanges.j1 kj7 t529 t530 t531 t534 t535 bt542.1 true) else (if bt538.1 = true then (if t534 = true then (if bt542.1 = true then (laws_FnExchanges.j1 kj7 t529 t530 t531 t534 t535 bt542.1 (!t534)) else (laws_FnExchanges.j1 kj7 t529 t530 t531 t534 t535 bt542.1 false)) else (laws_FnExchanges.j1 kj7 t529 t530 t531 t534 t535 bt542.1 true)) else (if bt542.1 = true then (laws_FnExchanges.j1 kj7 t529 t530 t531 t534 t535 bt542.1 (!t534)) else (laws_FnExchanges.j1 kj7 t529 t530 t531 t534 t535 bt542.1 false))))))))))))) = some r := H
     have A28 := Aside0.mk A280
     clear A280
     replace H := Option.bind_eq_some_iff.mp H
     obtain ⟨⟨t538, t539⟩, A290, H⟩ := H
     replace H : ((spec_IsRoundExchange.f kj7 t529 t530 t531).bind fun bt540 => ((impl_IsAdjacentList.f kj7 t529 t530 t531).bind fun bt542 => ((spec_IsAdjacentList.f kj7 t529 t530 t531).bind fun bt544 => (if (t535 != t537) = true then (laws_FnExchanges.j1 kj7 t529 t530 t531 t534 t535 bt542.1 true) else (if (t534 != t536) = true then (laws_FnExchanges.j1 kj7 t529 t530 t531 t534 t535 bt542.1 true) else (if (t539 != bt540.2) = true then (laws_FnExchanges.j1 kj7 t529 t530 t531 t534 t535 bt542.1 true) else (if (t538 != bt540.1) = true then (laws_FnExchanges.j1 kj7 t529 t530 t531 t534 t535 bt542.1 true) else (if (bt542.2 != bt544.2) = true then (laws_FnExchanges.j1 kj7 t529 t530 t531 t534 t535 bt542.1 true) else (if (bt542.1 != bt544.1) = true then (laws_FnExchanges.j1 kj7 t529 t530 t531 t534 t535 bt542.1 true) else (if t538 = true then (if t534 = true then (if bt542.1 = true then (laws_FnExchanges.j1 kj7 t529 t530 t531 t534 t535 bt542.1 (!t534)) else (laws_FnExchanges.j1 kj7 t529 t530 t531 t534 t535 bt542.1 false)) else (laws_FnExchanges.j1 kj7 t529 t530 t531 t534 t535 bt542.1 true)) else (if bt542.1 = true then (laws_FnExchanges.j1 kj7 t529 t530 t531 t534 t535 bt542.1 (!t534)) else (laws_FnExchanges.j1 kj7 t529 t530 t531 t534 t535 bt542.1 false)))))))))))) = some r := H
     have A29 := Aside0.mk A290
     clear A290
     replace H := Option.bind_eq_some_iff.mp H
     obtain ⟨⟨t540, t541⟩, A300, H⟩ := H
     replace H : ((impl_IsAdjacentList.f kj7 t529 t530 t531).bind fun bt542 => ((spec_IsAdjacentList.f kj7 t529 t530 t531).bind fun bt544 => (if (t535 != t537) = true then (laws_FnExchanges.j1 kj7 t529 t530 t531 t534 t535 bt542.1 true) else (if (t534 != t536) = true then (laws_FnExchanges.j1 kj7 t529 t530 t531 t534 t535 bt542.1 true) else (if (t539 != t541) = true then (laws_FnExchanges.j1 kj7 t529 t530 t531 t534 t535 bt542.1 true) else (if (t538 != t540) = true then (laws_FnExchanges.j1 kj7 t529 t530 t531 t534 t535 bt542.1 true) else (if (bt542.2 != bt544.2) = true then (laws_FnExchanges.j1 kj7 t529 t530 t531 t534 t535 bt542.1 true) else (if (bt542.1 != bt544.1) = true then (laws_FnExchanges.j1 kj7 t529 t530 t531 t534 t535 bt542.1 true) else (if t538 = true then (if t534 = true then (if bt542.1 = true then (laws_FnExchanges.j1 kj7 t529 t530 t531 t534 t535 bt542.1 (!t534)) else (laws_FnExchanges.j1 kj7 t529 t530 t531 t534 t535 bt542.1 false)) else (laws_FnExchanges.j1 kj7 t529 t530 t531 t534 t535 bt542.1 true)) else (if bt542.1 = true then (laws_FnExchanges.j1 kj7 t529 t530 t531 t534 t535 bt542.1 (!t534)) else (laws_FnExchanges.j1 kj7 t529 t530 t531 t534 t535 bt542.1 false))))))))))) = some r := H
     have A30 := Aside0.mk A300
     clear A300
     replace H := Option.bind_eq_some_iff.mp H
     obtain ⟨⟨t542, t543⟩, A310, H⟩ := H
     replace H : ((spec_IsAdjacentList.f kj7 t529 t530 t531).bind fun bt544 => (if (t535 != t537) = true then (laws_FnExchanges.j1 kj7 t529 t530 t531 t534 t535 t542 true) else (if (t534 != t536) = true then (laws_FnExchanges.j1 kj7 t529 t530 t531 t534 t535 t542 true) else (if (t539 != t541) = true then (laws_FnExchanges.j1 kj7 t529 t530 t531 t534 t535 t542 true) else (if (t538 != t540) = true then (laws_FnExchanges.j1 kj7 t529 t530 t531 t534 t535 t542 true) else (if (t543 != bt544.2) = true then (laws_FnExchanges.j1 kj7 t529 t530 t531 t534 t535 t542 true) else (if (t542 != bt544.1) = true then (laws_FnExchanges.j1 kj7 t529 t530 t531 t534 t535 t542 true) else (if t538 = true then (if t534 = true then (if t542 = true then (laws_FnExchanges.j1 kj7 t529 t530 t531 t534 t535 t542 (!t534)) else (laws_FnExchanges.j1 kj7 t529 t530 t531 t534 t535 t542 false)) else (laws_FnExchanges.j1 kj7 t529 t530 t531 t534 t535 t542 true)) else (if t542 = true then (laws_FnExchanges.j1 kj7 t529 t530 t531 t534 t535 t542 (!t534)) else (laws_FnExchanges.j1 kj7 t529 t530 t531 t534 t535 t542 false)))))))))) = some r := H
     have A31 := Aside0.mk A310
     clear A310
     replace H := Option.bind_eq_some_iff.mp H
     obtain ⟨⟨t544, t545⟩, A320, H⟩ := H
     replace H : (if (t535 != t537) = true then (laws_FnExchanges.j1 kj7 t529 t530 t531 t534 t535 t542 true) else (if (t534 != t536) = true then (laws_FnExchanges.j1 kj7 t529 t530 t531 t534 t535 t542 true) else (if (t539 != t541) = true then (laws_FnExchanges.j1 kj7 t529 t530 t531 t534 t535 t542 true) else (if (t538 != t540) = true then (laws_FnExchanges.j1 kj7 t529 t530 t531 t534 t535 t542 true) else (if (t543 != t545) = true then (laws_FnExchanges.j1 kj7 t529 t530 t531 t534 t535 t542 true) else (if (t542 != t544) = true then (laws_FnExchanges.j1 kj7 t529 t530 t531 t534 t535 t542 true) else (if t538 = true then (if t534 = true then (if t542 = true then (laws_FnExchanges.j1 kj7 t529 t530 t531 t534 t535 t542 (!t534)) else (laws_FnExchanges.j1 kj7 t529 t530 t531 t534 t535 t542 false)) else (laws_FnExchanges.j1 kj7 t529 t530 t531 t534 t535 t542 true)) else (if t542 = true then (laws_FnExchanges.j1 kj7 t529 t530 t531 t534 t535 t542 (!t534)) else (laws_FnExchanges.j1 kj7 t529 t530 t531 t534 t535 t542 false))))))))) = some r := H
     have A32 := Aside0.mk A320
     clear A320
     have HC33 := Aside0.mk H
     clear H
     go_upto_region 15 with (first | ((with_reducible refine gate_callee (f := 23) rfl ?_); refine goesL_ (some 102) rfl rfl Try.func23 (by kernel_rfl) rfl #[.slice A1 l1.length c1] rfl (by (try simp only [List.map_toArray, List.map_cons, List.map_nil]); first | done | rfl | (simp only [List.length_drop, List.length_take]; rfl)) ?_; (with_reducible refine (spec_DrawIsExchangeList.calls kj7 _ _ l1 t529 t530 t531 _ ?side1 ?side2 A26.out).mono ?_); (case side1 => repeat (first | exact (Kd.C_below HR1.out HB.out) | (with_reducible refine Kd.C_alloc ?_ _) | (with_reducible refine Kd.C_drewN ?_ _) | (with_reducible refine Kd.C_drew ?_))); (case side2 => exact HC1.out); rintro e w34 ⟨v532, rfl, ho0, hb⟩; refine ⟨_, rfl, ?_⟩; have n0_ := Aside0.mk (Kd.N_lower (Kd.N_mono (ok' := fun k_ => True) ho0 (fun k_ hk_ => trivial)) (below_size (by repeat (first | (with_reducible first | exact HB.out | apply below_alloc | apply pw_below_drewN | apply below_drew1) | exact HB.out)))); have n1_ := Aside0.mk (below_step (by repeat (first | (with_reducible first | exact HB.out | apply below_alloc | apply pw_below_drewN | apply below_drew1) | exact HB.out)) hb); clear HB; have HO533 := n0_; have HB := n1_; clear n0_ n1_; (try clear hb); (try clear hb2); (try clear hk); (try clear hi); (try clear ho0); obtain ⟨Ao35, co35, eo35⟩ := Kd.N_slice HO533.out; subst eo35) | ((with_reducible refine gate_callee (f := 24) rfl ?_); refine goesL_ (some 110) rfl rfl Try.func24 (by kernel_rfl) rfl #[.int .i64 t529, .int .i64 t530, .slice Ao35 t531.length co35] rfl (by (try simp only [List.map_toArray, List.map_cons, List.map_nil]); first | done | rfl | (simp only [List.length_drop, List.length_take]; rfl)) ?_; (with_reducible refine (impl_IsExchangeList.calls kj7 t529 t530 _ _ t531 t534 t535 _ ?side1 ?side2 A27.out).mono ?_); (case side1 => repeat (first | exact (Kd.N_reads' HO533.out).2.2 | (with_reducible refine Kd.C_alloc ?_ _) | (with_reducible refine Kd.C_drewN ?_ _) | (with_reducible refine Kd.C_drew ?_))); (case side2 => exact (Kd.N_reads' HO533.out).2.1); rintro e w36 ⟨rfl, hb⟩; refine ⟨_, rfl, ?_⟩; have n0_ := Aside0.mk (Kd.N_below (by (with_reducible repeat (first | apply Kd.N_alloc | apply Kd.N_drewN | apply Kd.N_drew)); exact HO533.out) hb); have n1_ := Aside0.mk (below_step (by repeat (first | (with_reducible first | exact HB.out | apply below_alloc | apply pw_below_drewN | apply below_drew1) | exact HB.out)) hb); clear HO533; clear HB; have HO533 := n0_; have HB := n1_; clear n0_ n1_; (try clear hb); (try clear hb2); (try clear hk); (try clear hi)) | ((with_reducible refine gate_callee (f := 25) rfl ?_); refine goesL_ (some 117) rfl rfl Try.func25 (by kernel_rfl) rfl #[.int .i64 t529, .int .i64 t530, .slice Ao35 t531.length co35] rfl (by (try simp only [List.map_toArray, List.map_cons, List.map_nil]); first | done | rfl | (simp only [List.length_drop, List.length_take]; rfl)) ?_; (with_reducible refine (spec_IsExchangeList.calls kj7 t529 t530 _ _ t531 t536 t537 _ ?side1 ?side2 A28.out).mono ?_); (case side1 => repeat (first | exact (Kd.N_reads' HO533.out).2.2 | (with_reducible refine Kd.C_alloc ?_ _) | (with_reducible refine Kd.C_drewN ?_ _) | (with_reducible refine Kd.C_drew ?_))); (case side2 => exact (Kd.N_reads' HO533.out).2.1); rintro e w37 ⟨rfl, hb⟩; refine ⟨_, rfl, ?_⟩; have n0_ := Aside0.mk (Kd.N_below (by (with_reducible repeat (first | apply Kd.N_alloc | apply Kd.N_drewN | apply Kd.N_drew)); exact HO533.out) hb); have n1_ := Aside0.mk (below_step (by repeat (first | (with_reducible first | exact HB.out | apply below_alloc | apply pw_below_drewN | apply below_drew1) | exact HB.out)) hb); clear HO533; clear HB; have HO533 := n0_; have HB := n1_; clear n0_ n1_; (try clear hb); (try clear hb2); (try clear hk); (try clear hi)) | ((with_reducible refine gate_callee (f := 26) rfl ?_); refine goesL_ (some 124) rfl rfl Try.func26 (by kernel_rfl) rfl #[.int .i64 t529, .int .i64 t530, .slice Ao35 t531.length co35] rfl (by (try simp only [List.map_toArray, List.map_cons, List.map_nil]); first | done | rfl | (simp only [List.length_drop, List.length_take]; rfl)) ?_; (with_reducible refine (impl_IsRoundExchange.calls kj7 t529 t530 _ _ t531 t538 t539 _ ?side1 ?side2 A29.out).mono ?_); (case side1 => repeat (first | exact (Kd.N_reads' HO533.out).2.2 | (with_reducible refine Kd.C_alloc ?_ _) | (with_reducible refine Kd.C_drewN ?_ _) | (with_reducible refine Kd.C_drew ?_))); (case side2 => exact (Kd.N_reads' HO533.out).2.1); rintro e w38 ⟨rfl, hb⟩; refine ⟨_, rfl, ?_⟩; have n0_ := Aside0.mk (Kd.N_below (by (with_reducible repeat (first | apply Kd.N_alloc | apply Kd.N_drewN | apply Kd.N_drew)); exact HO533.out) hb); have n1_ := Aside0.mk (below_step (by repeat (first | (with_reducible first | exact HB.out | apply below_alloc | apply pw_below_drewN | apply below_drew1) | exact HB.out)) hb); clear HO533; clear HB; have HO533 := n0_; have HB := n1_; clear n0_ n1_; (try clear hb); (try clear hb2); (try clear hk); (try clear hi)) | ((with_reducible refine gate_callee (f := 27) rfl ?_); refine goesL_ (some 131) rfl rfl Try.func27 (by kernel_rfl) rfl #[.int .i64 t529, .int .i64 t530, .slice Ao35 t531.length co35] rfl (by (try simp only [List.map_toArray, List.map_cons, List.map_nil]); first | done | rfl | (simp only [List.length_drop, List.length_take]; rfl)) ?_; (with_reducible refine (spec_IsRoundExchange.calls kj7 t529 t530 (fun k_ => True) _ _ t531 t540 t541 _ ?side1 A30.out).mono ?_); (case side1 => exact Kd.N_V (HO533.out)); rintro e w39 ⟨rfl, hb⟩; refine ⟨_, rfl, ?_⟩; have n0_ := Aside0.mk (Kd.N_below (by (with_reducible repeat (first | apply Kd.N_alloc | apply Kd.N_drewN | apply Kd.N_drew)); exact HO533.out) hb); have n1_ := Aside0.mk (below_step (by repeat (first | (with_reducible first | exact HB.out | apply below_alloc | apply pw_below_drewN | apply below_drew1) | exact HB.out)) hb); clear HO533; clear HB; have HO533 := n0_; have HB := n1_; clear n0_ n1_; (try clear hb); (try clear hb2); (try clear hk); (try clear hi)) | ((with_reducible refine gate_callee (f := 14) rfl ?_); refine goesL_ (some 138) rfl rfl Try.func14 (by kernel_rfl) rfl #[.int .i64 t529, .int .i64 t530, .slice Ao35 t531.length co35] rfl (by (try simp only [List.map_toArray, List.map_cons, List.map_nil]); first | done | rfl | (simp only [List.length_drop, List.length_take]; rfl)) ?_; (with_reducible refine (impl_IsAdjacentList.calls kj7 t529 t530 _ _ t531 t542 t543 _ ?side1 ?side2 A31.out).mono ?_); (case side1 => repeat (first | exact (Kd.N_reads' HO533.out).2.2 | (with_reducible refine Kd.C_alloc ?_ _) | (with_reducible refine Kd.C_drewN ?_ _) | (with_reducible refine Kd.C_drew ?_))); (case side2 => exact (Kd.N_reads' HO533.out).2.1); rintro e w40 ⟨rfl, hb⟩; refine ⟨_, rfl, ?_⟩; have n0_ := Aside0.mk (Kd.N_below (by (with_reducible repeat (first | apply Kd.N_alloc | apply Kd.N_drewN | apply Kd.N_drew)); exact HO533.out) hb); have n1_ := Aside0.mk (below_step (by repeat (first | (with_reducible first | exact HB.out | apply below_alloc | apply pw_below_drewN | apply below_drew1) | exact HB.out)) hb); clear HO533; clear HB; have HO533 := n0_; have HB := n1_; clear n0_ n1_; (try clear hb); (try clear hb2); (try clear hk); (try clear hi)) | ((with_reducible refine gate_callee (f := 28) rfl ?_); refine goesL_ (some 145) rfl rfl Try.func28 (by kernel_rfl) rfl #[.int .i64 t529, .int .i64 t530, .slice Ao35 t531.length co35] rfl (by (try simp only [List.map_toArray, List.map_cons, List.map_nil]); first | done | rfl | (simp only [List.length_drop, List.length_take]; rfl)) ?_; (with_reducible refine (spec_IsAdjacentList.calls kj7 t529 t530 _ _ t531 t544 t545 _ ?side1 ?side2 A32.out).mono ?_); (case side1 => repeat (first | exact (Kd.N_reads' HO533.out).2.2 | (with_reducible refine Kd.C_alloc ?_ _) | (with_reducible refine Kd.C_drewN ?_ _) | (with_reducible refine Kd.C_drew ?_))); (case side2 => exact (Kd.N_reads' HO533.out).2.1); rintro e w41 ⟨rfl, hb⟩; refine ⟨_, rfl, ?_⟩; have n0_ := Aside0.mk (Kd.N_below (by (with_reducible repeat (first | apply Kd.N_alloc | apply Kd.N_drewN | apply Kd.N_drew)); exact HO533.out) hb); have n1_ := Aside0.mk (below_step (by repeat (first | (with_reducible first | exact HB.out | apply below_alloc | apply pw_below_drewN | apply below_drew1) | exact HB.out)) hb); clear HO533; clear HB; have HO533 := n0_; have HB := n1_; clear n0_ n1_; (try clear hb); (try clear hb2); (try clear hk); (try clear hi)))
     (try simp only [Act.put, List.setIfInBounds_toArray, List.set_cons_zero, List.set_cons_succ])
     go_cut [189] (fun v189 wc => ∃ (kq : Nat) (x189_32 : Bool), v189 = .bool x189_32 ∧ Aside0 (laws_FnExchanges.j1 kq t529 t530 t531 t534 t535 t542 x189_32 = some r) ∧ Aside0 (kq ≤ kj7) ∧ Aside0 (Kd.N (Kd.slice 3 (Kd.int .i64)) 38 wc w.heap.size (fun _ => True) (.slice Ao35 t531.length co35) t531) ∧ Aside0 (Below w.heap.size w wc))
     case first =>
      have H := HC33.out
      clear HC33
      by_cases c42 : (t535 != t537) = true
      ·rw [if_pos c42] at H
       have c42b0 : (t535 != t537) = true := c42
       (try (have c42b1 : decide (t535 = t537) = false := by simpa using c42))
       (try (have c42b2 : (t535 == t537) = false := by simpa using c42))
       (try (have c42b3 : ¬ (t535 = t537) := by simpa using c42))
       clear c42
       (first | rw [c42b0] | (simp only [i64_w, i32_w]; rw [c42b0]) | skip)
       have H' := Aside0.mk H
       clear H
       go_wp2
       go_meet
       case rel => exact ⟨_, (true), (by first | rfl | (simp; done) | (simp [*]; done)), H', ⟨by have := HJ7.out; first | omega | exact Nat.le_refl _⟩, ⟨by (with_reducible repeat (first | apply Kd.N_alloc | apply Kd.N_drewN | apply Kd.N_drew)); exact HO533.out⟩, ⟨by repeat (first | (with_reducible first | exact HB.out | apply below_alloc | apply pw_below_drewN | apply below_drew1) | exact HB.out)⟩⟩
      ·rw [if_neg c42] at H
       have c42b0 : (t535 != t537) = false := by simpa using c42
       (try (have c42b1 : decide (t535 = t537) = true := by simpa using c42))
       (try (have c42b2 : (t535 == t537) = true := by simpa using c42))
       clear c42
       (first | rw [c42b0] | (simp only [i64_w, i32_w]; rw [c42b0]) | skip)
       by_cases c43 : (t534 != t536) = true
       ·rw [if_pos c43] at H
        have c43b0 : (t534 != t536) = true := c43
        (try (have c43b1 : decide (t534 = t536) = false := by simpa using c43))
        (try (have c43b2 : (t534 == t536) = false := by simpa using c43))
        (try (have c43b3 : ¬ (t534 = t536) := by simpa using c43))
        clear c43
        have H' := Aside0.mk H
        clear H
        go_wp2
        go_meet
        case rel => exact ⟨_, (true), (by first | rfl | (simp; done) | (simp [*]; done)), H', ⟨by have := HJ7.out; first | omega | exact Nat.le_refl _⟩, ⟨by (with_reducible repeat (first | apply Kd.N_alloc | apply Kd.N_drewN | apply Kd.N_drew)); exact HO533.out⟩, ⟨by repeat (first | (with_reducible first | exact HB.out | apply below_alloc | apply pw_below_drewN | apply below_drew1) | exact HB.out)⟩⟩
       ·rw [if_neg c43] at H
        have c43b0 : (t534 != t536) = false := by simpa using c43
        (try (have c43b1 : decide (t534 = t536) = true := by simpa using c43))
        (try (have c43b2 : (t534 == t536) = true := by simpa using c43))
        clear c43
        by_cases c44 : (t539 != t541) = true
        ·rw [if_pos c44] at H
         have c44b0 : (t539 != t541) = true := c44
         (try (have c44b1 : decide (t539 = t541) = false := by simpa using c44))
         (try (have c44b2 : (t539 == t541) = false := by simpa using c44))
         (try (have c44b3 : ¬ (t539 = t541) := by simpa using c44))
         clear c44
         have H' := Aside0.mk H
         clear H
         go_wp2
         go_meet
         case rel => exact ⟨_, (true), (by first | rfl | (simp; done) | (simp [*]; done)), H', ⟨by have := HJ7.out; first | omega | exact Nat.le_refl _⟩, ⟨by (with_reducible repeat (first | apply Kd.N_alloc | apply Kd.N_drewN | apply Kd.N_drew)); exact HO533.out⟩, ⟨by repeat (first | (with_reducible first | exact HB.out | apply below_alloc | apply pw_below_drewN | apply below_drew1) | exact HB.out)⟩⟩
        ·rw [if_neg c44] at H
         have c44b0 : (t539 != t541) = false := by simpa using c44
         (try (have c44b1 : decide (t539 = t541) = true := by simpa using c44))
         (try (have c44b2 : (t539 == t541) = true := by simpa using c44))
         clear c44
         by_cases c45 : (t538 != t540) = true
         ·rw [if_pos c45] at H
          have c45b0 : (t538 != t540) = true := c45
          (try (have c45b1 : decide (t538 = t540) = false := by simpa using c45))
          (try (have c45b2 : (t538 == t540) = false := by simpa using c45))
          (try (have c45b3 : ¬ (t538 = t540) := by simpa using c45))
          clear c45
          have H' := Aside0.mk H
          clear H
          go_wp2
          go_meet
          case rel => exact ⟨_, (true), (by first | rfl | (simp; done) | (simp [*]; done)), H', ⟨by have := HJ7.out; first | omega | exact Nat.le_refl _⟩, ⟨by (with_reducible repeat (first | apply Kd.N_alloc | apply Kd.N_drewN | apply Kd.N_drew)); exact HO533.out⟩, ⟨by repeat (first | (with_reducible first | exact HB.out | apply below_alloc | apply pw_below_drewN | apply below_drew1) | exact HB.out)⟩⟩
         ·rw [if_neg c45] at H
          have c45b0 : (t538 != t540) = false := by simpa using c45
          (try (have c45b1 : decide (t538 = t540) = true := by simpa using c45))
          (try (have c45b2 : (t538 == t540) = true := by simpa using c45))
          clear c45
          by_cases c46 : (t543 != t545) = true
          ·rw [if_pos c46] at H
           have c46b0 : (t543 != t545) = true := c46
           (try (have c46b1 : decide (t543 = t545) = false := by simpa using c46))
           (try (have c46b2 : (t543 == t545) = false := by simpa using c46))
           (try (have c46b3 : ¬ (t543 = t545) := by simpa using c46))
           clear c46
           have H' := Aside0.mk H
           clear H
           go_wp2
           go_meet
           case rel => exact ⟨_, (true), (by first | rfl | (simp; done) | (simp [*]; done)), H', ⟨by have := HJ7.out; first | omega | exact Nat.le_refl _⟩, ⟨by (with_reducible repeat (first | apply Kd.N_alloc | apply Kd.N_drewN | apply Kd.N_drew)); exact HO533.out⟩, ⟨by repeat (first | (with_reducible first | exact HB.out | apply below_alloc | apply pw_below_drewN | apply below_drew1) | exact HB.out)⟩⟩
          ·rw [if_neg c46] at H
           have c46b0 : (t543 != t545) = false := by simpa using c46
           (try (have c46b1 : decide (t543 = t545) = true := by simpa using c46))
           (try (have c46b2 : (t543 == t545) = true := by simpa using c46))
           clear c46
           by_cases c47 : (t542 != t544) = true
           ·rw [if_pos c47] at H
            have c47b0 : (t542 != t544) = true := c47
            (try (have c47b1 : decide (t542 = t544) = false := by simpa using c47))
            (try (have c47b2 : (t542 == t544) = false := by simpa using c47))
            (try (have c47b3 : ¬ (t542 = t544) := by simpa using c47))
            clear c47
            have H' := Aside0.mk H
            clear H
            go_wp2
            go_meet
            case rel => exact ⟨_, (true), (by first | rfl | (simp; done) | (simp [*]; done)), H', ⟨by have := HJ7.out; first | omega | exact Nat.le_refl _⟩, ⟨by (with_reducible repeat (first | apply Kd.N_alloc | apply Kd.N_drewN | apply Kd.N_drew)); exact HO533.out⟩, ⟨by repeat (first | (with_reducible first | exact HB.out | apply below_alloc | apply pw_below_drewN | apply below_drew1) | exact HB.out)⟩⟩
           ·rw [if_neg c47] at H
            have c47b0 : (t542 != t544) = false := by simpa using c47
            (try (have c47b1 : decide (t542 = t544) = true := by simpa using c47))
            (try (have c47b2 : (t542 == t544) = true := by simpa using c47))
            clear c47
            by_cases c48 : t538 = true
            ·subst c48
             have H1 : (if t534 = true then (if t542 = true then (laws_FnExchanges.j1 kj7 t529 t530 t531 t534 t535 t542 (!t534)) else (laws_FnExchanges.j1 kj7 t529 t530 t531 t534 t535 t542 false)) else (laws_FnExchanges.j1 kj7 t529 t530 t531 t534 t535 t542 true)) = some r := by rw [if_pos rfl] at H; exact H
             clear H
             have H := H1
             clear H1
             by_cases c49 : t534 = true
             ·subst c49
              have H1 : (if t542 = true then (laws_FnExchanges.j1 kj7 t529 t530 t531 true t535 t542 (!true)) else (laws_FnExchanges.j1 kj7 t529 t530 t531 true t535 t542 false)) = some r := by rw [if_pos rfl] at H; exact H
              clear H
              have H := H1
              clear H1
              by_cases c50 : t542 = true
              ·subst c50
               have H1 : (laws_FnExchanges.j1 kj7 t529 t530 t531 true t535 true (!true)) = some r := by rw [if_pos rfl] at H; exact H
               clear H
               have H := H1
               clear H1
               have H' := Aside0.mk H
               clear H
               go_wp2
               go_meet
               case rel => exact ⟨_, (!true), (by first | rfl | (simp; done) | (simp [*]; done)), H', ⟨by have := HJ7.out; first | omega | exact Nat.le_refl _⟩, ⟨by (with_reducible repeat (first | apply Kd.N_alloc | apply Kd.N_drewN | apply Kd.N_drew)); exact HO533.out⟩, ⟨by repeat (first | (with_reducible first | exact HB.out | apply below_alloc | apply pw_below_drewN | apply below_drew1) | exact HB.out)⟩⟩
              ·replace c50 := Bool.eq_false_iff.mpr c50
               subst c50
               have H1 : (laws_FnExchanges.j1 kj7 t529 t530 t531 true t535 false false) = some r := by rw [if_neg (show ¬ (false = true) by decide)] at H; exact H
               clear H
               have H := H1
               clear H1
               have H' := Aside0.mk H
               clear H
               go_wp2
               go_meet
               case rel => exact ⟨_, (false), (by first | rfl | (simp; done) | (simp [*]; done)), H', ⟨by have := HJ7.out; first | omega | exact Nat.le_refl _⟩, ⟨by (with_reducible repeat (first | apply Kd.N_alloc | apply Kd.N_drewN | apply Kd.N_drew)); exact HO533.out⟩, ⟨by repeat (first | (with_reducible first | exact HB.out | apply below_alloc | apply pw_below_drewN | apply below_drew1) | exact HB.out)⟩⟩
             ·replace c49 := Bool.eq_false_iff.mpr c49
              subst c49
              have H1 : (laws_FnExchanges.j1 kj7 t529 t530 t531 false t535 t542 true) = some r := by rw [if_neg (show ¬ (false = true) by decide)] at H; exact H
              clear H
              have H := H1
              clear H1
              have H' := Aside0.mk H
              clear H
              go_wp2
              go_meet
              case rel => exact ⟨_, (true), (by first | rfl | (simp; done) | (simp [*]; done)), H', ⟨by have := HJ7.out; first | omega | exact Nat.le_refl _⟩, ⟨by (with_reducible repeat (first | apply Kd.N_alloc | apply Kd.N_drewN | apply Kd.N_drew)); exact HO533.out⟩, ⟨by repeat (first | (with_reducible first | exact HB.out | apply below_alloc | apply pw_below_drewN | apply below_drew1) | exact HB.out)⟩⟩
            ·replace c48 := Bool.eq_false_iff.mpr c48
             subst c48
             have H1 : (if t542 = true then (laws_FnExchanges.j1 kj7 t529 t530 t531 t534 t535 t542 (!t534)) else (laws_FnExchanges.j1 kj7 t529 t530 t531 t534 t535 t542 false)) = some r := by rw [if_neg (show ¬ (false = true) by decide)] at H; exact H
             clear H
             have H := H1
             clear H1
             by_cases c51 : t542 = true
             ·subst c51
              have H1 : (laws_FnExchanges.j1 kj7 t529 t530 t531 t534 t535 true (!t534)) = some r := by rw [if_pos rfl] at H; exact H
              clear H
              have H := H1
              clear H1
              have H' := Aside0.mk H
              clear H
              go_wp2
              go_meet
              case rel => exact ⟨_, (!t534), (by first | rfl | (simp; done) | (simp [*]; done)), H', ⟨by have := HJ7.out; first | omega | exact Nat.le_refl _⟩, ⟨by (with_reducible repeat (first | apply Kd.N_alloc | apply Kd.N_drewN | apply Kd.N_drew)); exact HO533.out⟩, ⟨by repeat (first | (with_reducible first | exact HB.out | apply below_alloc | apply pw_below_drewN | apply below_drew1) | exact HB.out)⟩⟩
             ·replace c51 := Bool.eq_false_iff.mpr c51
              subst c51
              have H1 : (laws_FnExchanges.j1 kj7 t529 t530 t531 t534 t535 false false) = some r := by rw [if_neg (show ¬ (false = true) by decide)] at H; exact H
              clear H
              have H := H1
              clear H1
              have H' := Aside0.mk H
              clear H
              go_wp2
              go_meet
              case rel => exact ⟨_, (false), (by first | rfl | (simp; done) | (simp [*]; done)), H', ⟨by have := HJ7.out; first | omega | exact Nat.le_refl _⟩, ⟨by (with_reducible repeat (first | apply Kd.N_alloc | apply Kd.N_drewN | apply Kd.N_drew)); exact HO533.out⟩, ⟨by repeat (first | (with_reducible first | exact HB.out | apply below_alloc | apply pw_below_drewN | apply below_drew1) | exact HB.out)⟩⟩
     case rest => as_aux_lemma =>
      clear HC33
      try clear c1
      try clear c2
      try clear p2
      try clear c4
      try clear c5
      try clear c11
      try clear c14
      try clear c14b0
      try clear c14b1
      try clear c14b2
      try clear c15
      try clear c15b0
      try clear c15b1
      try clear c16
      try clear c16b0
      try clear c16b1
      try clear c17
      try clear c19
      try clear c20
      try clear c21
      try clear c23
      try clear c24
      try clear c25
      try clear c26
      try clear c27
      try clear c28
      try clear c42
      try clear c42b0
      try clear c42b1
      try clear c42b2
      try clear c43
      try clear c43b0
      try clear c43b1
      try clear c43b2
      try clear c44
      try clear c44b0
      try clear c44b1
      try clear c44b2
      try clear c45
      try clear c45b0
      try clear c45b1
      try clear c45b2
      try clear c46
      try clear c46b0
      try clear c46b1
      try clear c46b2
      try clear c47
      try clear c47b0
      try clear c47b1
      try clear c47b2
      try clear c48
      try clear c49
      try clear c50
      try clear c51
      try clear p2
      obtain ⟨kq, x189_32, rfl, HA, HJ32, HO_16, HB⟩ := hcut
      cases kq with
      | zero => exact absurd HA.out (by simp [laws_FnExchanges.j1])
      | succ kj32 =>
       have H := HA.out
       clear HA
       simp only [laws_FnExchanges.j1] at H
       by_cases c52 : x189_32 = true
       ·subst c52
        have H1 : (some false) = some r := by rw [if_pos rfl] at H; exact H
        clear H
        have H := H1
        clear H1
        obtain rfl := Option.some.inj H
        go_wp2
        go_ret
        exact ⟨by first | rfl | (simp [errW_none, errW_some] <;> rfl) | (simp [*, errW_none, errW_some] <;> rfl), by repeat (first | (with_reducible first | exact HB.out | apply below_alloc | apply pw_below_drewN | apply below_drew1) | exact HB.out)⟩
       ·replace c52 := Bool.eq_false_iff.mpr c52
        subst c52
        have H1 : ((impl_ComplementsOf.f kj32 t529 t531).bind fun bt546 => ((spec_ComplementsOf.f kj32 t529 t531).bind fun bt550 => (if (bt546.2 != bt550.2) = true then (laws_FnExchanges.j2 kj32 t529 t530 t534 t535 t542 bt546.1 true) else ((laws_uLists.f kj32 bt546.1 bt550.1).bind fun t554 => (laws_FnExchanges.j2 kj32 t529 t530 t534 t535 t542 bt546.1 (!t554)))))) = some r := by rw [if_neg (show ¬ (false = true) by decide)] at H; exact H
        clear H
        have H := H1
        clear H1
        replace H := Option.bind_eq_some_iff.mp H
        obtain ⟨⟨t546, t547⟩, A530, H⟩ := H
        replace H : ((spec_ComplementsOf.f kj32 t529 t531).bind fun bt550 => (if (t547 != bt550.2) = true then (laws_FnExchanges.j2 kj32 t529 t530 t534 t535 t542 t546 true) else ((laws_uLists.f kj32 t546 bt550.1).bind fun t554 => (laws_FnExchanges.j2 kj32 t529 t530 t534 t535 t542 t546 (!t554))))) = some r := H
        have A53 := Aside0.mk A530
        clear A530
        replace H := Option.bind_eq_some_iff.mp H
        obtain ⟨⟨t550, t551⟩, A540, H⟩ := H
        replace H : (if (t547 != t551) = true then (laws_FnExchanges.j2 kj32 t529 t530 t534 t535 t542 t546 true) else ((laws_uLists.f kj32 t546 t550).bind fun t554 => (laws_FnExchanges.j2 kj32 t529 t530 t534 t535 t542 t546 (!t554)))) = some r := H
        have A54 := Aside0.mk A540
        clear A540
        have HC55 := Aside0.mk H
        clear H
        go_upto_region 19 with (first | ((with_reducible refine gate_callee (f := 29) rfl ?_); refine goesL_ (some 193) rfl rfl Try.func29 (by kernel_rfl) rfl #[.int .i64 t529, .slice Ao35 t531.length co35] rfl (by (try simp only [List.map_toArray, List.map_cons, List.map_nil]); first | done | rfl | (simp only [List.length_drop, List.length_take]; rfl)) ?_; (with_reducible refine (impl_ComplementsOf.calls kj32 t529 _ _ t531 t546 t547 _ ?side1 ?side2 A53.out).mono ?_); (case side1 => repeat (first | exact (Kd.N_reads' HO_16.out).2.2 | (with_reducible refine Kd.C_alloc ?_ _) | (with_reducible refine Kd.C_drewN ?_ _) | (with_reducible refine Kd.C_drew ?_))); (case side2 => exact (Kd.N_reads' HO_16.out).2.1); rintro e w56 ⟨v548, rfl, ho0, hb⟩; refine ⟨_, rfl, ?_⟩; have n0_ := Aside0.mk (Kd.N_elder' (by (with_reducible repeat (first | apply Kd.N_alloc | apply Kd.N_drewN | apply Kd.N_drew)); exact HO_16.out) (Kd.S_base ho0) hb); have n1_ := Aside0.mk (Kd.N_lower (Kd.N_mono (ok' := fun k_ => some k_ ≠ (.slice Ao35 t531.length co35 : Value).ownBlock) (Kd.S_N (Kd.S_bound ho0)) (fun k_ hk_ => (Kd.fresh' (Kd.N_lt (by (with_reducible repeat (first | apply Kd.N_alloc | apply Kd.N_drewN | apply Kd.N_drew)); exact HO_16.out)) k_ hk_.2.1))) (below_size (by repeat (first | (with_reducible first | exact HB.out | apply below_alloc | apply pw_below_drewN | apply below_drew1) | exact HB.out)))); have n2_ := Aside0.mk (below_step (by repeat (first | (with_reducible first | exact HB.out | apply below_alloc | apply pw_below_drewN | apply below_drew1) | exact HB.out)) hb); clear HO_16; clear HB; have HO_16 := n0_; have HO549 := n1_; have HB := n2_; clear n0_ n1_ n2_; (try clear hb); (try clear hb2); (try clear hk); (try clear hi); (try clear ho0)) | ((with_reducible refine gate_callee (f := 30) rfl ?_); refine goesL_ (some 199) rfl rfl Try.func30 (by kernel_rfl) rfl #[.int .i64 t529, .slice Ao35 t531.length co35] rfl (by (try simp only [List.map_toArray, List.map_cons, List.map_nil]); first | done | rfl | (simp only [List.length_drop, List.length_take]; rfl)) ?_; (with_reducible refine (spec_ComplementsOf.calls kj32 t529 _ _ t531 t550 t551 _ ?side1 ?side2 A54.out).mono ?_); (case side1 => repeat (first | exact (Kd.N_reads' HO_16.out).2.2 | (with_reducible refine Kd.C_alloc ?_ _) | (with_reducible refine Kd.C_drewN ?_ _) | (with_reducible refine Kd.C_drew ?_))); (case side2 => exact (Kd.N_reads' HO_16.out).2.1); rintro e w57 ⟨v552, rfl, ho0, hb⟩; refine ⟨_, rfl, ?_⟩; have n0_ := Aside0.mk (Kd.N_elder' (by (with_reducible repeat (first | apply Kd.N_alloc | apply Kd.N_drewN | apply Kd.N_drew)); exact HO_16.out) (Kd.S_base ho0) hb); have n1_ := Aside0.mk (Kd.N_elder' (by (with_reducible repeat (first | apply Kd.N_alloc | apply Kd.N_drewN | apply Kd.N_drew)); exact HO549.out) (Kd.S_base ho0) hb); have n2_ := Aside0.mk (Kd.N_lower (Kd.N_mono (ok' := fun k_ => some k_ ≠ (.slice Ao35 t531.length co35 : Value).ownBlock ∧ some k_ ≠ (v548 : Value).ownBlock) (Kd.S_N (Kd.S_bound ho0)) (fun k_ hk_ => ⟨(Kd.fresh' (Kd.N_lt (by (with_reducible repeat (first | apply Kd.N_alloc | apply Kd.N_drewN | apply Kd.N_drew)); exact HO_16.out)) k_ hk_.2.1), (Kd.fresh' (Kd.N_lt (by (with_reducible repeat (first | apply Kd.N_alloc | apply Kd.N_drewN | apply Kd.N_drew)); exact HO549.out)) k_ hk_.2.1)⟩)) (below_size (by repeat (first | (with_reducible first | exact HB.out | apply below_alloc | apply pw_below_drewN | apply below_drew1) | exact HB.out)))); have n3_ := Aside0.mk (below_step (by repeat (first | (with_reducible first | exact HB.out | apply below_alloc | apply pw_below_drewN | apply below_drew1) | exact HB.out)) hb); clear HO_16; clear HO549; clear HB; have HO_16 := n0_; have HO549 := n1_; have HO553 := n2_; have HB := n3_; clear n0_ n1_ n2_ n3_; (try clear hb); (try clear hb2); (try clear hk); (try clear hi); (try clear ho0)))
        (try simp only [Act.put, List.setIfInBounds_toArray, List.set_cons_zero, List.set_cons_succ])
        go_cut [210] (fun v210 wc => ∃ (kq : Nat) (x210_54 : Bool), v210 = .bool x210_54 ∧ Aside0 (laws_FnExchanges.j2 kq t529 t530 t534 t535 t542 t546 x210_54 = some r) ∧ Aside0 (kq ≤ kj32) ∧ Aside0 (Kd.N (Kd.slice 3 (Kd.int .i64)) 38 wc w.heap.size (fun _ => True) v548 t546) ∧ Aside0 (Below w.heap.size w wc))
        case first =>
         have H := HC55.out
         clear HC55
         by_cases c58 : (t547 != t551) = true
         ·rw [if_pos c58] at H
          have c58b0 : (t547 != t551) = true := c58
          (try (have c58b1 : decide (t547 = t551) = false := by simpa using c58))
          (try (have c58b2 : (t547 == t551) = false := by simpa using c58))
          (try (have c58b3 : ¬ (t547 = t551) := by simpa using c58))
          clear c58
          (first | rw [c58b0] | (simp only [i64_w, i32_w]; rw [c58b0]) | skip)
          have H' := Aside0.mk H
          clear H
          go_wp2
          go_meet
          case rel => exact ⟨_, (true), (by first | rfl | (simp; done) | (simp [*]; done)), H', ⟨by have := HJ7.out; have := HJ32.out; first | omega | exact Nat.le_refl _⟩, ⟨by (with_reducible repeat (first | apply Kd.N_alloc | apply Kd.N_drewN | apply Kd.N_drew)); exact Kd.N_mono HO549.out (fun _ hk => trivial)⟩, ⟨by repeat (first | (with_reducible first | exact HB.out | apply below_alloc | apply pw_below_drewN | apply below_drew1) | exact HB.out)⟩⟩
         ·rw [if_neg c58] at H
          have c58b0 : (t547 != t551) = false := by simpa using c58
          (try (have c58b1 : decide (t547 = t551) = true := by simpa using c58))
          (try (have c58b2 : (t547 == t551) = true := by simpa using c58))
          clear c58
          (first | rw [c58b0] | (simp only [i64_w, i32_w]; rw [c58b0]) | skip)
          replace H := Option.bind_eq_some_iff.mp H
          obtain ⟨t554, A590, H⟩ := H
          replace H : (laws_FnExchanges.j2 kj32 t529 t530 t534 t535 t542 t546 (!t554)) = some r := H
          have A59 := Aside0.mk A590
          clear A590
          have H' := Aside0.mk H
          clear H
          obtain ⟨Ao60, co60, eo60⟩ := Kd.N_slice HO549.out
          subst eo60
          obtain ⟨Ao61, co61, eo61⟩ := Kd.N_slice HO553.out
          subst eo61
          go_wp2_with (first | (go_at_call 13; (with_reducible refine (laws_uLists.calls kj32 _ _ t546 _ _ t550 t554 _ ?side1 ?side2 ?side3 ?side4 A59.out).mono ?_); (case side1 => repeat (first | exact (Kd.N_reads' HO549.out).2.2 | (with_reducible refine Kd.C_alloc ?_ _) | (with_reducible refine Kd.C_drewN ?_ _) | (with_reducible refine Kd.C_drew ?_))); (case side2 => exact (Kd.N_reads' HO549.out).2.1); (case side3 => repeat (first | exact (Kd.N_reads' HO553.out).2.2 | (with_reducible refine Kd.C_alloc ?_ _) | (with_reducible refine Kd.C_drewN ?_ _) | (with_reducible refine Kd.C_drew ?_))); (case side4 => exact (Kd.N_reads' HO553.out).2.1); rintro e w' ⟨rfl, ⟨nd, rfl⟩⟩))
          go_meet
          case rel => exact ⟨_, (!t554), (by first | rfl | (simp; done) | (simp [*]; done)), H', ⟨by have := HJ7.out; have := HJ32.out; first | omega | exact Nat.le_refl _⟩, ⟨by (with_reducible repeat (first | apply Kd.N_alloc | apply Kd.N_drewN | apply Kd.N_drew)); exact Kd.N_mono HO549.out (fun _ hk => trivial)⟩, ⟨by repeat (first | (with_reducible first | exact HB.out | apply below_alloc | apply pw_below_drewN | apply below_drew1) | exact HB.out)⟩⟩
        case rest => as_aux_lemma =>
         clear HC55
         try clear c1
         try clear c2
         try clear p2
         try clear c3
         try clear c4
         try clear c5
         try clear c11
         try clear c14
         try clear c14b0
         try clear c14b1
         try clear c14b2
         try clear c15
         try clear c15b0
         try clear c15b1
         try clear c16
         try clear c16b0
         try clear c16b1
         try clear c17
         try clear c19
         try clear c20
         try clear c21
         try clear c23
         try clear c24
         try clear c25
         try clear c26
         try clear c27
         try clear c28
         try clear c29
         try clear c30
         try clear c42
         try clear c42b0
         try clear c42b1
         try clear c42b2
         try clear c43
         try clear c43b0
         try clear c43b1
         try clear c43b2
         try clear c44
         try clear c44b0
         try clear c44b1
         try clear c44b2
         try clear c45
         try clear c45b0
         try clear c45b1
         try clear c45b2
         try clear c46
         try clear c46b0
         try clear c46b1
         try clear c46b2
         try clear c47
         try clear c47b0
         try clear c47b1
         try clear c47b2
         try clear c48
         try clear c49
         try clear c50
         try clear c51
         try clear c52
         try clear c58
         try clear c58b0
         try clear c58b1
         try clear c58b2
         try clear p2
         obtain ⟨kq, x210_54, rfl, HA, HJ54, HO_29, HB⟩ := hcut
         cases kq with
         | zero => exact absurd HA.out (by simp [laws_FnExchanges.j2])
         | succ kj54 =>
          have H := HA.out
          clear HA
          simp only [laws_FnExchanges.j2] at H
          by_cases c62 : x210_54 = true
          ·subst c62
           have H1 : (some false) = some r := by rw [if_pos rfl] at H; exact H
           clear H
           have H := H1
           clear H1
           obtain rfl := Option.some.inj H
           go_wp2
           go_ret
           exact ⟨by first | rfl | (simp [errW_none, errW_some] <;> rfl) | (simp [*, errW_none, errW_some] <;> rfl), by repeat (first | (with_reducible first | exact HB.out | apply below_alloc | apply pw_below_drewN | apply below_drew1) | exact HB.out)⟩
          ·replace c62 := Bool.eq_false_iff.mpr c62
           subst c62
           have H1 : (if t535 = true then ((impl_IsExchangeList.f kj54 t529 (wrap64 (t529 - t530)) t546).bind fun bt555 => ((impl_IsAdjacentList.f kj54 t529 (wrap64 (t529 - t530)) t546).bind fun bt557 => (if bt555.2 = true then (if (bt555.1 == t534) = true then (if bt557.2 = true then (some (bt557.1 == t542)) else (some false)) else (some false)) else (some false)))) else (some true)) = some r := by rw [if_neg (show ¬ (false = true) by decide)] at H; exact H
           clear H
           have H := H1
           clear H1
           by_cases c63 : t535 = true
           ·subst c63
            have H1 : ((impl_IsExchangeList.f kj54 t529 (wrap64 (t529 - t530)) t546).bind fun bt555 => ((impl_IsAdjacentList.f kj54 t529 (wrap64 (t529 - t530)) t546).bind fun bt557 => (if bt555.2 = true then (if (bt555.1 == t534) = true then (if bt557.2 = true then (some (bt557.1 == t542)) else (some false)) else (some false)) else (some false)))) = some r := by rw [if_pos rfl] at H; exact H
            clear H
            have H := H1
            clear H1
            replace H := Option.bind_eq_some_iff.mp H
            obtain ⟨⟨t555, t556⟩, A640, H⟩ := H
            replace H : ((impl_IsAdjacentList.f kj54 t529 (wrap64 (t529 - t530)) t546).bind fun bt557 => (if t556 = true then (if (t555 == t534) = true then (if bt557.2 = true then (some (bt557.1 == t542)) else (some false)) else (some false)) else (some false))) = some r := H
            have A64 := Aside0.mk A640
            clear A640
            replace H := Option.bind_eq_some_iff.mp H
            obtain ⟨⟨t557, t558⟩, A650, H⟩ := H
            replace H : (if t556 = true then (if (t555 == t534) = true then (if t558 = true then (some (t557 == t542)) else (some false)) else (some false)) else (some false)) = some r := H
            have A65 := Aside0.mk A650
            clear A650
            by_cases c66 : t556 = true
            ·subst c66
             have H1 : (if (t555 == t534) = true then (if t558 = true then (some (t557 == t542)) else (some false)) else (some false)) = some r := by rw [if_pos rfl] at H; exact H
             clear H
             have H := H1
             clear H1
             by_cases c67 : (t555 == t534) = true
             ·rw [if_pos c67] at H
              have c67b0 : (t555 == t534) = true := c67
              (try (have c67b1 : decide (t555 = t534) = true := by simpa using c67))
              (try (have c67b2 : (t555 == t534) = true := by simpa using c67))
              clear c67
              by_cases c68 : t558 = true
              ·subst c68
               have H1 : (some (t557 == t542)) = some r := by rw [if_pos rfl] at H; exact H
               clear H
               have H := H1
               clear H1
               obtain rfl := Option.some.inj H
               obtain ⟨Ao69, co69, eo69⟩ := Kd.N_slice HO_29.out
               subst eo69
               go_wp2_with (first | ((with_reducible refine gate_callee (f := 24) rfl ?_); refine goesL_ (some 218) rfl rfl Try.func24 (by kernel_rfl) rfl #[.int .i64 t529, .int .i64 (wrap64 (t529 - t530)), .slice Ao69 t546.length co69] rfl (by (try simp only [List.map_toArray, List.map_cons, List.map_nil]); first | done | rfl | (simp only [List.length_drop, List.length_take]; rfl)) ?_; (with_reducible refine (impl_IsExchangeList.calls kj54 t529 (wrap64 (t529 - t530)) _ _ t546 t555 true _ ?side1 ?side2 A64.out).mono ?_); (case side1 => repeat (first | exact (Kd.N_reads' HO_29.out).2.2 | (with_reducible refine Kd.C_alloc ?_ _) | (with_reducible refine Kd.C_drewN ?_ _) | (with_reducible refine Kd.C_drew ?_))); (case side2 => exact (Kd.N_reads' HO_29.out).2.1); rintro e w70 ⟨rfl, hb⟩; refine ⟨_, rfl, ?_⟩; have n0_ := Aside0.mk (Kd.N_below (by (with_reducible repeat (first | apply Kd.N_alloc | apply Kd.N_drewN | apply Kd.N_drew)); exact HO_29.out) hb); have n1_ := Aside0.mk (below_step (by repeat (first | (with_reducible first | exact HB.out | apply below_alloc | apply pw_below_drewN | apply below_drew1) | exact HB.out)) hb); clear HO_29; clear HB; have HO_29 := n0_; have HB := n1_; clear n0_ n1_; (try clear hb); (try clear hb2); (try clear hk); (try clear hi)) | ((with_reducible refine gate_callee (f := 14) rfl ?_); refine goesL_ (some 227) rfl rfl Try.func14 (by kernel_rfl) rfl #[.int .i64 t529, .int .i64 (wrap64 (t529 - t530)), .slice Ao69 t546.length co69] rfl (by (try simp only [List.map_toArray, List.map_cons, List.map_nil]); first | done | rfl | (simp only [List.length_drop, List.length_take]; rfl)) ?_; (with_reducible refine (impl_IsAdjacentList.calls kj54 t529 (wrap64 (t529 - t530)) _ _ t546 t557 true _ ?side1 ?side2 A65.out).mono ?_); (case side1 => repeat (first | exact (Kd.N_reads' HO_29.out).2.2 | (with_reducible refine Kd.C_alloc ?_ _) | (with_reducible refine Kd.C_drewN ?_ _) | (with_reducible refine Kd.C_drew ?_))); (case side2 => exact (Kd.N_reads' HO_29.out).2.1); rintro e w71 ⟨rfl, hb⟩; refine ⟨_, rfl, ?_⟩; have n0_ := Aside0.mk (Kd.N_below (by (with_reducible repeat (first | apply Kd.N_alloc | apply Kd.N_drewN | apply Kd.N_drew)); exact HO_29.out) hb); have n1_ := Aside0.mk (below_step (by repeat (first | (with_reducible first | exact HB.out | apply below_alloc | apply pw_below_drewN | apply below_drew1) | exact HB.out)) hb); clear HO_29; clear HB; have HO_29 := n0_; have HB := n1_; clear n0_ n1_; (try clear hb); (try clear hb2); (try clear hk); (try clear hi)))
               go_ret
               exact ⟨by first | rfl | (simp [errW_none, errW_some] <;> rfl) | (simp [*, errW_none, errW_some] <;> rfl), by repeat (first | (with_reducible first | exact HB.out | apply below_alloc | apply pw_below_drewN | apply below_drew1) | exact HB.out)⟩
              ·replace c68 := Bool.eq_false_iff.mpr c68
               subst c68
               have H1 : (some false) = some r := by rw [if_neg (show ¬ (false = true) by decide)] at H; exact H
               clear H
               have H := H1
               clear H1
               obtain rfl := Option.some.inj H
               obtain ⟨Ao72, co72, eo72⟩ := Kd.N_slice HO_29.out
               subst eo72
               go_wp2_with (first | ((with_reducible refine gate_callee (f := 24) rfl ?_); refine goesL_ (some 218) rfl rfl Try.func24 (by kernel_rfl) rfl #[.int .i64 t529, .int .i64 (wrap64 (t529 - t530)), .slice Ao72 t546.length co72] rfl (by (try simp only [List.map_toArray, List.map_cons, List.map_nil]); first | done | rfl | (simp only [List.length_drop, List.length_take]; rfl)) ?_; (with_reducible refine (impl_IsExchangeList.calls kj54 t529 (wrap64 (t529 - t530)) _ _ t546 t555 true _ ?side1 ?side2 A64.out).mono ?_); (case side1 => repeat (first | exact (Kd.N_reads' HO_29.out).2.2 | (with_reducible refine Kd.C_alloc ?_ _) | (with_reducible refine Kd.C_drewN ?_ _) | (with_reducible refine Kd.C_drew ?_))); (case side2 => exact (Kd.N_reads' HO_29.out).2.1); rintro e w73 ⟨rfl, hb⟩; refine ⟨_, rfl, ?_⟩; have n0_ := Aside0.mk (Kd.N_below (by (with_reducible repeat (first | apply Kd.N_alloc | apply Kd.N_drewN | apply Kd.N_drew)); exact HO_29.out) hb); have n1_ := Aside0.mk (below_step (by repeat (first | (with_reducible first | exact HB.out | apply below_alloc | apply pw_below_drewN | apply below_drew1) | exact HB.out)) hb); clear HO_29; clear HB; have HO_29 := n0_; have HB := n1_; clear n0_ n1_; (try clear hb); (try clear hb2); (try clear hk); (try clear hi)) | ((with_reducible refine gate_callee (f := 14) rfl ?_); refine goesL_ (some 227) rfl rfl Try.func14 (by kernel_rfl) rfl #[.int .i64 t529, .int .i64 (wrap64 (t529 - t530)), .slice Ao72 t546.length co72] rfl (by (try simp only [List.map_toArray, List.map_cons, List.map_nil]); first | done | rfl | (simp only [List.length_drop, List.length_take]; rfl)) ?_; (with_reducible refine (impl_IsAdjacentList.calls kj54 t529 (wrap64 (t529 - t530)) _ _ t546 t557 false _ ?side1 ?side2 A65.out).mono ?_); (case side1 => repeat (first | exact (Kd.N_reads' HO_29.out).2.2 | (with_reducible refine Kd.C_alloc ?_ _) | (with_reducible refine Kd.C_drewN ?_ _) | (with_reducible refine Kd.C_drew ?_))); (case side2 => exact (Kd.N_reads' HO_29.out).2.1); rintro e w74 ⟨rfl, hb⟩; refine ⟨_, rfl, ?_⟩; have n0_ := Aside0.mk (Kd.N_below (by (with_reducible repeat (first | apply Kd.N_alloc | apply Kd.N_drewN | apply Kd.N_drew)); exact HO_29.out) hb); have n1_ := Aside0.mk (below_step (by repeat (first | (with_reducible first | exact HB.out | apply below_alloc | apply pw_below_drewN | apply below_drew1) | exact HB.out)) hb); clear HO_29; clear HB; have HO_29 := n0_; have HB := n1_; clear n0_ n1_; (try clear hb); (try clear hb2); (try clear hk); (try clear hi)))
               go_ret
               exact ⟨by first | rfl | (simp [errW_none, errW_some] <;> rfl) | (simp [*, errW_none, errW_some] <;> rfl), by repeat (first | (with_reducible first | exact HB.out | apply below_alloc | apply pw_below_drewN | apply below_drew1) | exact HB.out)⟩
             ·rw [if_neg c67] at H
              have c67b0 : (t555 == t534) = false := by simpa using c67
              (try (have c67b1 : decide (t555 = t534) = false := by simpa using c67))
              (try (have c67b2 : (t555 == t534) = false := by simpa using c67))
              (try (have c67b3 : ¬ (t555 = t534) := by simpa using c67))
              clear c67
              obtain rfl := Option.some.inj H
              obtain ⟨Ao75, co75, eo75⟩ := Kd.N_slice HO_29.out
              subst eo75
              go_wp2_with (first | ((with_reducible refine gate_callee (f := 24) rfl ?_); refine goesL_ (some 218) rfl rfl Try.func24 (by kernel_rfl) rfl #[.int .i64 t529, .int .i64 (wrap64 (t529 - t530)), .slice Ao75 t546.length co75] rfl (by (try simp only [List.map_toArray, List.map_cons, List.map_nil]); first | done | rfl | (simp only [List.length_drop, List.length_take]; rfl)) ?_; (with_reducible refine (impl_IsExchangeList.calls kj54 t529 (wrap64 (t529 - t530)) _ _ t546 t555 true _ ?side1 ?side2 A64.out).mono ?_); (case side1 => repeat (first | exact (Kd.N_reads' HO_29.out).2.2 | (with_reducible refine Kd.C_alloc ?_ _) | (with_reducible refine Kd.C_drewN ?_ _) | (with_reducible refine Kd.C_drew ?_))); (case side2 => exact (Kd.N_reads' HO_29.out).2.1); rintro e w76 ⟨rfl, hb⟩; refine ⟨_, rfl, ?_⟩; have n0_ := Aside0.mk (Kd.N_below (by (with_reducible repeat (first | apply Kd.N_alloc | apply Kd.N_drewN | apply Kd.N_drew)); exact HO_29.out) hb); have n1_ := Aside0.mk (below_step (by repeat (first | (with_reducible first | exact HB.out | apply below_alloc | apply pw_below_drewN | apply below_drew1) | exact HB.out)) hb); clear HO_29; clear HB; have HO_29 := n0_; have HB := n1_; clear n0_ n1_; (try clear hb); (try clear hb2); (try clear hk); (try clear hi)) | ((with_reducible refine gate_callee (f := 14) rfl ?_); refine goesL_ (some 227) rfl rfl Try.func14 (by kernel_rfl) rfl #[.int .i64 t529, .int .i64 (wrap64 (t529 - t530)), .slice Ao75 t546.length co75] rfl (by (try simp only [List.map_toArray, List.map_cons, List.map_nil]); first | done | rfl | (simp only [List.length_drop, List.length_take]; rfl)) ?_; (with_reducible refine (impl_IsAdjacentList.calls kj54 t529 (wrap64 (t529 - t530)) _ _ t546 t557 t558 _ ?side1 ?side2 A65.out).mono ?_); (case side1 => repeat (first | exact (Kd.N_reads' HO_29.out).2.2 | (with_reducible refine Kd.C_alloc ?_ _) | (with_reducible refine Kd.C_drewN ?_ _) | (with_reducible refine Kd.C_drew ?_))); (case side2 => exact (Kd.N_reads' HO_29.out).2.1); rintro e w77 ⟨rfl, hb⟩; refine ⟨_, rfl, ?_⟩; have n0_ := Aside0.mk (Kd.N_below (by (with_reducible repeat (first | apply Kd.N_alloc | apply Kd.N_drewN | apply Kd.N_drew)); exact HO_29.out) hb); have n1_ := Aside0.mk (below_step (by repeat (first | (with_reducible first | exact HB.out | apply below_alloc | apply pw_below_drewN | apply below_drew1) | exact HB.out)) hb); clear HO_29; clear HB; have HO_29 := n0_; have HB := n1_; clear n0_ n1_; (try clear hb); (try clear hb2); (try clear hk); (try clear hi)))
              go_ret
              exact ⟨by first | rfl | (simp [errW_none, errW_some] <;> rfl) | (simp [*, errW_none, errW_some] <;> rfl), by repeat (first | (with_reducible first | exact HB.out | apply below_alloc | apply pw_below_drewN | apply below_drew1) | exact HB.out)⟩
            ·replace c66 := Bool.eq_false_iff.mpr c66
             subst c66
             have H1 : (some false) = some r := by rw [if_neg (show ¬ (false = true) by decide)] at H; exact H
             clear H
             have H := H1
             clear H1
             obtain rfl := Option.some.inj H
             obtain ⟨Ao78, co78, eo78⟩ := Kd.N_slice HO_29.out
             subst eo78
             go_wp2_with (first | ((with_reducible refine gate_callee (f := 24) rfl ?_); refine goesL_ (some 218) rfl rfl Try.func24 (by kernel_rfl) rfl #[.int .i64 t529, .int .i64 (wrap64 (t529 - t530)), .slice Ao78 t546.length co78] rfl (by (try simp only [List.map_toArray, List.map_cons, List.map_nil]); first | done | rfl | (simp only [List.length_drop, List.length_take]; rfl)) ?_; (with_reducible refine (impl_IsExchangeList.calls kj54 t529 (wrap64 (t529 - t530)) _ _ t546 t555 false _ ?side1 ?side2 A64.out).mono ?_); (case side1 => repeat (first | exact (Kd.N_reads' HO_29.out).2.2 | (with_reducible refine Kd.C_alloc ?_ _) | (with_reducible refine Kd.C_drewN ?_ _) | (with_reducible refine Kd.C_drew ?_))); (case side2 => exact (Kd.N_reads' HO_29.out).2.1); rintro e w79 ⟨rfl, hb⟩; refine ⟨_, rfl, ?_⟩; have n0_ := Aside0.mk (Kd.N_below (by (with_reducible repeat (first | apply Kd.N_alloc | apply Kd.N_drewN | apply Kd.N_drew)); exact HO_29.out) hb); have n1_ := Aside0.mk (below_step (by repeat (first | (with_reducible first | exact HB.out | apply below_alloc | apply pw_below_drewN | apply below_drew1) | exact HB.out)) hb); clear HO_29; clear HB; have HO_29 := n0_; have HB := n1_; clear n0_ n1_; (try clear hb); (try clear hb2); (try clear hk); (try clear hi)) | ((with_reducible refine gate_callee (f := 14) rfl ?_); refine goesL_ (some 227) rfl rfl Try.func14 (by kernel_rfl) rfl #[.int .i64 t529, .int .i64 (wrap64 (t529 - t530)), .slice Ao78 t546.length co78] rfl (by (try simp only [List.map_toArray, List.map_cons, List.map_nil]); first | done | rfl | (simp only [List.length_drop, List.length_take]; rfl)) ?_; (with_reducible refine (impl_IsAdjacentList.calls kj54 t529 (wrap64 (t529 - t530)) _ _ t546 t557 t558 _ ?side1 ?side2 A65.out).mono ?_); (case side1 => repeat (first | exact (Kd.N_reads' HO_29.out).2.2 | (with_reducible refine Kd.C_alloc ?_ _) | (with_reducible refine Kd.C_drewN ?_ _) | (with_reducible refine Kd.C_drew ?_))); (case side2 => exact (Kd.N_reads' HO_29.out).2.1); rintro e w80 ⟨rfl, hb⟩; refine ⟨_, rfl, ?_⟩; have n0_ := Aside0.mk (Kd.N_below (by (with_reducible repeat (first | apply Kd.N_alloc | apply Kd.N_drewN | apply Kd.N_drew)); exact HO_29.out) hb); have n1_ := Aside0.mk (below_step (by repeat (first | (with_reducible first | exact HB.out | apply below_alloc | apply pw_below_drewN | apply below_drew1) | exact HB.out)) hb); clear HO_29; clear HB; have HO_29 := n0_; have HB := n1_; clear n0_ n1_; (try clear hb); (try clear hb2); (try clear hk); (try clear hi)))
             go_ret
             exact ⟨by first | rfl | (simp [errW_none, errW_some] <;> rfl) | (simp [*, errW_none, errW_some] <;> rfl), by repeat (first | (with_reducible first | exact HB.out | apply below_alloc | apply pw_below_drewN | apply below_drew1) | exact HB.out)⟩
           ·replace c63 := Bool.eq_false_iff.mpr c63
            subst c63
            have H1 : (some true) = some r := by rw [if_neg (show ¬ (false = true) by decide)] at H; exact H
            clear H
            have H := H1
            clear H1
            obtain rfl := Option.some.inj H
            go_wp2
            go_ret
            exact ⟨by first | rfl | (simp [errW_none, errW_some] <;> rfl) | (simp [*, errW_none, errW_some] <;> rfl), by repeat (first | (with_reducible first | exact HB.out | apply below_alloc | apply pw_below_drewN | apply below_drew1) | exact HB.out)⟩
def laws_FnExchanges.Pure : Prop := ∀ (l0 : List Int) (l1 : List Int), l0.length ≤ maxLen → l0.length * 1 ≤ 140737488351232 → (∀ x ∈ l0, (Lit.int .u8 x).wf = true) → l1.length ≤ maxLen → l1.length * 1 ≤ 140737488351232 → (∀ x ∈ l1, (Lit.int .u8 x).wf = true) → ∃ k, laws_FnExchanges.f k l0 l1 = some true
theorem laws_FnExchanges.walk (P : laws_FnExchanges.Pure) (a0 : Option Addr) (len0 cap0 : Nat) (z0 : List Int) (a1 : Option Addr) (len1 cap1 : Nat) (z1 : List Int) (w : World) (w0 : (a0 = none ∧ len0 = 0 ∧ cap0 = 0 ∧ z0 = []) ∨ ∃ x, a0 = some x ∧ len0 ≤ cap0 ∧ cap0 ≤ maxLen ∧ z0.length = cap0 ∧ (∀ i, i < z0.length → w.cell? (x.add i) = some (.int .u8 (z0.getD i 0))) ∧ ∀ n ∈ z0, (Lit.int .u8 n).wf = true) (y0 : len0 * 1 ≤ 140737488351232) (w1 : (a1 = none ∧ len1 = 0 ∧ cap1 = 0 ∧ z1 = []) ∨ ∃ x, a1 = some x ∧ len1 ≤ cap1 ∧ cap1 ≤ maxLen ∧ z1.length = cap1 ∧ (∀ i, i < z1.length → w.cell? (x.add i) = some (.int .u8 (z1.getD i 0))) ∧ ∀ n ∈ z1, (Lit.int .u8 n).wf = true) (y1 : len1 * 1 ≤ 140737488351232) :
  Calls Try.prog 5 #[.slice a0 len0 cap0, .slice a1 len1 cap1] w fun e w' => e = .returned (.bool true) ∧ Below w.heap.size w w' := by
 obtain ⟨l0, rfl, hr0, hm0, hw0, hc0⟩ := ReadsInt.ofRowC w0
 obtain ⟨l1, rfl, hr1, hm1, hw1, hc1⟩ := ReadsInt.ofRowC w1
 obtain ⟨k, h⟩ := P l0 l1 hm0 y0 hw0 hm1 y1 hw1
 refine (laws_FnExchanges.calls k _ _ l0 _ _ l1 true w (Kd.C_of_reads (d := (0 : Int)) (h1 := fun _ => rfl) hr0) hc0 (Kd.C_of_reads (d := (0 : Int)) (h1 := fun _ => rfl) hr1) hc1 h).mono ?_
 rintro e w' ⟨rfl, hd⟩
 exact ⟨rfl, hd⟩
end Go.Proofs.Ytmkokfljonbcmaa.MFnExchanges
