import Derived.Test.YtpfakdhfffehaaaMFnExactSwapperRankx0
import Derived.Test.YtpfakdhfffehaaaMFnExactSwapperRankx1
import Derived.Test.YtpfakdhfffehaaaMFnExactSwapperRankx2
import Derived.Test.YtpfakdhfffehaaaMFnExactSwapperRankx8
import Derived.Test.YtpfakdhfffehaaaMFnExactSwapperRankx11
namespace Go.Proofs.Ytpfakdhfffehaaa.MFnExactSwapperRank
open Go.RowKit Go.Proofs.YtpfakdhfffehaaaW.PrintWords Go.Proofs.YtpfakdhfffehaaaW.PrintLast Go.Proofs.YtpfakdhfffehaaaW.PrintMore
attribute [local go_sem] max2_int min2_int max_two min_two max_three min_three max_four min_four   
set_option linter.unusedVariables false
set_option linter.unusedSimpArgs false
def laws_FnExactSwapperRank.j0 : Nat → Bool → List Int → List Int → List Bool → List Int → List Int → List Int → List Int → List Int → List Bool → List Int → List Int → List Int → Option (Bool)
 | 0, _, _, _, _, _, _, _, _, _, _, _, _, _ => none
 | k + 1, x34, x577000, x577001, x577002, x577003, x577004, x577005, x617000, x617001, x617002, x617003, x617004, x617005 => if x34 = true then (some false) else ((laws_toSwapper.f k x577000 x577001 x577002 x577003 x577004 x577005).bind fun bt619 => ((laws_eqSwapper.f k x617000 x617001 x617002 x617003 x617004 x617005 bt619.1 bt619.2.1 bt619.2.2.1 bt619.2.2.2.1 bt619.2.2.2.2.1 bt619.2.2.2.2.2).bind fun t637 => (if t637 = true then (some true) else (some false))))
def laws_FnExactSwapperRank.f (k : Nat) (l0_0 : List Int) (l0_1 : List Int) (l0_2 : List Bool) (l0_3 : List Int) (l0_4 : List Int) (l0_5 : List Int) : Option (Bool) := (laws_szSwapper.f l0_0 l0_1 l0_2 l0_3 l0_4 l0_5 1048576).bind fun t577 => (if t577 < 0 then (some true) else ((laws_toSwapper.f k l0_0 l0_1 l0_2 l0_3 l0_4 l0_5).bind fun bt578 => ((spec_SwapperRank.f k bt578.1 bt578.2.1 bt578.2.2.1 bt578.2.2.2.1 bt578.2.2.2.2.1 bt578.2.2.2.2.2).bind fun bt596 => ((laws_toSwapper.f k l0_0 l0_1 l0_2 l0_3 l0_4 l0_5).bind fun bt598 => ((impl_SwapperRank.f k bt598.1 bt598.2.1 bt598.2.2.1 bt598.2.2.2.1 bt598.2.2.2.2.1 bt598.2.2.2.2.2).bind fun bt617 => (if bt617.1 = bt596.1 then (laws_FnExactSwapperRank.j0 k (bt617.2 != bt596.2) l0_0 l0_1 l0_2 l0_3 l0_4 l0_5 bt598.1 bt598.2.1 bt598.2.2.1 bt598.2.2.2.1 bt598.2.2.2.2.1 bt598.2.2.2.2.2) else (laws_FnExactSwapperRank.j0 k true l0_0 l0_1 l0_2 l0_3 l0_4 l0_5 bt598.1 bt598.2.1 bt598.2.2.1 bt598.2.2.2.1 bt598.2.2.2.2.1 bt598.2.2.2.2.2)))))))
theorem laws_FnExactSwapperRank.mono_l : ∀ k, (∀ y0 y1 y2 y3 y4 y5 y6 y7 y8 y9 y10 y11 y12, LeO (laws_FnExactSwapperRank.j0 k y0 y1 y2 y3 y4 y5 y6 y7 y8 y9 y10 y11 y12) (laws_FnExactSwapperRank.j0 (k + 1) y0 y1 y2 y3 y4 y5 y6 y7 y8 y9 y10 y11 y12))
 | 0 => fun _ _ _ _ _ _ _ _ _ _ _ _ _ r h => by simp [laws_FnExactSwapperRank.j0] at h
 | k + 1 => by
  have ih0 := laws_FnExactSwapperRank.mono_l k
  ·intro y0 y1 y2 y3 y4 y5 y6 y7 y8 y9 y10 y11 y12
   unfold laws_FnExactSwapperRank.j0
   repeat' first
   | (with_reducible exact ih0 _ _ _ _ _ _ _ _ _ _ _ _ _)
   | (with_reducible exact impl_SwapperRank.mono _ _ _ _ _ _ _)
   | (with_reducible exact laws_eqSwapper.mono _ _ _ _ _ _ _ _ _ _ _ _ _)
   | (with_reducible exact laws_toSwapper.mono _ _ _ _ _ _ _)
   | (with_reducible exact spec_SwapperRank.mono _ _ _ _ _ _ _)
   | (with_reducible exact LeO.refl _)
   | (with_reducible exact LeO.none _)
   | (with_reducible refine LeO.ite ?_ ?_)
   | (with_reducible refine LeO.bind ?_ (fun _ => ?_))
   | exact ih0 _ _ _ _ _ _ _ _ _ _ _ _ _
   | exact impl_SwapperRank.mono _ _ _ _ _ _ _
   | exact laws_eqSwapper.mono _ _ _ _ _ _ _ _ _ _ _ _ _
   | exact laws_toSwapper.mono _ _ _ _ _ _ _
   | exact spec_SwapperRank.mono _ _ _ _ _ _ _
   | exact LeO.none _
   | refine LeO.ite ?_ ?_
   | refine LeO.bind ?_ (fun _ => ?_)
theorem laws_FnExactSwapperRank.mono : ∀ a0 a1 a2 a3 a4 a5 k, LeO (laws_FnExactSwapperRank.f k a0 a1 a2 a3 a4 a5) (laws_FnExactSwapperRank.f (k + 1) a0 a1 a2 a3 a4 a5) := by
 intro a0 a1 a2 a3 a4 a5 k
 have ih0 := laws_FnExactSwapperRank.mono_l k
 unfold laws_FnExactSwapperRank.f
 repeat' first
   | (with_reducible exact ih0 _ _ _ _ _ _ _ _ _ _ _ _ _)
   | (with_reducible exact impl_SwapperRank.mono _ _ _ _ _ _ _)
   | (with_reducible exact laws_eqSwapper.mono _ _ _ _ _ _ _ _ _ _ _ _ _)
   | (with_reducible exact laws_toSwapper.mono _ _ _ _ _ _ _)
   | (with_reducible exact spec_SwapperRank.mono _ _ _ _ _ _ _)
   | (with_reducible exact LeO.refl _)
   | (with_reducible exact LeO.none _)
   | (with_reducible refine LeO.ite ?_ ?_)
   | (with_reducible refine LeO.bind ?_ (fun _ => ?_))
   | exact ih0 _ _ _ _ _ _ _ _ _ _ _ _ _
   | exact impl_SwapperRank.mono _ _ _ _ _ _ _
   | exact laws_eqSwapper.mono _ _ _ _ _ _ _ _ _ _ _ _ _
   | exact laws_toSwapper.mono _ _ _ _ _ _ _
   | exact spec_SwapperRank.mono _ _ _ _ _ _ _
   | exact LeO.none _
   | refine LeO.ite ?_ ?_
   | refine LeO.bind ?_ (fun _ => ?_)
set_option maxHeartbeats 8000000 in
set_option maxRecDepth 100000 in
theorem laws_FnExactSwapperRank.calls (k : Nat) (A0_0 : Option Addr) (c0_0 : Nat) (l0_0 : List Int) (A0_1 : Option Addr) (c0_1 : Nat) (l0_1 : List Int) (A0_2 : Option Addr) (c0_2 : Nat) (l0_2 : List Bool) (A0_3 : Option Addr) (c0_3 : Nat) (l0_3 : List Int) (A0_4 : Option Addr) (c0_4 : Nat) (l0_4 : List Int) (A0_5 : Option Addr) (c0_5 : Nat) (l0_5 : List Int) (r : Bool) (w : World) (hr0_0 : Kd.C (Kd.int .i64) w A0_0 l0_0.length l0_0) (hc0_0 : l0_0.length ≤ c0_0) (hr0_1 : Kd.C (Kd.int .i64) w A0_1 l0_1.length l0_1) (hc0_1 : l0_1.length ≤ c0_1) (hr0_2 : Kd.C Kd.bool w A0_2 l0_2.length l0_2) (hc0_2 : l0_2.length ≤ c0_2) (hr0_3 : Kd.C (Kd.int .i64) w A0_3 l0_3.length l0_3) (hc0_3 : l0_3.length ≤ c0_3) (hr0_4 : Kd.C (Kd.int .i64) w A0_4 l0_4.length l0_4) (hc0_4 : l0_4.length ≤ c0_4) (hr0_5 : Kd.C (Kd.int .i64) w A0_5 l0_5.length l0_5) (hc0_5 : l0_5.length ≤ c0_5) (h : laws_FnExactSwapperRank.f k l0_0 l0_1 l0_2 l0_3 l0_4 l0_5 = some r) :
  Calls Try.prog 6 #[.agg #[.slice A0_0 l0_0.length c0_0, .slice A0_1 l0_1.length c0_1, .slice A0_2 l0_2.length c0_2, .slice A0_3 l0_3.length c0_3, .slice A0_4 l0_4.length c0_4, .slice A0_5 l0_5.length c0_5]] w fun e w' => e = .returned (.bool r) ∧ Below w.heap.size w w' := by
 have hu42 := Try.underlying42
 have hu35 := Try.underlying35
 have HR0_0 := Ya hr0_0
 have HC0_0 := Ya hc0_0
 clear hr0_0 hc0_0
 have HR0_1 := Ya hr0_1
 have HC0_1 := Ya hc0_1
 clear hr0_1 hc0_1
 have HR0_2 := Ya hr0_2
 have HC0_2 := Ya hc0_2
 clear hr0_2 hc0_2
 have HR0_3 := Ya hr0_3
 have HC0_3 := Ya hc0_3
 clear hr0_3 hc0_3
 have HR0_4 := Ya hr0_4
 have HC0_4 := Ya hc0_4
 clear hr0_4 hc0_4
 have HR0_5 := Ya hr0_5
 have HC0_5 := Ya hc0_5
 clear hr0_5 hc0_5
 have HB := Ya (Below.refl w.heap.size w)
 have H : ((laws_szSwapper.f l0_0 l0_1 l0_2 l0_3 l0_4 l0_5 1048576).bind fun t577 => (if t577 < 0 then (some true) else ((laws_toSwapper.f k l0_0 l0_1 l0_2 l0_3 l0_4 l0_5).bind fun bt578 => ((spec_SwapperRank.f k bt578.1 bt578.2.1 bt578.2.2.1 bt578.2.2.2.1 bt578.2.2.2.2.1 bt578.2.2.2.2.2).bind fun bt596 => ((laws_toSwapper.f k l0_0 l0_1 l0_2 l0_3 l0_4 l0_5).bind fun bt598 => ((impl_SwapperRank.f k bt598.1 bt598.2.1 bt598.2.2.1 bt598.2.2.2.1 bt598.2.2.2.2.1 bt598.2.2.2.2.2).bind fun bt617 => (if bt617.1 = bt596.1 then (laws_FnExactSwapperRank.j0 k (bt617.2 != bt596.2) l0_0 l0_1 l0_2 l0_3 l0_4 l0_5 bt598.1 bt598.2.1 bt598.2.2.1 bt598.2.2.2.1 bt598.2.2.2.2.1 bt598.2.2.2.2.2) else (laws_FnExactSwapperRank.j0 k true l0_0 l0_1 l0_2 l0_3 l0_4 l0_5 bt598.1 bt598.2.1 bt598.2.2.1 bt598.2.2.2.1 bt598.2.2.2.2.1 bt598.2.2.2.2.2)))))))) = some r := h
 clear h
 replace H := Z33.mp H
 obtain ⟨t577, A20, H⟩ := H
 replace H : (if t577 < 0 then (some true) else ((laws_toSwapper.f k l0_0 l0_1 l0_2 l0_3 l0_4 l0_5).bind fun bt578 => ((spec_SwapperRank.f k bt578.1 bt578.2.1 bt578.2.2.1 bt578.2.2.2.1 bt578.2.2.2.2.1 bt578.2.2.2.2.2).bind fun bt596 => ((laws_toSwapper.f k l0_0 l0_1 l0_2 l0_3 l0_4 l0_5).bind fun bt598 => ((impl_SwapperRank.f k bt598.1 bt598.2.1 bt598.2.2.1 bt598.2.2.2.1 bt598.2.2.2.2.1 bt598.2.2.2.2.2).bind fun bt617 => (if bt617.1 = bt596.1 then (laws_FnExactSwapperRank.j0 k (bt617.2 != bt596.2) l0_0 l0_1 l0_2 l0_3 l0_4 l0_5 bt598.1 bt598.2.1 bt598.2.2.1 bt598.2.2.2.1 bt598.2.2.2.2.1 bt598.2.2.2.2.2) else (laws_FnExactSwapperRank.j0 k true l0_0 l0_1 l0_2 l0_3 l0_4 l0_5 bt598.1 bt598.2.1 bt598.2.2.1 bt598.2.2.2.1 bt598.2.2.2.2.1 bt598.2.2.2.2.2))))))) = some r := H
 have A2 := Ya A20
 clear A20
 by_cases c3 : t577 < 0
 ·rw [if_pos c3] at H
  have c3b0 : decide (t577 < 0) = true := Z35 c3
  clear c3
  obtain rfl := Option.some.inj H
  go_enter Try.func6, Try.ntmps6
  go_wp2_with (first | ((with_reducible refine gate_dst (N := 1) rfl ?_); refine Yx 1 #[.slice A0_0 l0_0.length c0_0, .slice A0_1 l0_1.length c0_1, .slice A0_2 l0_2.length c0_2, .slice A0_3 l0_3.length c0_3, .slice A0_4 l0_4.length c0_4, .slice A0_5 l0_5.length c0_5] 42 ?_; intro gb576 hg w4 hbox hb; have BK576 := Ya hbox; have GE576 := Yg hg; replace HB := Yh hb; clear hb hbox hg; obtain ⟨hcz5_0, hcz5_1, hcz5_2, hcz5_3, hcz5_4, hcz5_5, hfz5_0, hfz5_1, hfz5_2, hfz5_3, hfz5_4, hfz5_5⟩ := Y6 BK576.out) | ((with_reducible refine gate_callee (f := 20) rfl ?_); refine Yz 11 Try.func20 #[.agg #[.slice A0_0 l0_0.length c0_0, .slice A0_1 l0_1.length c0_1, .slice A0_2 l0_2.length c0_2, .slice A0_3 l0_3.length c0_3, .slice A0_4 l0_4.length c0_4, .slice A0_5 l0_5.length c0_5], .int .i64 1048576] ?_; (with_reducible refine (laws_szSwapper.calls _ _ l0_0 _ _ l0_1 _ _ l0_2 _ _ l0_3 _ _ l0_4 _ _ l0_5 1048576 t577 _ (Yc (Z19 HR0_0.out HB.out)) HC0_0.out (Yc (Z19 HR0_1.out HB.out)) HC0_1.out (Yc (Z19 HR0_2.out HB.out)) HC0_2.out (Yc (Z19 HR0_3.out HB.out)) HC0_3.out (Yc (Z19 HR0_4.out HB.out)) HC0_4.out (Yc (Z19 HR0_5.out HB.out)) HC0_5.out A2.out).mono ?_); rintro e w6 ⟨rfl, hb⟩; refine ⟨_, rfl, ?_⟩; replace BK576 := Yb BK576 hb; replace HB := Yh hb; (try clear hb)))
  go_ret
  exact ⟨Q2, Q12⟩
 ·rw [if_neg c3] at H
  have c3b0 : decide (t577 < 0) = false := Z34 c3
  clear c3
  replace H := Z33.mp H
  obtain ⟨⟨t578, t581, t584, t587, t590, t593⟩, A70, H⟩ := H
  replace H : ((spec_SwapperRank.f k t578 t581 t584 t587 t590 t593).bind fun bt596 => ((laws_toSwapper.f k l0_0 l0_1 l0_2 l0_3 l0_4 l0_5).bind fun bt598 => ((impl_SwapperRank.f k bt598.1 bt598.2.1 bt598.2.2.1 bt598.2.2.2.1 bt598.2.2.2.2.1 bt598.2.2.2.2.2).bind fun bt617 => (if bt617.1 = bt596.1 then (laws_FnExactSwapperRank.j0 k (bt617.2 != bt596.2) l0_0 l0_1 l0_2 l0_3 l0_4 l0_5 bt598.1 bt598.2.1 bt598.2.2.1 bt598.2.2.2.1 bt598.2.2.2.2.1 bt598.2.2.2.2.2) else (laws_FnExactSwapperRank.j0 k true l0_0 l0_1 l0_2 l0_3 l0_4 l0_5 bt598.1 bt598.2.1 bt598.2.2.1 bt598.2.2.2.1 bt598.2.2.2.2.1 bt598.2.2.2.2.2))))) = some r := H
  have A7 := Ya A70
  clear A70
  replace H := Z33.mp H
  obtain ⟨⟨t596, t597⟩, A80, H⟩ := H
  replace H : ((laws_toSwapper.f k l0_0 l0_1 l0_2 l0_3 l0_4 l0_5).bind fun bt598 => ((impl_SwapperRank.f k bt598.1 bt598.2.1 bt598.2.2.1 bt598.2.2.2.1 bt598.2.2.2.2.1 bt598.2.2.2.2.2).bind fun bt617 => (if bt617.1 = t596 then (laws_FnExactSwapperRank.j0 k (bt617.2 != t597) l0_0 l0_1 l0_2 l0_3 l0_4 l0_5 bt598.1 bt598.2.1 bt598.2.2.1 bt598.2.2.2.1 bt598.2.2.2.2.1 bt598.2.2.2.2.2) else (laws_FnExactSwapperRank.j0 k true l0_0 l0_1 l0_2 l0_3 l0_4 l0_5 bt598.1 bt598.2.1 bt598.2.2.1 bt598.2.2.2.1 bt598.2.2.2.2.1 bt598.2.2.2.2.2)))) = some r := H
  have A8 := Ya A80
  clear A80
  replace H := Z33.mp H
  obtain ⟨⟨t598, t601, t604, t607, t610, t613⟩, A90, H⟩ := H
  replace H : ((impl_SwapperRank.f k t598 t601 t604 t607 t610 t613).bind fun bt617 => (if bt617.1 = t596 then (laws_FnExactSwapperRank.j0 k (bt617.2 != t597) l0_0 l0_1 l0_2 l0_3 l0_4 l0_5 t598 t601 t604 t607 t610 t613) else (laws_FnExactSwapperRank.j0 k true l0_0 l0_1 l0_2 l0_3 l0_4 l0_5 t598 t601 t604 t607 t610 t613))) = some r := H
  have A9 := Ya A90
  clear A90
  replace H := Z33.mp H
  obtain ⟨⟨t617, t618⟩, A100, H⟩ := H
  replace H : (if t617 = t596 then (laws_FnExactSwapperRank.j0 k (t618 != t597) l0_0 l0_1 l0_2 l0_3 l0_4 l0_5 t598 t601 t604 t607 t610 t613) else (laws_FnExactSwapperRank.j0 k true l0_0 l0_1 l0_2 l0_3 l0_4 l0_5 t598 t601 t604 t607 t610 t613)) = some r := H
  have A10 := Ya A100
  clear A100
  have HC11 := Ya H
  clear H
  go_enter Try.func6, Try.ntmps6
  go_upto_region 8 with (first | ((with_reducible refine gate_dst (N := 1) rfl ?_); refine Yx 1 #[.slice A0_0 l0_0.length c0_0, .slice A0_1 l0_1.length c0_1, .slice A0_2 l0_2.length c0_2, .slice A0_3 l0_3.length c0_3, .slice A0_4 l0_4.length c0_4, .slice A0_5 l0_5.length c0_5] 42 ?_; intro gb576 hg w12 hbox hb; have BK576 := Ya hbox; have GE576 := Yg hg; replace HB := Yh hb; clear hb hbox hg; obtain ⟨hcz13_0, hcz13_1, hcz13_2, hcz13_3, hcz13_4, hcz13_5, hfz13_0, hfz13_1, hfz13_2, hfz13_3, hfz13_4, hfz13_5⟩ := Y6 BK576.out) | ((with_reducible refine gate_callee (f := 20) rfl ?_); refine Yz 11 Try.func20 #[.agg #[.slice A0_0 l0_0.length c0_0, .slice A0_1 l0_1.length c0_1, .slice A0_2 l0_2.length c0_2, .slice A0_3 l0_3.length c0_3, .slice A0_4 l0_4.length c0_4, .slice A0_5 l0_5.length c0_5], .int .i64 1048576] ?_; (with_reducible refine (laws_szSwapper.calls _ _ l0_0 _ _ l0_1 _ _ l0_2 _ _ l0_3 _ _ l0_4 _ _ l0_5 1048576 t577 _ (Yc (Z19 HR0_0.out HB.out)) HC0_0.out (Yc (Z19 HR0_1.out HB.out)) HC0_1.out (Yc (Z19 HR0_2.out HB.out)) HC0_2.out (Yc (Z19 HR0_3.out HB.out)) HC0_3.out (Yc (Z19 HR0_4.out HB.out)) HC0_4.out (Yc (Z19 HR0_5.out HB.out)) HC0_5.out A2.out).mono ?_); rintro e w14 ⟨rfl, hb⟩; refine ⟨_, rfl, ?_⟩; replace BK576 := Yb BK576 hb; replace HB := Yh hb; (try clear hb); obtain ⟨hcz15_0, hcz15_1, hcz15_2, hcz15_3, hcz15_4, hcz15_5, hfz15_0, hfz15_1, hfz15_2, hfz15_3, hfz15_4, hfz15_5⟩ := Y6 BK576.out) | ((with_reducible refine gate_callee (f := 22) rfl ?_); refine Yz 16 Try.func22 #[.agg #[.slice A0_0 l0_0.length c0_0, .slice A0_1 l0_1.length c0_1, .slice A0_2 l0_2.length c0_2, .slice A0_3 l0_3.length c0_3, .slice A0_4 l0_4.length c0_4, .slice A0_5 l0_5.length c0_5]] ?_; (with_reducible refine (laws_toSwapper.calls k _ _ l0_0 _ _ l0_1 _ _ l0_2 _ _ l0_3 _ _ l0_4 _ _ l0_5 t578 t581 t584 t587 t590 t593 _ (Yc (Z19 HR0_0.out HB.out)) HC0_0.out (Yc (Z19 HR0_1.out HB.out)) HC0_1.out (Yc (Z19 HR0_2.out HB.out)) HC0_2.out (Yc (Z19 HR0_3.out HB.out)) HC0_3.out (Yc (Z19 HR0_4.out HB.out)) HC0_4.out (Yc (Z19 HR0_5.out HB.out)) HC0_5.out A7.out).mono ?_); rintro e w16 ⟨v579, v582, v585, v588, v591, v594, rfl, ho0, ho1, ho2, ho3, ho4, ho5, hb⟩; refine ⟨_, rfl, ?_⟩; have HO580 := Yl ho0; have HO583 := Yl ho1; have HO586 := Yl ho2; have HO589 := Yl ho3; have HO592 := Yl ho4; have HO595 := Yl ho5; replace BK576 := Yb BK576 hb; replace HB := Yh hb; (try clear hb ho0 ho1 ho2 ho3 ho4 ho5); obtain ⟨Ao17, co17, rfl⟩ := Z18 HO580.out; obtain ⟨Ao18, co18, rfl⟩ := Z18 HO583.out; obtain ⟨Ao19, co19, rfl⟩ := Z18 HO586.out; obtain ⟨Ao20, co20, rfl⟩ := Z18 HO589.out; obtain ⟨Ao21, co21, rfl⟩ := Z18 HO592.out; obtain ⟨Ao22, co22, rfl⟩ := Z18 HO595.out) | ((with_reducible refine gate_callee (f := 24) rfl ?_); refine Yz 17 Try.func24 #[.agg #[.slice Ao17 t578.length co17, .slice Ao18 t581.length co18, .slice Ao19 t584.length co19, .slice Ao20 t587.length co20, .slice Ao21 t590.length co21, .slice Ao22 t593.length co22]] ?_; (with_reducible refine (spec_SwapperRank.calls k _ _ t578 _ _ t581 _ _ t584 _ _ t587 _ _ t590 _ _ t593 t596 t597 _ (Yc (Kd.R_reads' HO580.out).2.2) ((Kd.R_reads' HO580.out).2.1) (Yc (Kd.R_reads' HO583.out).2.2) ((Kd.R_reads' HO583.out).2.1) (Yc (Kd.R_reads' HO586.out).2.2) ((Kd.R_reads' HO586.out).2.1) (Yc (Kd.R_reads' HO589.out).2.2) ((Kd.R_reads' HO589.out).2.1) (Yc (Kd.R_reads' HO592.out).2.2) ((Kd.R_reads' HO592.out).2.1) (Yc (Kd.R_reads' HO595.out).2.2) ((Kd.R_reads' HO595.out).2.1) A8.out).mono ?_); rintro e w23 ⟨rfl, hb⟩; refine ⟨_, rfl, ?_⟩; replace HO580 := Yw HO580 hb; replace HO583 := Yw HO583 hb; replace HO586 := Yw HO586 hb; replace HO589 := Yw HO589 hb; replace HO592 := Yw HO592 hb; replace HO595 := Yw HO595 hb; replace BK576 := Yb BK576 hb; replace HB := Yh hb; (try clear hb); obtain ⟨hcz24_0, hcz24_1, hcz24_2, hcz24_3, hcz24_4, hcz24_5, hfz24_0, hfz24_1, hfz24_2, hfz24_3, hfz24_4, hfz24_5⟩ := Y6 BK576.out) | ((with_reducible refine gate_callee (f := 22) rfl ?_); refine Yz 21 Try.func22 #[.agg #[.slice A0_0 l0_0.length c0_0, .slice A0_1 l0_1.length c0_1, .slice A0_2 l0_2.length c0_2, .slice A0_3 l0_3.length c0_3, .slice A0_4 l0_4.length c0_4, .slice A0_5 l0_5.length c0_5]] ?_; (with_reducible refine (laws_toSwapper.calls k _ _ l0_0 _ _ l0_1 _ _ l0_2 _ _ l0_3 _ _ l0_4 _ _ l0_5 t598 t601 t604 t607 t610 t613 _ (Yc (Z19 HR0_0.out HB.out)) HC0_0.out (Yc (Z19 HR0_1.out HB.out)) HC0_1.out (Yc (Z19 HR0_2.out HB.out)) HC0_2.out (Yc (Z19 HR0_3.out HB.out)) HC0_3.out (Yc (Z19 HR0_4.out HB.out)) HC0_4.out (Yc (Z19 HR0_5.out HB.out)) HC0_5.out A9.out).mono ?_); rintro e w25 ⟨v599, v602, v605, v608, v611, v614, rfl, ho0, ho1, ho2, ho3, ho4, ho5, hb⟩; refine ⟨_, rfl, ?_⟩; have HO600 := Yl (Kd.R_new' (Kd.R_new' (Kd.R_new' (Kd.R_new' (Kd.R_new' ho0 (Z17 (Yr HO580.out))) (Z17 (Yr HO583.out))) (Z17 (Yr HO589.out))) (Z17 (Yr HO592.out))) (Z17 (Yr HO595.out))); have HO603 := Yl (Kd.R_new' (Kd.R_new' (Kd.R_new' (Kd.R_new' (Kd.R_new' ho1 (Z17 (Yr HO580.out))) (Z17 (Yr HO583.out))) (Z17 (Yr HO589.out))) (Z17 (Yr HO592.out))) (Z17 (Yr HO595.out))); have HO606 := Yl (Kd.R_new' ho2 (Z17 (Yr HO586.out))); replace HO586 := Ya (Kd.R_elder' (Yr HO586.out) (Kd.R_base ho2) hb); have HO609 := Yl (Kd.R_new' (Kd.R_new' (Kd.R_new' (Kd.R_new' (Kd.R_new' ho3 (Z17 (Yr HO580.out))) (Z17 (Yr HO583.out))) (Z17 (Yr HO589.out))) (Z17 (Yr HO592.out))) (Z17 (Yr HO595.out))); have HO612 := Yl (Kd.R_new' (Kd.R_new' (Kd.R_new' (Kd.R_new' (Kd.R_new' ho4 (Z17 (Yr HO580.out))) (Z17 (Yr HO583.out))) (Z17 (Yr HO589.out))) (Z17 (Yr HO592.out))) (Z17 (Yr HO595.out))); have HO615 := Yl (Kd.R_new' (Kd.R_new' (Kd.R_new' (Kd.R_new' (Kd.R_new' ho5 (Z17 (Yr HO580.out))) (Z17 (Yr HO583.out))) (Z17 (Yr HO589.out))) (Z17 (Yr HO592.out))) (Z17 (Yr HO595.out))); replace HO580 := Ya (Z11 (Z15 (Z15 (Z15 (Z15 (Z15 (Z16 (Yr HO580.out) hb) (Kd.R_base ho0)) (Kd.R_base ho1)) (Kd.R_base ho3)) (Kd.R_base ho4)) (Kd.R_base ho5)) (fun _ h_ => h_.1)); replace HO583 := Ya (Z11 (Z15 (Z15 (Z15 (Z15 (Z15 (Z16 (Yr HO583.out) hb) (Kd.R_base ho0)) (Kd.R_base ho1)) (Kd.R_base ho3)) (Kd.R_base ho4)) (Kd.R_base ho5)) (fun _ h_ => h_.1)); replace HO589 := Ya (Z11 (Z15 (Z15 (Z15 (Z15 (Z15 (Z16 (Yr HO589.out) hb) (Kd.R_base ho0)) (Kd.R_base ho1)) (Kd.R_base ho3)) (Kd.R_base ho4)) (Kd.R_base ho5)) (fun _ h_ => h_.1)); replace HO592 := Ya (Z11 (Z15 (Z15 (Z15 (Z15 (Z15 (Z16 (Yr HO592.out) hb) (Kd.R_base ho0)) (Kd.R_base ho1)) (Kd.R_base ho3)) (Kd.R_base ho4)) (Kd.R_base ho5)) (fun _ h_ => h_.1)); replace HO595 := Ya (Z11 (Z15 (Z15 (Z15 (Z15 (Z15 (Z16 (Yr HO595.out) hb) (Kd.R_base ho0)) (Kd.R_base ho1)) (Kd.R_base ho3)) (Kd.R_base ho4)) (Kd.R_base ho5)) (fun _ h_ => h_.1)); replace BK576 := Yb BK576 hb; replace HB := Yh hb; (try clear hb ho0 ho1 ho2 ho3 ho4 ho5)) | ((with_reducible refine gate_dst (N := 6) rfl ?_); refine Yx 6 #[.slice none 0 0, .slice none 0 0, .slice none 0 0, .slice none 0 0, .slice none 0 0, .slice none 0 0] 35 ?_; intro gb616 hg w26 hbox hb; replace HO580 := Yw HO580 hb; replace HO583 := Yw HO583 hb; replace HO586 := Yw HO586 hb; replace HO589 := Yw HO589 hb; replace HO592 := Yw HO592 hb; replace HO595 := Yw HO595 hb; replace HO600 := Yw HO600 hb; replace HO603 := Yw HO603 hb; replace HO606 := Yw HO606 hb; replace HO609 := Yw HO609 hb; replace HO612 := Yw HO612 hb; replace HO615 := Yw HO615 hb; have BK616 := Ya hbox; have GE616 := Yg hg; replace HB := Yh hb; have NB576_616 := Yn BK576 hg; have NB616_576 := Ym BK576 hg; replace BK576 := Yb BK576 hb; clear hb hbox hg; obtain ⟨Ao27, co27, rfl⟩ := Z18 HO600.out; have hnb28 := NB616_576.out; have hnc28 := NB576_616.out; obtain ⟨hcz29_0, hcz29_1, hcz29_2, hcz29_3, hcz29_4, hcz29_5, hfz29_0, hfz29_1, hfz29_2, hfz29_3, hfz29_4, hfz29_5⟩ := Y6 BK616.out; obtain ⟨Ao30, co30, rfl⟩ := Z18 HO603.out; obtain ⟨Ao31, co31, rfl⟩ := Z18 HO606.out; obtain ⟨Ao32, co32, rfl⟩ := Z18 HO609.out; obtain ⟨Ao33, co33, rfl⟩ := Z18 HO612.out; obtain ⟨Ao34, co34, rfl⟩ := Z18 HO615.out) | ((with_reducible refine gate_callee (f := 25) rfl ?_); refine Yz 24 Try.func25 #[.agg #[.slice Ao27 t598.length co27, .slice Ao30 t601.length co30, .slice Ao31 t604.length co31, .slice Ao32 t607.length co32, .slice Ao33 t610.length co33, .slice Ao34 t613.length co34]] ?_; (with_reducible refine (impl_SwapperRank.calls k _ _ t598 _ _ t601 _ _ t604 _ _ t607 _ _ t610 _ _ t613 t617 t618 _ ?side1 ((Kd.R_reads' HO600.out).2.1) ?side3 ((Kd.R_reads' HO603.out).2.1) ?side5 ((Kd.R_reads' HO606.out).2.1) ?side7 ((Kd.R_reads' HO609.out).2.1) ?side9 ((Kd.R_reads' HO612.out).2.1) ?side11 ((Kd.R_reads' HO615.out).2.1) A10.out).mono ?_); (case side1 => refine (Kd.R_reads' (e := 3) (base := w.heap.size) (ok := fun k_ => ((((((some k_ ≠ (.slice Ao30 t601.length co30 : Value).ownBlock ∧ (some k_ ≠ (.slice Ao32 t607.length co32 : Value).ownBlock ∧ (some k_ ≠ (.slice Ao33 t610.length co33 : Value).ownBlock ∧ some k_ ≠ (.slice Ao34 t613.length co34 : Value).ownBlock))) ∧ some k_ ≠ (.slice Ao17 t578.length co17 : Value).ownBlock) ∧ some k_ ≠ (.slice Ao18 t581.length co18 : Value).ownBlock) ∧ some k_ ≠ (.slice Ao20 t587.length co20 : Value).ownBlock) ∧ some k_ ≠ (.slice Ao21 t590.length co21 : Value).ownBlock) ∧ some k_ ≠ (.slice Ao22 t593.length co22 : Value).ownBlock)) (n := t598.length) (c := co27) ?_).2.2; exact Q73); (case side3 => refine (Kd.R_reads' (e := 3) (base := w.heap.size) (ok := fun k_ => ((((((some k_ ≠ (.slice Ao27 t598.length co27 : Value).ownBlock ∧ (some k_ ≠ (.slice Ao32 t607.length co32 : Value).ownBlock ∧ (some k_ ≠ (.slice Ao33 t610.length co33 : Value).ownBlock ∧ some k_ ≠ (.slice Ao34 t613.length co34 : Value).ownBlock))) ∧ some k_ ≠ (.slice Ao17 t578.length co17 : Value).ownBlock) ∧ some k_ ≠ (.slice Ao18 t581.length co18 : Value).ownBlock) ∧ some k_ ≠ (.slice Ao20 t587.length co20 : Value).ownBlock) ∧ some k_ ≠ (.slice Ao21 t590.length co21 : Value).ownBlock) ∧ some k_ ≠ (.slice Ao22 t593.length co22 : Value).ownBlock)) (n := t601.length) (c := co30) ?_).2.2; exact Q72); (case side5 => refine (Kd.R_reads' (e := 4) (base := w.heap.size) (ok := fun k_ => (True ∧ some k_ ≠ (.slice Ao19 t584.length co19 : Value).ownBlock)) (n := t604.length) (c := co31) ?_).2.2; exact Q71); (case side7 => refine (Kd.R_reads' (e := 3) (base := w.heap.size) (ok := fun k_ => ((((((some k_ ≠ (.slice Ao27 t598.length co27 : Value).ownBlock ∧ (some k_ ≠ (.slice Ao30 t601.length co30 : Value).ownBlock ∧ (some k_ ≠ (.slice Ao33 t610.length co33 : Value).ownBlock ∧ some k_ ≠ (.slice Ao34 t613.length co34 : Value).ownBlock))) ∧ some k_ ≠ (.slice Ao17 t578.length co17 : Value).ownBlock) ∧ some k_ ≠ (.slice Ao18 t581.length co18 : Value).ownBlock) ∧ some k_ ≠ (.slice Ao20 t587.length co20 : Value).ownBlock) ∧ some k_ ≠ (.slice Ao21 t590.length co21 : Value).ownBlock) ∧ some k_ ≠ (.slice Ao22 t593.length co22 : Value).ownBlock)) (n := t607.length) (c := co32) ?_).2.2; exact Q70); (case side9 => refine (Kd.R_reads' (e := 3) (base := w.heap.size) (ok := fun k_ => ((((((some k_ ≠ (.slice Ao27 t598.length co27 : Value).ownBlock ∧ (some k_ ≠ (.slice Ao30 t601.length co30 : Value).ownBlock ∧ (some k_ ≠ (.slice Ao32 t607.length co32 : Value).ownBlock ∧ some k_ ≠ (.slice Ao34 t613.length co34 : Value).ownBlock))) ∧ some k_ ≠ (.slice Ao17 t578.length co17 : Value).ownBlock) ∧ some k_ ≠ (.slice Ao18 t581.length co18 : Value).ownBlock) ∧ some k_ ≠ (.slice Ao20 t587.length co20 : Value).ownBlock) ∧ some k_ ≠ (.slice Ao21 t590.length co21 : Value).ownBlock) ∧ some k_ ≠ (.slice Ao22 t593.length co22 : Value).ownBlock)) (n := t610.length) (c := co33) ?_).2.2; exact Q69); (case side11 => refine (Kd.R_reads' (e := 3) (base := w.heap.size) (ok := fun k_ => ((((((some k_ ≠ (.slice Ao27 t598.length co27 : Value).ownBlock ∧ (some k_ ≠ (.slice Ao30 t601.length co30 : Value).ownBlock ∧ (some k_ ≠ (.slice Ao32 t607.length co32 : Value).ownBlock ∧ some k_ ≠ (.slice Ao33 t610.length co33 : Value).ownBlock))) ∧ some k_ ≠ (.slice Ao17 t578.length co17 : Value).ownBlock) ∧ some k_ ≠ (.slice Ao18 t581.length co18 : Value).ownBlock) ∧ some k_ ≠ (.slice Ao20 t587.length co20 : Value).ownBlock) ∧ some k_ ≠ (.slice Ao21 t590.length co21 : Value).ownBlock) ∧ some k_ ≠ (.slice Ao22 t593.length co22 : Value).ownBlock)) (n := t613.length) (c := co34) ?_).2.2; exact Q68); rintro e w35 ⟨rfl, hb⟩; refine ⟨_, rfl, ?_⟩; replace HO580 := Ya (Z13 (by (with_reducible repeat (first | apply Z8 | apply Z9 | apply Z10)); exact (Z11 (Yf6 HO580.out BK616.out) (fun _ h_ => h_.1))) hb); replace HO583 := Ya (Z13 (by (with_reducible repeat (first | apply Z8 | apply Z9 | apply Z10)); exact (Z11 (Yf6 HO583.out BK616.out) (fun _ h_ => h_.1))) hb); replace HO586 := Ya (Z13 (by (with_reducible repeat (first | apply Z8 | apply Z9 | apply Z10)); exact (Z11 (Yf6 HO586.out BK616.out) (fun _ h_ => h_.1))) hb); replace HO589 := Ya (Z13 (by (with_reducible repeat (first | apply Z8 | apply Z9 | apply Z10)); exact (Z11 (Yf6 HO589.out BK616.out) (fun _ h_ => h_.1))) hb); replace HO592 := Ya (Z13 (by (with_reducible repeat (first | apply Z8 | apply Z9 | apply Z10)); exact (Z11 (Yf6 HO592.out BK616.out) (fun _ h_ => h_.1))) hb); replace HO595 := Ya (Z13 (by (with_reducible repeat (first | apply Z8 | apply Z9 | apply Z10)); exact (Z11 (Yf6 HO595.out BK616.out) (fun _ h_ => h_.1))) hb); replace HO600 := Ya (Z13 Q73 hb); replace HO603 := Ya (Z13 Q72 hb); replace HO606 := Ya (Z13 Q71 hb); replace HO609 := Ya (Z13 Q70 hb); replace HO612 := Ya (Z13 Q69 hb); replace HO615 := Ya (Z13 Q68 hb); replace BK576 := Yb ⟨Yo6 BK576.out NB576_616.out⟩ hb; replace BK616 := Yb ⟨Yv6 BK616.out⟩ hb; replace HB := Yh hb; (try clear hb)))
  (try simp only [Act.put, Z0, Z1, Z2])
  go_cut [34] (fun v34 wc => ∃ (kq : Nat) (x34_10 : Bool), v34 = .bool x34_10 ∧ Aside0 (laws_FnExactSwapperRank.j0 kq x34_10 l0_0 l0_1 l0_2 l0_3 l0_4 l0_5 t598 t601 t604 t607 t610 t613 = some r) ∧ Aside0 (kq ≤ k) ∧ Aside0 (Kd.R (Kd.int .i64) 3 wc w.heap.size (fun k_ => some k_ ≠ ((.slice Ao30 t601.length co30) : Value).ownBlock ∧ some k_ ≠ ((.slice Ao32 t607.length co32) : Value).ownBlock ∧ some k_ ≠ ((.slice Ao33 t610.length co33) : Value).ownBlock ∧ some k_ ≠ ((.slice Ao34 t613.length co34) : Value).ownBlock) (.slice Ao27 t598.length co27) t598) ∧ Aside0 (Kd.R (Kd.int .i64) 3 wc w.heap.size (fun k_ => some k_ ≠ ((.slice Ao27 t598.length co27) : Value).ownBlock ∧ some k_ ≠ ((.slice Ao32 t607.length co32) : Value).ownBlock ∧ some k_ ≠ ((.slice Ao33 t610.length co33) : Value).ownBlock ∧ some k_ ≠ ((.slice Ao34 t613.length co34) : Value).ownBlock) (.slice Ao30 t601.length co30) t601) ∧ Aside0 (Kd.R Kd.bool 4 wc w.heap.size (fun _ => True) (.slice Ao31 t604.length co31) t604) ∧ Aside0 (Kd.R (Kd.int .i64) 3 wc w.heap.size (fun k_ => some k_ ≠ ((.slice Ao27 t598.length co27) : Value).ownBlock ∧ some k_ ≠ ((.slice Ao30 t601.length co30) : Value).ownBlock ∧ some k_ ≠ ((.slice Ao33 t610.length co33) : Value).ownBlock ∧ some k_ ≠ ((.slice Ao34 t613.length co34) : Value).ownBlock) (.slice Ao32 t607.length co32) t607) ∧ Aside0 (Kd.R (Kd.int .i64) 3 wc w.heap.size (fun k_ => some k_ ≠ ((.slice Ao27 t598.length co27) : Value).ownBlock ∧ some k_ ≠ ((.slice Ao30 t601.length co30) : Value).ownBlock ∧ some k_ ≠ ((.slice Ao32 t607.length co32) : Value).ownBlock ∧ some k_ ≠ ((.slice Ao34 t613.length co34) : Value).ownBlock) (.slice Ao33 t610.length co33) t610) ∧ Aside0 (Kd.R (Kd.int .i64) 3 wc w.heap.size (fun k_ => some k_ ≠ ((.slice Ao27 t598.length co27) : Value).ownBlock ∧ some k_ ≠ ((.slice Ao30 t601.length co30) : Value).ownBlock ∧ some k_ ≠ ((.slice Ao32 t607.length co32) : Value).ownBlock ∧ some k_ ≠ ((.slice Ao33 t610.length co33) : Value).ownBlock) (.slice Ao34 t613.length co34) t613) ∧ Aside0 (wc.heap[gb576]? = some (.cells #[(.slice A0_0 l0_0.length c0_0), (.slice A0_1 l0_1.length c0_1), (.slice A0_2 l0_2.length c0_2), (.slice A0_3 l0_3.length c0_3), (.slice A0_4 l0_4.length c0_4), (.slice A0_5 l0_5.length c0_5)] 42 (0, 0))) ∧ Aside0 (wc.heap[gb616]? = some (.cells #[(.slice Ao27 t598.length co27), (.slice Ao30 t601.length co30), (.slice Ao31 t604.length co31), (.slice Ao32 t607.length co32), (.slice Ao33 t610.length co33), (.slice Ao34 t613.length co34)] 35 (0, 0))) ∧ Aside0 (Below w.heap.size w wc))
  case first =>
   have H := HC11.out
   clear HC11
   by_cases c36 : t617 = t596
   ·rw [if_pos c36] at H
    have c36b0 : (t617 == t596) = true := beq_iff_eq.mpr c36
    have c36b1 : (t617 != t596) = false := bne_eq_false_iff_eq.mpr c36
    clear c36
    (first | rw [c36b0] | (simp only [i64_w, i32_w]; rw [c36b0]) | skip)
    have H' := Ya H
    clear H
    go_wp2
    go_meet
    case rel => exact ⟨_, ((t618 != t597)), Q7, H', ⟨Q34⟩, ⟨Q58⟩, ⟨Q57⟩, ⟨by (with_reducible repeat (first | apply Z8 | apply Z9 | apply Z10)); exact Z11 HO606.out (fun _ hk => trivial)⟩, ⟨Q56⟩, ⟨Q55⟩, ⟨Q54⟩, ⟨by (with_reducible repeat (first | refine Z22 ?_ _ | refine Z23 ?_ | refine Z24 ?_ _)); exact BK576.out⟩, ⟨by (with_reducible repeat (first | refine Z22 ?_ _ | refine Z23 ?_ | refine Z24 ?_ _)); exact BK616.out⟩, ⟨Q12⟩⟩
   ·rw [if_neg c36] at H
    have c36b0 : (t617 == t596) = false := beq_eq_false_iff_ne.mpr c36
    have c36b1 : (t617 != t596) = true := bne_iff_ne.mpr c36
    (first | rw [c36b0] | (simp only [i64_w, i32_w]; rw [c36b0]) | skip)
    have H' := Ya H
    clear H
    go_wp2
    go_meet
    case rel => exact ⟨_, (true), Q7, H', ⟨Q34⟩, ⟨Q58⟩, ⟨Q57⟩, ⟨by (with_reducible repeat (first | apply Z8 | apply Z9 | apply Z10)); exact Z11 HO606.out (fun _ hk => trivial)⟩, ⟨Q56⟩, ⟨Q55⟩, ⟨Q54⟩, ⟨by (with_reducible repeat (first | refine Z22 ?_ _ | refine Z23 ?_ | refine Z24 ?_ _)); exact BK576.out⟩, ⟨by (with_reducible repeat (first | refine Z22 ?_ _ | refine Z23 ?_ | refine Z24 ?_ _)); exact BK616.out⟩, ⟨Q12⟩⟩
  case rest =>
   clear HC11
   try clear c2
   try clear p2
   try clear c3
   try clear c3b0
   try clear c6
   try clear c20
   try clear c22
   try clear c24
   try clear c25
   try clear c28
   try clear c36
   try clear c36b0
   try clear c36b1
   try clear hcz13_0
   try clear hcz13_1
   try clear hcz13_2
   try clear hcz13_3
   try clear hcz13_4
   try clear hcz13_5
   try clear hcz15_0
   try clear hcz15_1
   try clear hcz15_2
   try clear hcz15_3
   try clear hcz15_4
   try clear hcz15_5
   try clear hcz24_0
   try clear hcz24_1
   try clear hcz24_2
   try clear hcz24_3
   try clear hcz24_4
   try clear hcz24_5
   try clear hcz29_0
   try clear hcz29_1
   try clear hcz29_2
   try clear hcz29_3
   try clear hcz29_4
   try clear hcz29_5
   try clear hcz5_0
   try clear hcz5_1
   try clear hcz5_2
   try clear hcz5_3
   try clear hcz5_4
   try clear hcz5_5
   try clear hfz13_0
   try clear hfz13_1
   try clear hfz13_2
   try clear hfz13_3
   try clear hfz13_4
   try clear hfz13_5
   try clear hfz15_0
   try clear hfz15_1
   try clear hfz15_2
   try clear hfz15_3
   try clear hfz15_4
   try clear hfz15_5
   try clear hfz24_0
   try clear hfz24_1
   try clear hfz24_2
   try clear hfz24_3
   try clear hfz24_4
   try clear hfz24_5
   try clear hfz29_0
   try clear hfz29_1
   try clear hfz29_2
   try clear hfz29_3
   try clear hfz29_4
   try clear hfz29_5
   try clear hfz5_0
   try clear hfz5_1
   try clear hfz5_2
   try clear hfz5_3
   try clear hfz5_4
   try clear hfz5_5
   obtain ⟨kq, x34_10, rfl, HA, HJ10, HO_617000, HO_617001, HO_617002, HO_617003, HO_617004, HO_617005, BK576, BK616, HB⟩ := hcut
   cases kq with
   | zero => exact absurd HA.out (by simp [laws_FnExactSwapperRank.j0])
   | succ kj10 =>
    have H := HA.out
    clear HA
    simp only [laws_FnExactSwapperRank.j0] at H
    by_cases c37 : x34_10 = true
    ·subst c37
     have H1 : (some false) = some r := by rw [if_pos rfl] at H; exact H
     clear H
     have H := H1
     clear H1
     obtain rfl := Option.some.inj H
     go_wp2
     go_ret
     exact ⟨Q2, Q12⟩
    ·replace c37 := Bool.eq_false_iff.mpr c37
     subst c37
     have H1 : ((laws_toSwapper.f kj10 l0_0 l0_1 l0_2 l0_3 l0_4 l0_5).bind fun bt619 => ((laws_eqSwapper.f kj10 t598 t601 t604 t607 t610 t613 bt619.1 bt619.2.1 bt619.2.2.1 bt619.2.2.2.1 bt619.2.2.2.2.1 bt619.2.2.2.2.2).bind fun t637 => (if t637 = true then (some true) else (some false)))) = some r := by rw [if_neg (show ¬ (false = true) by decide)] at H; exact H
     clear H
     have H := H1
     clear H1
     replace H := Z33.mp H
     obtain ⟨⟨t619, t622, t625, t628, t631, t634⟩, A380, H⟩ := H
     replace H : ((laws_eqSwapper.f kj10 t598 t601 t604 t607 t610 t613 t619 t622 t625 t628 t631 t634).bind fun t637 => (if t637 = true then (some true) else (some false))) = some r := H
     have A38 := Ya A380
     clear A380
     replace H := Z33.mp H
     obtain ⟨t637, A390, H⟩ := H
     replace H : (if t637 = true then (some true) else (some false)) = some r := H
     have A39 := Ya A390
     clear A390
     by_cases c40 : t637 = true
     ·subst c40
      have H1 : (some true) = some r := by rw [if_pos rfl] at H; exact H
      clear H
      have H := H1
      clear H1
      obtain rfl := Option.some.inj H
      try go_wp2
      replace HO_617000 := Ya (Z10 HO_617000.out)
      replace HO_617001 := Ya (Z10 HO_617001.out)
      replace HO_617002 := Ya (Z10 HO_617002.out)
      replace HO_617003 := Ya (Z10 HO_617003.out)
      replace HO_617004 := Ya (Z10 HO_617004.out)
      replace HO_617005 := Ya (Z10 HO_617005.out)
      replace BK576 := Ya (Z23 BK576.out)
      replace BK616 := Ya (Z23 BK616.out)
      replace HB := Ya (Z4 HB.out)
      refine start_ (n := 5) (S := fun w' => w'.cell? ⟨gb616, 0, none⟩ = some (.slice Ao27 t598.length co27) ∧ w'.cell? ⟨gb616, 1, none⟩ = some (.slice Ao30 t601.length co30) ∧ w'.cell? ⟨gb616, 2, none⟩ = some (.slice Ao31 t604.length co31) ∧ w'.cell? ⟨gb616, 3, none⟩ = some (.slice Ao32 t607.length co32) ∧ w'.cell? ⟨gb616, 4, none⟩ = some (.slice Ao33 t610.length co33) ∧ w'.cell? ⟨gb616, 5, none⟩ = some (.slice Ao34 t613.length co34) ∧ w'.cell? ⟨gb576, 0, none⟩ = some (.slice A0_0 l0_0.length c0_0) ∧ w'.cell? ⟨gb576, 1, none⟩ = some (.slice A0_1 l0_1.length c0_1) ∧ w'.cell? ⟨gb576, 2, none⟩ = some (.slice A0_2 l0_2.length c0_2) ∧ w'.cell? ⟨gb576, 3, none⟩ = some (.slice A0_3 l0_3.length c0_3) ∧ w'.cell? ⟨gb576, 4, none⟩ = some (.slice A0_4 l0_4.length c0_4) ∧ w'.cell? ⟨gb576, 5, none⟩ = some (.slice A0_5 l0_5.length c0_5)) (ds := []) #[false, false, false, false, false] (by kernel_rfl) rfl rfl ⟨(Z20 BK616.out 0).trans rfl, (Z20 BK616.out 1).trans rfl, (Z20 BK616.out 2).trans rfl, (Z20 BK616.out 3).trans rfl, (Z20 BK616.out 4).trans rfl, (Z20 BK616.out 5).trans rfl, (Z20 BK576.out 0).trans rfl, (Z20 BK576.out 1).trans rfl, (Z20 BK576.out 2).trans rfl, (Z20 BK576.out 3).trans rfl, (Z20 BK576.out 4).trans rfl, (Z20 BK576.out 5).trans rfl⟩ (fun hHeld => ?_)
      generalize wc.drew = w41 at HO_617000 HO_617001 HO_617002 HO_617003 HO_617004 HO_617005 BK576 BK616 HB hHeld ⊢
      refine Ys 0 (some 35) #[true, false, false, false, false] rfl hHeld Q11 ?_
      refine Ys 1 (some 36) #[true, true, false, false, false] rfl hHeld Q11 ?_
      refine one_ (i := 2) (N := some 37) #[true, true, true, false, false] rfl rfl (by kernel_rfl) (by decide) (fun K hK => ?_)
      refine goes_ Try.func22 (by kernel_rfl) rfl #[.agg #[.slice A0_0 l0_0.length c0_0, .slice A0_1 l0_1.length c0_1, .slice A0_2 l0_2.length c0_2, .slice A0_3 l0_3.length c0_3, .slice A0_4 l0_4.length c0_4, .slice A0_5 l0_5.length c0_5]] (by rfl) rfl rfl Q6 ?_
      with_reducible refine (laws_toSwapper.calls kj10 _ _ l0_0 _ _ l0_1 _ _ l0_2 _ _ l0_3 _ _ l0_4 _ _ l0_5 t619 t622 t625 t628 t631 t634 _ ?side1 ?side2 ?side3 ?side4 ?side5 ?side6 ?side7 ?side8 ?side9 ?side10 ?side11 ?side12 A38.out).mono ?_
      (case side1 => exact Yc (Z19 HR0_0.out HB.out))
      (case side2 => exact HC0_0.out)
      (case side3 => exact Yc (Z19 HR0_1.out HB.out))
      (case side4 => exact HC0_1.out)
      (case side5 => exact Yc (Z19 HR0_2.out HB.out))
      (case side6 => exact HC0_2.out)
      (case side7 => exact Yc (Z19 HR0_3.out HB.out))
      (case side8 => exact HC0_3.out)
      (case side9 => exact Yc (Z19 HR0_4.out HB.out))
      (case side10 => exact HC0_4.out)
      (case side11 => exact Yc (Z19 HR0_5.out HB.out))
      (case side12 => exact HC0_5.out)
      rintro e w42 ⟨v620, v623, v626, v629, v632, v635, rfl, ho0, ho1, ho2, ho3, ho4, ho5, hb⟩
      refine ⟨_, rfl, ?_⟩
      have HO621 := Yl (Kd.R_new' (Kd.R_new' (Kd.R_new' (Kd.R_new' (Kd.R_new' ho0 (Z17 (Yr HO_617000.out))) (Z17 (Yr HO_617001.out))) (Z17 (Yr HO_617003.out))) (Z17 (Yr HO_617004.out))) (Z17 (Yr HO_617005.out)))
      have HO624 := Yl (Kd.R_new' (Kd.R_new' (Kd.R_new' (Kd.R_new' (Kd.R_new' ho1 (Z17 (Yr HO_617000.out))) (Z17 (Yr HO_617001.out))) (Z17 (Yr HO_617003.out))) (Z17 (Yr HO_617004.out))) (Z17 (Yr HO_617005.out)))
      have HO627 := Yl (Kd.R_new' ho2 (Z17 (Yr HO_617002.out)))
      replace HO_617002 := Ya (Kd.R_elder' (Yr HO_617002.out) (Kd.R_base ho2) hb)
      have HO630 := Yl (Kd.R_new' (Kd.R_new' (Kd.R_new' (Kd.R_new' (Kd.R_new' ho3 (Z17 (Yr HO_617000.out))) (Z17 (Yr HO_617001.out))) (Z17 (Yr HO_617003.out))) (Z17 (Yr HO_617004.out))) (Z17 (Yr HO_617005.out)))
      have HO633 := Yl (Kd.R_new' (Kd.R_new' (Kd.R_new' (Kd.R_new' (Kd.R_new' ho4 (Z17 (Yr HO_617000.out))) (Z17 (Yr HO_617001.out))) (Z17 (Yr HO_617003.out))) (Z17 (Yr HO_617004.out))) (Z17 (Yr HO_617005.out)))
      have HO636 := Yl (Kd.R_new' (Kd.R_new' (Kd.R_new' (Kd.R_new' (Kd.R_new' ho5 (Z17 (Yr HO_617000.out))) (Z17 (Yr HO_617001.out))) (Z17 (Yr HO_617003.out))) (Z17 (Yr HO_617004.out))) (Z17 (Yr HO_617005.out)))
      replace HO_617000 := Ya (Z11 (Z15 (Z15 (Z15 (Z15 (Z15 (Z16 (Yr HO_617000.out) hb) (Kd.R_base ho0)) (Kd.R_base ho1)) (Kd.R_base ho3)) (Kd.R_base ho4)) (Kd.R_base ho5)) (fun _ h_ => h_.1))
      replace HO_617001 := Ya (Z11 (Z15 (Z15 (Z15 (Z15 (Z15 (Z16 (Yr HO_617001.out) hb) (Kd.R_base ho0)) (Kd.R_base ho1)) (Kd.R_base ho3)) (Kd.R_base ho4)) (Kd.R_base ho5)) (fun _ h_ => h_.1))
      replace HO_617003 := Ya (Z11 (Z15 (Z15 (Z15 (Z15 (Z15 (Z16 (Yr HO_617003.out) hb) (Kd.R_base ho0)) (Kd.R_base ho1)) (Kd.R_base ho3)) (Kd.R_base ho4)) (Kd.R_base ho5)) (fun _ h_ => h_.1))
      replace HO_617004 := Ya (Z11 (Z15 (Z15 (Z15 (Z15 (Z15 (Z16 (Yr HO_617004.out) hb) (Kd.R_base ho0)) (Kd.R_base ho1)) (Kd.R_base ho3)) (Kd.R_base ho4)) (Kd.R_base ho5)) (fun _ h_ => h_.1))
      replace HO_617005 := Ya (Z11 (Z15 (Z15 (Z15 (Z15 (Z15 (Z16 (Yr HO_617005.out) hb) (Kd.R_base ho0)) (Kd.R_base ho1)) (Kd.R_base ho3)) (Kd.R_base ho4)) (Kd.R_base ho5)) (fun _ h_ => h_.1))
      replace BK576 := Yb BK576 hb
      replace BK616 := Yb BK616 hb
      replace HB := Yh hb
      (try clear hb ho0 ho1 ho2 ho3 ho4 ho5)
      obtain ⟨Ao43, co43, eo43⟩ := Z18 HO621.out
      (first | subst eo43 | (injection eo43 with f1_ f2_ f3_; have f4_ := f1_.symm; have f5_ := f3_.symm; clear f1_ f2_ f3_; subst f4_; subst f5_))
      obtain ⟨Ao44, co44, eo44⟩ := Z18 HO624.out
      (first | subst eo44 | (injection eo44 with f1_ f2_ f3_; have f4_ := f1_.symm; have f5_ := f3_.symm; clear f1_ f2_ f3_; subst f4_; subst f5_))
      obtain ⟨Ao45, co45, eo45⟩ := Z18 HO627.out
      (first | subst eo45 | (injection eo45 with f1_ f2_ f3_; have f4_ := f1_.symm; have f5_ := f3_.symm; clear f1_ f2_ f3_; subst f4_; subst f5_))
      obtain ⟨Ao46, co46, eo46⟩ := Z18 HO630.out
      (first | subst eo46 | (injection eo46 with f1_ f2_ f3_; have f4_ := f1_.symm; have f5_ := f3_.symm; clear f1_ f2_ f3_; subst f4_; subst f5_))
      obtain ⟨Ao47, co47, eo47⟩ := Z18 HO633.out
      (first | subst eo47 | (injection eo47 with f1_ f2_ f3_; have f4_ := f1_.symm; have f5_ := f3_.symm; clear f1_ f2_ f3_; subst f4_; subst f5_))
      obtain ⟨Ao48, co48, eo48⟩ := Z18 HO636.out
      (first | subst eo48 | (injection eo48 with f1_ f2_ f3_; have f4_ := f1_.symm; have f5_ := f3_.symm; clear f1_ f2_ f3_; subst f4_; subst f5_))
      refine hK.out _ _ ⟨(Z20 BK616.out 0).trans rfl, (Z20 BK616.out 1).trans rfl, (Z20 BK616.out 2).trans rfl, (Z20 BK616.out 3).trans rfl, (Z20 BK616.out 4).trans rfl, (Z20 BK616.out 5).trans rfl, (Z20 BK576.out 0).trans rfl, (Z20 BK576.out 1).trans rfl, (Z20 BK576.out 2).trans rfl, (Z20 BK576.out 3).trans rfl, (Z20 BK576.out 4).trans rfl, (Z20 BK576.out 5).trans rfl⟩ (fun hHeld => ?_)
      clear hK K
      refine norm_ (a' := ?_) ?_ ?_
      rotate_left
      ·show Act.put _ (some 37) _ = _
       simp only [Act.put, Z0, Z1, Z2, i64_w, i32_w]
       rfl
      refine one_ (i := 3) (N := some 38) #[true, true, true, true, false] rfl rfl (by kernel_rfl) (by decide) (fun K hK => ?_)
      refine goes_ Try.func17 (by kernel_rfl) rfl #[.agg #[.slice Ao27 t598.length co27, .slice Ao30 t601.length co30, .slice Ao31 t604.length co31, .slice Ao32 t607.length co32, .slice Ao33 t610.length co33, .slice Ao34 t613.length co34], .agg #[.slice Ao43 t619.length co43, .slice Ao44 t622.length co44, .slice Ao45 t625.length co45, .slice Ao46 t628.length co46, .slice Ao47 t631.length co47, .slice Ao48 t634.length co48]] (by rfl) rfl rfl Q6 ?_
      with_reducible refine (laws_eqSwapper.calls kj10 _ _ t598 _ _ t601 _ _ t604 _ _ t607 _ _ t610 _ _ t613 _ _ t619 _ _ t622 _ _ t625 _ _ t628 _ _ t631 _ _ t634 true _ ?side1 ?side2 ?side3 ?side4 ?side5 ?side6 ?side7 ?side8 ?side9 ?side10 ?side11 ?side12 ?side13 ?side14 ?side15 ?side16 ?side17 ?side18 ?side19 ?side20 ?side21 ?side22 ?side23 ?side24 A39.out).mono ?_
      (case side1 => exact Yc (Kd.R_reads' HO_617000.out).2.2)
      (case side2 => exact (Kd.R_reads' HO_617000.out).2.1)
      (case side3 => exact Yc (Kd.R_reads' HO_617001.out).2.2)
      (case side4 => exact (Kd.R_reads' HO_617001.out).2.1)
      (case side5 => exact Yc (Kd.R_reads' HO_617002.out).2.2)
      (case side6 => exact (Kd.R_reads' HO_617002.out).2.1)
      (case side7 => exact Yc (Kd.R_reads' HO_617003.out).2.2)
      (case side8 => exact (Kd.R_reads' HO_617003.out).2.1)
      (case side9 => exact Yc (Kd.R_reads' HO_617004.out).2.2)
      (case side10 => exact (Kd.R_reads' HO_617004.out).2.1)
      (case side11 => exact Yc (Kd.R_reads' HO_617005.out).2.2)
      (case side12 => exact (Kd.R_reads' HO_617005.out).2.1)
      (case side13 => exact Yc (Kd.R_reads' HO621.out).2.2)
      (case side14 => exact (Kd.R_reads' HO621.out).2.1)
      (case side15 => exact Yc (Kd.R_reads' HO624.out).2.2)
      (case side16 => exact (Kd.R_reads' HO624.out).2.1)
      (case side17 => exact Yc (Kd.R_reads' HO627.out).2.2)
      (case side18 => exact (Kd.R_reads' HO627.out).2.1)
      (case side19 => exact Yc (Kd.R_reads' HO630.out).2.2)
      (case side20 => exact (Kd.R_reads' HO630.out).2.1)
      (case side21 => exact Yc (Kd.R_reads' HO633.out).2.2)
      (case side22 => exact (Kd.R_reads' HO633.out).2.1)
      (case side23 => exact Yc (Kd.R_reads' HO636.out).2.2)
      (case side24 => exact (Kd.R_reads' HO636.out).2.1)
      rintro e w49 ⟨rfl, hb⟩
      refine ⟨_, rfl, ?_⟩
      replace HO_617000 := Yw HO_617000 hb
      replace HO_617001 := Yw HO_617001 hb
      replace HO_617002 := Yw HO_617002 hb
      replace HO_617003 := Yw HO_617003 hb
      replace HO_617004 := Yw HO_617004 hb
      replace HO_617005 := Yw HO_617005 hb
      replace HO621 := Yw HO621 hb
      replace HO624 := Yw HO624 hb
      replace HO627 := Yw HO627 hb
      replace HO630 := Yw HO630 hb
      replace HO633 := Yw HO633 hb
      replace HO636 := Yw HO636 hb
      replace BK576 := Yb BK576 hb
      replace BK616 := Yb BK616 hb
      replace HB := Yh hb
      (try clear hb)
      refine hK.out _ _ ⟨(Z20 BK616.out 0).trans rfl, (Z20 BK616.out 1).trans rfl, (Z20 BK616.out 2).trans rfl, (Z20 BK616.out 3).trans rfl, (Z20 BK616.out 4).trans rfl, (Z20 BK616.out 5).trans rfl, (Z20 BK576.out 0).trans rfl, (Z20 BK576.out 1).trans rfl, (Z20 BK576.out 2).trans rfl, (Z20 BK576.out 3).trans rfl, (Z20 BK576.out 4).trans rfl, (Z20 BK576.out 5).trans rfl⟩ (fun hHeld => ?_)
      clear hK K
      refine norm_ (a' := ?_) ?_ ?_
      rotate_left
      ·show Act.put _ (some 38) _ = _
       simp only [Act.put, Z0, Z1, Z2, i64_w, i32_w]
       rfl
      refine Yq 4 (some 39) #[true, true, true, true, true] rfl ?_
      refine done_ (by kernel_rfl) ?_
      try go_wp2
      go_ret
      exact ⟨Q2, Q12⟩
     ·replace c40 := Bool.eq_false_iff.mpr c40
      subst c40
      have H1 : (some false) = some r := by rw [if_neg (show ¬ (false = true) by decide)] at H; exact H
      clear H
      have H := H1
      clear H1
      obtain rfl := Option.some.inj H
      try go_wp2
      replace HO_617000 := Ya (Z10 HO_617000.out)
      replace HO_617001 := Ya (Z10 HO_617001.out)
      replace HO_617002 := Ya (Z10 HO_617002.out)
      replace HO_617003 := Ya (Z10 HO_617003.out)
      replace HO_617004 := Ya (Z10 HO_617004.out)
      replace HO_617005 := Ya (Z10 HO_617005.out)
      replace BK576 := Ya (Z23 BK576.out)
      replace BK616 := Ya (Z23 BK616.out)
      replace HB := Ya (Z4 HB.out)
      refine start_ (n := 5) (S := fun w' => w'.cell? ⟨gb616, 0, none⟩ = some (.slice Ao27 t598.length co27) ∧ w'.cell? ⟨gb616, 1, none⟩ = some (.slice Ao30 t601.length co30) ∧ w'.cell? ⟨gb616, 2, none⟩ = some (.slice Ao31 t604.length co31) ∧ w'.cell? ⟨gb616, 3, none⟩ = some (.slice Ao32 t607.length co32) ∧ w'.cell? ⟨gb616, 4, none⟩ = some (.slice Ao33 t610.length co33) ∧ w'.cell? ⟨gb616, 5, none⟩ = some (.slice Ao34 t613.length co34) ∧ w'.cell? ⟨gb576, 0, none⟩ = some (.slice A0_0 l0_0.length c0_0) ∧ w'.cell? ⟨gb576, 1, none⟩ = some (.slice A0_1 l0_1.length c0_1) ∧ w'.cell? ⟨gb576, 2, none⟩ = some (.slice A0_2 l0_2.length c0_2) ∧ w'.cell? ⟨gb576, 3, none⟩ = some (.slice A0_3 l0_3.length c0_3) ∧ w'.cell? ⟨gb576, 4, none⟩ = some (.slice A0_4 l0_4.length c0_4) ∧ w'.cell? ⟨gb576, 5, none⟩ = some (.slice A0_5 l0_5.length c0_5)) (ds := []) #[false, false, false, false, false] (by kernel_rfl) rfl rfl ⟨(Z20 BK616.out 0).trans rfl, (Z20 BK616.out 1).trans rfl, (Z20 BK616.out 2).trans rfl, (Z20 BK616.out 3).trans rfl, (Z20 BK616.out 4).trans rfl, (Z20 BK616.out 5).trans rfl, (Z20 BK576.out 0).trans rfl, (Z20 BK576.out 1).trans rfl, (Z20 BK576.out 2).trans rfl, (Z20 BK576.out 3).trans rfl, (Z20 BK576.out 4).trans rfl, (Z20 BK576.out 5).trans rfl⟩ (fun hHeld => ?_)
      generalize wc.drew = w50 at HO_617000 HO_617001 HO_617002 HO_617003 HO_617004 HO_617005 BK576 BK616 HB hHeld ⊢
      refine Ys 0 (some 35) #[true, false, false, false, false] rfl hHeld Q11 ?_
      refine Ys 1 (some 36) #[true, true, false, false, false] rfl hHeld Q11 ?_
      refine one_ (i := 2) (N := some 37) #[true, true, true, false, false] rfl rfl (by kernel_rfl) (by decide) (fun K hK => ?_)
      refine goes_ Try.func22 (by kernel_rfl) rfl #[.agg #[.slice A0_0 l0_0.length c0_0, .slice A0_1 l0_1.length c0_1, .slice A0_2 l0_2.length c0_2, .slice A0_3 l0_3.length c0_3, .slice A0_4 l0_4.length c0_4, .slice A0_5 l0_5.length c0_5]] (by rfl) rfl rfl Q6 ?_
      with_reducible refine (laws_toSwapper.calls kj10 _ _ l0_0 _ _ l0_1 _ _ l0_2 _ _ l0_3 _ _ l0_4 _ _ l0_5 t619 t622 t625 t628 t631 t634 _ ?side1 ?side2 ?side3 ?side4 ?side5 ?side6 ?side7 ?side8 ?side9 ?side10 ?side11 ?side12 A38.out).mono ?_
      (case side1 => exact Yc (Z19 HR0_0.out HB.out))
      (case side2 => exact HC0_0.out)
      (case side3 => exact Yc (Z19 HR0_1.out HB.out))
      (case side4 => exact HC0_1.out)
      (case side5 => exact Yc (Z19 HR0_2.out HB.out))
      (case side6 => exact HC0_2.out)
      (case side7 => exact Yc (Z19 HR0_3.out HB.out))
      (case side8 => exact HC0_3.out)
      (case side9 => exact Yc (Z19 HR0_4.out HB.out))
      (case side10 => exact HC0_4.out)
      (case side11 => exact Yc (Z19 HR0_5.out HB.out))
      (case side12 => exact HC0_5.out)
      rintro e w51 ⟨v620, v623, v626, v629, v632, v635, rfl, ho0, ho1, ho2, ho3, ho4, ho5, hb⟩
      refine ⟨_, rfl, ?_⟩
      have HO621 := Yl (Kd.R_new' (Kd.R_new' (Kd.R_new' (Kd.R_new' (Kd.R_new' ho0 (Z17 (Yr HO_617000.out))) (Z17 (Yr HO_617001.out))) (Z17 (Yr HO_617003.out))) (Z17 (Yr HO_617004.out))) (Z17 (Yr HO_617005.out)))
      have HO624 := Yl (Kd.R_new' (Kd.R_new' (Kd.R_new' (Kd.R_new' (Kd.R_new' ho1 (Z17 (Yr HO_617000.out))) (Z17 (Yr HO_617001.out))) (Z17 (Yr HO_617003.out))) (Z17 (Yr HO_617004.out))) (Z17 (Yr HO_617005.out)))
      have HO627 := Yl (Kd.R_new' ho2 (Z17 (Yr HO_617002.out)))
      replace HO_617002 := Ya (Kd.R_elder' (Yr HO_617002.out) (Kd.R_base ho2) hb)
      have HO630 := Yl (Kd.R_new' (Kd.R_new' (Kd.R_new' (Kd.R_new' (Kd.R_new' ho3 (Z17 (Yr HO_617000.out))) (Z17 (Yr HO_617001.out))) (Z17 (Yr HO_617003.out))) (Z17 (Yr HO_617004.out))) (Z17 (Yr HO_617005.out)))
      have HO633 := Yl (Kd.R_new' (Kd.R_new' (Kd.R_new' (Kd.R_new' (Kd.R_new' ho4 (Z17 (Yr HO_617000.out))) (Z17 (Yr HO_617001.out))) (Z17 (Yr HO_617003.out))) (Z17 (Yr HO_617004.out))) (Z17 (Yr HO_617005.out)))
      have HO636 := Yl (Kd.R_new' (Kd.R_new' (Kd.R_new' (Kd.R_new' (Kd.R_new' ho5 (Z17 (Yr HO_617000.out))) (Z17 (Yr HO_617001.out))) (Z17 (Yr HO_617003.out))) (Z17 (Yr HO_617004.out))) (Z17 (Yr HO_617005.out)))
      replace HO_617000 := Ya (Z11 (Z15 (Z15 (Z15 (Z15 (Z15 (Z16 (Yr HO_617000.out) hb) (Kd.R_base ho0)) (Kd.R_base ho1)) (Kd.R_base ho3)) (Kd.R_base ho4)) (Kd.R_base ho5)) (fun _ h_ => h_.1))
      replace HO_617001 := Ya (Z11 (Z15 (Z15 (Z15 (Z15 (Z15 (Z16 (Yr HO_617001.out) hb) (Kd.R_base ho0)) (Kd.R_base ho1)) (Kd.R_base ho3)) (Kd.R_base ho4)) (Kd.R_base ho5)) (fun _ h_ => h_.1))
      replace HO_617003 := Ya (Z11 (Z15 (Z15 (Z15 (Z15 (Z15 (Z16 (Yr HO_617003.out) hb) (Kd.R_base ho0)) (Kd.R_base ho1)) (Kd.R_base ho3)) (Kd.R_base ho4)) (Kd.R_base ho5)) (fun _ h_ => h_.1))
      replace HO_617004 := Ya (Z11 (Z15 (Z15 (Z15 (Z15 (Z15 (Z16 (Yr HO_617004.out) hb) (Kd.R_base ho0)) (Kd.R_base ho1)) (Kd.R_base ho3)) (Kd.R_base ho4)) (Kd.R_base ho5)) (fun _ h_ => h_.1))
      replace HO_617005 := Ya (Z11 (Z15 (Z15 (Z15 (Z15 (Z15 (Z16 (Yr HO_617005.out) hb) (Kd.R_base ho0)) (Kd.R_base ho1)) (Kd.R_base ho3)) (Kd.R_base ho4)) (Kd.R_base ho5)) (fun _ h_ => h_.1))
      replace BK576 := Yb BK576 hb
      replace BK616 := Yb BK616 hb
      replace HB := Yh hb
      (try clear hb ho0 ho1 ho2 ho3 ho4 ho5)
      obtain ⟨Ao52, co52, eo52⟩ := Z18 HO621.out
      (first | subst eo52 | (injection eo52 with f1_ f2_ f3_; have f4_ := f1_.symm; have f5_ := f3_.symm; clear f1_ f2_ f3_; subst f4_; subst f5_))
      obtain ⟨Ao53, co53, eo53⟩ := Z18 HO624.out
      (first | subst eo53 | (injection eo53 with f1_ f2_ f3_; have f4_ := f1_.symm; have f5_ := f3_.symm; clear f1_ f2_ f3_; subst f4_; subst f5_))
      obtain ⟨Ao54, co54, eo54⟩ := Z18 HO627.out
      (first | subst eo54 | (injection eo54 with f1_ f2_ f3_; have f4_ := f1_.symm; have f5_ := f3_.symm; clear f1_ f2_ f3_; subst f4_; subst f5_))
      obtain ⟨Ao55, co55, eo55⟩ := Z18 HO630.out
      (first | subst eo55 | (injection eo55 with f1_ f2_ f3_; have f4_ := f1_.symm; have f5_ := f3_.symm; clear f1_ f2_ f3_; subst f4_; subst f5_))
      obtain ⟨Ao56, co56, eo56⟩ := Z18 HO633.out
      (first | subst eo56 | (injection eo56 with f1_ f2_ f3_; have f4_ := f1_.symm; have f5_ := f3_.symm; clear f1_ f2_ f3_; subst f4_; subst f5_))
      obtain ⟨Ao57, co57, eo57⟩ := Z18 HO636.out
      (first | subst eo57 | (injection eo57 with f1_ f2_ f3_; have f4_ := f1_.symm; have f5_ := f3_.symm; clear f1_ f2_ f3_; subst f4_; subst f5_))
      refine hK.out _ _ ⟨(Z20 BK616.out 0).trans rfl, (Z20 BK616.out 1).trans rfl, (Z20 BK616.out 2).trans rfl, (Z20 BK616.out 3).trans rfl, (Z20 BK616.out 4).trans rfl, (Z20 BK616.out 5).trans rfl, (Z20 BK576.out 0).trans rfl, (Z20 BK576.out 1).trans rfl, (Z20 BK576.out 2).trans rfl, (Z20 BK576.out 3).trans rfl, (Z20 BK576.out 4).trans rfl, (Z20 BK576.out 5).trans rfl⟩ (fun hHeld => ?_)
      clear hK K
      refine norm_ (a' := ?_) ?_ ?_
      rotate_left
      ·show Act.put _ (some 37) _ = _
       simp only [Act.put, Z0, Z1, Z2, i64_w, i32_w]
       rfl
      refine one_ (i := 3) (N := some 38) #[true, true, true, true, false] rfl rfl (by kernel_rfl) (by decide) (fun K hK => ?_)
      refine goes_ Try.func17 (by kernel_rfl) rfl #[.agg #[.slice Ao27 t598.length co27, .slice Ao30 t601.length co30, .slice Ao31 t604.length co31, .slice Ao32 t607.length co32, .slice Ao33 t610.length co33, .slice Ao34 t613.length co34], .agg #[.slice Ao52 t619.length co52, .slice Ao53 t622.length co53, .slice Ao54 t625.length co54, .slice Ao55 t628.length co55, .slice Ao56 t631.length co56, .slice Ao57 t634.length co57]] (by rfl) rfl rfl Q6 ?_
      with_reducible refine (laws_eqSwapper.calls kj10 _ _ t598 _ _ t601 _ _ t604 _ _ t607 _ _ t610 _ _ t613 _ _ t619 _ _ t622 _ _ t625 _ _ t628 _ _ t631 _ _ t634 false _ ?side1 ?side2 ?side3 ?side4 ?side5 ?side6 ?side7 ?side8 ?side9 ?side10 ?side11 ?side12 ?side13 ?side14 ?side15 ?side16 ?side17 ?side18 ?side19 ?side20 ?side21 ?side22 ?side23 ?side24 A39.out).mono ?_
      (case side1 => exact Yc (Kd.R_reads' HO_617000.out).2.2)
      (case side2 => exact (Kd.R_reads' HO_617000.out).2.1)
      (case side3 => exact Yc (Kd.R_reads' HO_617001.out).2.2)
      (case side4 => exact (Kd.R_reads' HO_617001.out).2.1)
      (case side5 => exact Yc (Kd.R_reads' HO_617002.out).2.2)
      (case side6 => exact (Kd.R_reads' HO_617002.out).2.1)
      (case side7 => exact Yc (Kd.R_reads' HO_617003.out).2.2)
      (case side8 => exact (Kd.R_reads' HO_617003.out).2.1)
      (case side9 => exact Yc (Kd.R_reads' HO_617004.out).2.2)
      (case side10 => exact (Kd.R_reads' HO_617004.out).2.1)
      (case side11 => exact Yc (Kd.R_reads' HO_617005.out).2.2)
      (case side12 => exact (Kd.R_reads' HO_617005.out).2.1)
      (case side13 => exact Yc (Kd.R_reads' HO621.out).2.2)
      (case side14 => exact (Kd.R_reads' HO621.out).2.1)
      (case side15 => exact Yc (Kd.R_reads' HO624.out).2.2)
      (case side16 => exact (Kd.R_reads' HO624.out).2.1)
      (case side17 => exact Yc (Kd.R_reads' HO627.out).2.2)
      (case side18 => exact (Kd.R_reads' HO627.out).2.1)
      (case side19 => exact Yc (Kd.R_reads' HO630.out).2.2)
      (case side20 => exact (Kd.R_reads' HO630.out).2.1)
      (case side21 => exact Yc (Kd.R_reads' HO633.out).2.2)
      (case side22 => exact (Kd.R_reads' HO633.out).2.1)
      (case side23 => exact Yc (Kd.R_reads' HO636.out).2.2)
      (case side24 => exact (Kd.R_reads' HO636.out).2.1)
      rintro e w58 ⟨rfl, hb⟩
      refine ⟨_, rfl, ?_⟩
      replace HO_617000 := Yw HO_617000 hb
      replace HO_617001 := Yw HO_617001 hb
      replace HO_617002 := Yw HO_617002 hb
      replace HO_617003 := Yw HO_617003 hb
      replace HO_617004 := Yw HO_617004 hb
      replace HO_617005 := Yw HO_617005 hb
      replace HO621 := Yw HO621 hb
      replace HO624 := Yw HO624 hb
      replace HO627 := Yw HO627 hb
      replace HO630 := Yw HO630 hb
      replace HO633 := Yw HO633 hb
      replace HO636 := Yw HO636 hb
      replace BK576 := Yb BK576 hb
      replace BK616 := Yb BK616 hb
      replace HB := Yh hb
      (try clear hb)
      refine hK.out _ _ ⟨(Z20 BK616.out 0).trans rfl, (Z20 BK616.out 1).trans rfl, (Z20 BK616.out 2).trans rfl, (Z20 BK616.out 3).trans rfl, (Z20 BK616.out 4).trans rfl, (Z20 BK616.out 5).trans rfl, (Z20 BK576.out 0).trans rfl, (Z20 BK576.out 1).trans rfl, (Z20 BK576.out 2).trans rfl, (Z20 BK576.out 3).trans rfl, (Z20 BK576.out 4).trans rfl, (Z20 BK576.out 5).trans rfl⟩ (fun hHeld => ?_)
      clear hK K
      refine norm_ (a' := ?_) ?_ ?_
      rotate_left
      ·show Act.put _ (some 38) _ = _
       simp only [Act.put, Z0, Z1, Z2, i64_w, i32_w]
       rfl
      refine Yq 4 (some 39) #[true, true, true, true, true] rfl ?_
      refine done_ (by kernel_rfl) ?_
      try go_wp2
      go_ret
      exact ⟨Q2, Q12⟩
end Go.Proofs.Ytpfakdhfffehaaa.MFnExactSwapperRank
