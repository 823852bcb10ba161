import Derived.Test.YtapbbmicfkbafaaMFnFocusStepsx0
import Derived.Test.YtapbbmicfkbafaaMFnFocusStepsx5
namespace Go.Proofs.Ytapbbmicfkbafaa.MFnFocusSteps
open Go.RowKit Go.Proofs.YtapbbmicfkbafaaW.PrintWords Go.Proofs.YtapbbmicfkbafaaW.PrintLast Go.Proofs.YtapbbmicfkbafaaW.PrintMore
attribute [local go_sem] max2_int min2_int max_two min_two max_three min_three max_four min_four   
set_option linter.unusedVariables false
set_option linter.unusedSimpArgs false
def spec_foAt.l0 : Nat → Int → List Int → List Int → List Bool → List Int → Option (List Int × List Int × List Bool × List Int × Bool)
 | 0, _, _, _, _, _ => none
 | k + 1, x1, x339000, x339001, x339002, x339003 => if x1 > 0 then ((spec_foStep.f x339000 x339001 x339002 x339003).bind fun bt339 => (if bt339.2.2.2.2 < 0 then (some (([] : List Int), ([] : List Int), ([] : List Bool), ([] : List Int), false)) else (spec_foAt.l0 k (wrap64 (x1 - 1)) bt339.1 bt339.2.1 bt339.2.2.1 bt339.2.2.2.1))) else (some (x339000, x339001, x339002, x339003, true))
def spec_foAt.f (k : Nat) (l0 : List Int) (a1 : Int) : Option (List Int × List Int × List Bool × List Int × Bool) := (spec_foStart.f k l0).bind fun bt326 => (spec_foAt.l0 k a1 bt326.1 bt326.2.1 bt326.2.2.1 bt326.2.2.2)
theorem spec_foAt.mono_l : ∀ k, (∀ y0 y1 y2 y3 y4, LeO (spec_foAt.l0 k y0 y1 y2 y3 y4) (spec_foAt.l0 (k + 1) y0 y1 y2 y3 y4))
 | 0 => fun _ _ _ _ _ r h => by simp [spec_foAt.l0] at h
 | k + 1 => by
  have ih0 := spec_foAt.mono_l k
  ·intro y0 y1 y2 y3 y4
   unfold spec_foAt.l0
   repeat' first
   | (with_reducible exact ih0 _ _ _ _ _)
   | (with_reducible exact spec_foStart.mono _ _)
   | (with_reducible exact LeO.refl _)
   | (with_reducible exact LeO.none _)
   | (with_reducible refine LeO.ite ?_ ?_)
   | (with_reducible refine LeO.bind ?_ (fun _ => ?_))
   | exact ih0 _ _ _ _ _
   | exact spec_foStart.mono _ _
   | exact LeO.none _
   | refine LeO.ite ?_ ?_
   | refine LeO.bind ?_ (fun _ => ?_)
theorem spec_foAt.mono : ∀ a0 a1 k, LeO (spec_foAt.f k a0 a1) (spec_foAt.f (k + 1) a0 a1) := by
 intro a0 a1 k
 have ih0 := spec_foAt.mono_l k
 unfold spec_foAt.f
 repeat' first
   | (with_reducible exact ih0 _ _ _ _ _)
   | (with_reducible exact spec_foStart.mono _ _)
   | (with_reducible exact LeO.refl _)
   | (with_reducible exact LeO.none _)
   | (with_reducible refine LeO.ite ?_ ?_)
   | (with_reducible refine LeO.bind ?_ (fun _ => ?_))
   | exact ih0 _ _ _ _ _
   | exact spec_foStart.mono _ _
   | exact LeO.none _
   | refine LeO.ite ?_ ?_
   | refine LeO.bind ?_ (fun _ => ?_)
set_option maxHeartbeats 8000000 in
set_option maxRecDepth 100000 in
theorem spec_foAt.calls (k : Nat) (A0 : Option Addr) (c0 : Nat) (l0 : List Int) (a1 : Int) (r1 : List Int) (r2 : List Int) (r3 : List Bool) (r4 : List Int) (r5 : Bool) (w : World) (hr0 : Kd.C (Kd.int .i64) w A0 l0.length l0) (hc0 : l0.length ≤ c0) (h : spec_foAt.f k l0 a1 = some (r1, r2, r3, r4, r5)) :
  Calls Try.prog 43 #[.slice A0 l0.length c0, .int .i64 a1] w fun e w' => ∃ v0_ v1_ v2_ v3_ : Value, e = .returned (.tuple #[.agg #[v0_, v1_, v2_, v3_], .bool r5]) ∧ Kd.R (Kd.int .i64) 3 w' w.heap.size (fun k_ => some k_ ≠ (v1_ : Value).ownBlock ∧ some k_ ≠ (v3_ : Value).ownBlock) v0_ r1 ∧ Kd.R (Kd.int .i64) 3 w' w.heap.size (fun k_ => some k_ ≠ (v0_ : Value).ownBlock ∧ some k_ ≠ (v3_ : Value).ownBlock) v1_ r2 ∧ Kd.R Kd.bool 4 w' w.heap.size (fun _ => True) v2_ r3 ∧ Kd.R (Kd.int .i64) 3 w' w.heap.size (fun k_ => some k_ ≠ (v0_ : Value).ownBlock ∧ some k_ ≠ (v1_ : Value).ownBlock) v3_ r4 ∧ Below w.heap.size w w' := by
 have hu33 := Try.underlying33
 have HR0 := Ya hr0
 have HC0 := Ya hc0
 clear hr0 hc0
 have HB := Ya (Below.refl w.heap.size w)
 have H : ((spec_foStart.f k l0).bind fun bt326 => (spec_foAt.l0 k a1 bt326.1 bt326.2.1 bt326.2.2.1 bt326.2.2.2)) = some (r1, r2, r3, r4, r5) := h
 clear h
 replace H := Z37.mp H
 obtain ⟨⟨t326, t329, t332, t335⟩, A30, H⟩ := H
 replace H : (spec_foAt.l0 k a1 t326 t329 t332 t335) = some (r1, r2, r3, r4, r5) := H
 have A3 := Ya A30
 clear A30
 have H' := Ya H
 clear H
 go_enter Try.func43, Try.ntmps43
 go_wp2_with (first | ((with_reducible refine gate_dst (N := 4) rfl ?_); refine Yx 4 YN4 33 ?_; intro gb325 hg w4 hbox hb; have BK325 := Ya hbox; have GE325 := Yg hg; replace HB := Yh hb; clear hb hbox hg) | ((with_reducible refine gate_callee (f := 58) rfl ?_); refine Yz 10 Try.func58 #[.slice A0 l0.length c0] ?_; (with_reducible refine (spec_foStart.calls k _ _ l0 t326 t329 t332 t335 _ (Yc (Z23 HR0.out HB.out)) HC0.out A3.out).mono ?_); rintro e w5 ⟨v327, v330, v333, v336, rfl, ho0, ho1, ho2, ho3, hb⟩; refine ⟨_, rfl, ?_⟩; have HO328 := Yl ho0; have HO331 := Yl ho1; have HO334 := Yl ho2; have HO337 := Yl ho3; replace BK325 := Yb BK325 hb; replace HB := Yh hb; (try clear hb ho0 ho1 ho2 ho3)) | ((with_reducible refine gate_dst (N := 6) rfl ?_); refine Yx 6 YN4 33 ?_; intro gb338 hg w6 hbox hb; replace HO328 := Yw HO328 hb; replace HO331 := Yw HO331 hb; replace HO334 := Yw HO334 hb; replace HO337 := Yw HO337 hb; have BK338 := Ya hbox; have GE338 := Yg hg; replace HB := Yh hb; have NB325_338 := Yn BK325 hg; have NB338_325 := Ym BK325 hg; replace BK325 := Yb BK325 hb; clear hb hbox hg; obtain ⟨Ao7, co7, rfl⟩ := Z19 HO328.out; have hnb8 := NB338_325.out; have hnc8 := NB325_338.out; obtain ⟨hcz9_0, hcz9_1, hcz9_2, hcz9_3, hfz9_0, hfz9_1, hfz9_2, hfz9_3⟩ := Y4 BK338.out; obtain ⟨Ao10, co10, rfl⟩ := Z19 HO331.out; obtain ⟨Ao11, co11, rfl⟩ := Z19 HO334.out; obtain ⟨Ao12, co12, rfl⟩ := Z19 HO337.out))
 go_loopg [1] k (fun kq v1 w' => ∃ (x1_1 : Int) (x339000_1 : List Int) (x339001_1 : List Int) (x339002_1 : List Bool) (x339003_1 : List Int) (u339000 : Value) (u339001 : Value) (u339002 : Value) (u339003 : Value), v1 = .int .i64 x1_1 ∧ Aside0 (spec_foAt.l0 kq x1_1 x339000_1 x339001_1 x339002_1 x339003_1 = some (r1, r2, r3, r4, r5)) ∧ Aside0 (kq ≤ k) ∧ Aside0 (Kd.R (Kd.int .i64) 3 w' w.heap.size (fun k_ => some k_ ≠ (u339001 : Value).ownBlock ∧ some k_ ≠ (u339003 : Value).ownBlock) u339000 x339000_1) ∧ Aside0 (Kd.R (Kd.int .i64) 3 w' w.heap.size (fun k_ => some k_ ≠ (u339000 : Value).ownBlock ∧ some k_ ≠ (u339003 : Value).ownBlock) u339001 x339001_1) ∧ Aside0 (Kd.R Kd.bool 4 w' w.heap.size (fun _ => True) u339002 x339002_1) ∧ Aside0 (Kd.R (Kd.int .i64) 3 w' w.heap.size (fun k_ => some k_ ≠ (u339000 : Value).ownBlock ∧ some k_ ≠ (u339001 : Value).ownBlock) u339003 x339003_1) ∧ Aside0 (w'.heap[gb325]? = some (.cells #[(.slice none 0 0), (.slice none 0 0), (.slice none 0 0), (.slice none 0 0)] 33 (0, 0))) ∧ Aside0 (w'.heap[gb338]? = some (.cells #[u339000, u339001, u339002, u339003] 33 (0, 0))) ∧ Aside0 (Below w.heap.size w w'))
 case atStart => exact ⟨(a1), (t326), (t329), (t332), (t335), (.slice Ao7 t326.length co7), (.slice Ao10 t329.length co10), (.slice Ao11 t332.length co11), (.slice Ao12 t335.length co12), Q9, H', ⟨Nat.le_refl _⟩, ⟨Yj (Yf4 HO328.out BK338.out) (fun _ hk => ⟨hk.1.1, hk.1.2⟩)⟩, ⟨Yj (Yf4 HO331.out BK338.out) (fun _ hk => ⟨hk.1.1, hk.1.2⟩)⟩, ⟨Yj (Yf4 HO334.out BK338.out) (fun _ hk => trivial)⟩, ⟨Yj (Yf4 HO337.out BK338.out) (fun _ hk => ⟨hk.1.1, hk.1.2⟩)⟩, ⟨by (with_reducible repeat (first | refine Z26 ?_ _ | refine Z27 ?_ | refine Z28 ?_ _)); refine blk_far ?_ NB325_338.out _; (with_reducible repeat (first | refine Z26 ?_ _ | refine Z27 ?_ | refine Z28 ?_ _)); refine blk_far ?_ NB325_338.out _; (with_reducible repeat (first | refine Z26 ?_ _ | refine Z27 ?_ | refine Z28 ?_ _)); refine blk_far ?_ NB325_338.out _; (with_reducible repeat (first | refine Z26 ?_ _ | refine Z27 ?_ | refine Z28 ?_ _)); refine blk_far ?_ NB325_338.out _; (with_reducible repeat (first | refine Z26 ?_ _ | refine Z27 ?_ | refine Z28 ?_ _)); exact BK325.out⟩, ⟨by (with_reducible repeat (first | refine Z26 ?_ _ | refine Z27 ?_ | refine Z28 ?_ _)); refine Z30 (cs := #[.slice Ao7 t326.length co7, .slice Ao10 t329.length co10, .slice Ao11 t332.length co11, .slice none 0 0]) ?_ 3 _ rfl; (with_reducible repeat (first | refine Z26 ?_ _ | refine Z27 ?_ | refine Z28 ?_ _)); refine Z30 (cs := #[.slice Ao7 t326.length co7, .slice Ao10 t329.length co10, .slice none 0 0, .slice none 0 0]) ?_ 2 _ rfl; (with_reducible repeat (first | refine Z26 ?_ _ | refine Z27 ?_ | refine Z28 ?_ _)); refine Z30 (cs := #[.slice Ao7 t326.length co7, .slice none 0 0, .slice none 0 0, .slice none 0 0]) ?_ 1 _ rfl; (with_reducible repeat (first | refine Z26 ?_ _ | refine Z27 ?_ | refine Z28 ?_ _)); refine Z30 (cs := YN4) ?_ 0 _ rfl; (with_reducible repeat (first | refine Z26 ?_ _ | refine Z27 ?_ | refine Z28 ?_ _)); exact BK338.out⟩, ⟨Q12⟩⟩
 case round =>
  clear H'
  try clear p2
  try clear c4
  try clear c5
  try clear c8
  try clear hcz9_0
  try clear hcz9_1
  try clear hcz9_2
  try clear hcz9_3
  try clear hfz9_0
  try clear hfz9_1
  try clear hfz9_2
  try clear hfz9_3
  obtain ⟨x1_1, x339000_1, x339001_1, x339002_1, x339003_1, u339000, u339001, u339002, u339003, rfl, HA, HK1, HO_339000, HO_339001, HO_339002, HO_339003, BK325, BK338, HB⟩ := hrel
  cases gk with
  | zero => exact absurd HA.out (by simp [spec_foAt.l0])
  | succ k1 =>
   have H := HA.out
   clear HA
   simp only [spec_foAt.l0] at H
   by_cases c13 : x1_1 > 0
   ·rw [if_pos c13] at H
    have c13b0 : decide (0 < x1_1) = true := Z39 c13
    clear c13
    replace H := Z37.mp H
    obtain ⟨⟨t339, t342, t345, t348, t351⟩, A140, H⟩ := H
    replace H : (if t351 < 0 then (some (([] : List Int), ([] : List Int), ([] : List Bool), ([] : List Int), false)) else (spec_foAt.l0 k1 (wrap64 (x1_1 - 1)) t339 t342 t345 t348)) = some (r1, r2, r3, r4, r5) := H
    have A14 := Ya A140
    clear A140
    by_cases c15 : t351 < 0
    ·rw [if_pos c15] at H
     have c15b0 := Z39 c15
     clear c15
     simp only [Option.some.injEq, Prod.mk.injEq] at H
     obtain ⟨rfl, rfl, rfl, rfl, rfl⟩ := H
     have hnb16 := NB338_325.out
     have hnc16 := NB325_338.out
     have hz17 := Y4 BK338.out
     obtain ⟨Ao18, co18, rfl⟩ := Z19 HO_339000.out
     obtain ⟨Ao19, co19, rfl⟩ := Z19 HO_339001.out
     obtain ⟨Ao20, co20, rfl⟩ := Z19 HO_339002.out
     obtain ⟨Ao21, co21, rfl⟩ := Z19 HO_339003.out
     go_wp2_with (first | ((with_reducible refine gate_callee (f := 50) rfl ?_); refine Yz 17 Try.func50 #[.agg #[.slice Ao18 x339000_1.length co18, .slice Ao19 x339001_1.length co19, .slice Ao20 x339002_1.length co20, .slice Ao21 x339003_1.length co21]] ?_; (with_reducible refine (spec_foStep.calls _ _ x339000_1 _ _ x339001_1 _ _ x339002_1 _ _ x339003_1 t339 t342 t345 t348 t351 _ (Yc (Kd.R_reads' HO_339000.out).2.2) ((Kd.R_reads' HO_339000.out).2.1) (Yc (Kd.R_reads' HO_339001.out).2.2) ((Kd.R_reads' HO_339001.out).2.1) (Yc (Kd.R_reads' HO_339002.out).2.2) ((Kd.R_reads' HO_339002.out).2.1) (Yc (Kd.R_reads' HO_339003.out).2.2) ((Kd.R_reads' HO_339003.out).2.1) A14.out).mono ?_); rintro e w22 ⟨v340, v343, v346, v349, rfl, ho0, ho1, ho2, ho3, hb⟩; refine ⟨_, rfl, ?_⟩; have HO341 := Yl (Kd.R_new' (Kd.R_new' (Kd.R_new' ho0 (Z18 (Yr HO_339000.out))) (Z18 (Yr HO_339001.out))) (Z18 (Yr HO_339003.out))); have HO344 := Yl (Kd.R_new' (Kd.R_new' (Kd.R_new' ho1 (Z18 (Yr HO_339000.out))) (Z18 (Yr HO_339001.out))) (Z18 (Yr HO_339003.out))); have HO347 := Yl (Kd.R_new' ho2 (Z18 (Yr HO_339002.out))); replace HO_339002 := Ya (Kd.R_elder' (Yr HO_339002.out) (Kd.R_base ho2) hb); have HO350 := Yl (Kd.R_new' (Kd.R_new' (Kd.R_new' ho3 (Z18 (Yr HO_339000.out))) (Z18 (Yr HO_339001.out))) (Z18 (Yr HO_339003.out))); replace HO_339000 := Ya (Z12 (Z16 (Z16 (Z16 (Z17 (Yr HO_339000.out) hb) (Kd.R_base ho0)) (Kd.R_base ho1)) (Kd.R_base ho3)) (fun _ h_ => h_.1)); replace HO_339001 := Ya (Z12 (Z16 (Z16 (Z16 (Z17 (Yr HO_339001.out) hb) (Kd.R_base ho0)) (Kd.R_base ho1)) (Kd.R_base ho3)) (fun _ h_ => h_.1)); replace HO_339003 := Ya (Z12 (Z16 (Z16 (Z16 (Z17 (Yr HO_339003.out) hb) (Kd.R_base ho0)) (Kd.R_base ho1)) (Kd.R_base ho3)) (fun _ h_ => h_.1)); replace BK325 := Yb BK325 hb; replace BK338 := Yb BK338 hb; replace HB := Yh hb; (try clear hb ho0 ho1 ho2 ho3)) | ((with_reducible refine gate_dst (N := 7) rfl ?_); refine Yx 7 YN4 33 ?_; intro gb352 hg w23 hbox hb; replace HO_339000 := Yw HO_339000 hb; replace HO_339001 := Yw HO_339001 hb; replace HO_339002 := Yw HO_339002 hb; replace HO_339003 := Yw HO_339003 hb; replace HO341 := Yw HO341 hb; replace HO344 := Yw HO344 hb; replace HO347 := Yw HO347 hb; replace HO350 := Yw HO350 hb; have BK352 := Ya hbox; have GE352 := Yg hg; replace HB := Yh hb; have NB325_352 := Yn BK325 hg; have NB352_325 := Ym BK325 hg; replace BK325 := Yb BK325 hb; have NB338_352 := Yn BK338 hg; have NB352_338 := Ym BK338 hg; replace BK338 := Yb BK338 hb; clear hb hbox hg; obtain ⟨Ao24, co24, rfl⟩ := Z19 HO341.out; have hnb25 := NB352_325.out; have hnc25 := NB325_352.out; have hnb26 := NB352_338.out; have hnc26 := NB338_352.out; have hz27 := Y4 BK352.out; obtain ⟨Ao28, co28, rfl⟩ := Z19 HO344.out; obtain ⟨Ao29, co29, rfl⟩ := Z19 HO347.out; obtain ⟨Ao30, co30, rfl⟩ := Z19 HO350.out; have hz31 := Y4 BK325.out))
     refine bodyPost_ret (results_ct rfl _ _ gb325 33 YN4 (0, 0) _ rfl (Yk (Yv4 (Yo4 BK325.out NB325_352.out))) Try.underlying33 rfl (by kernel_rfl)) rfl ?_
     exact ⟨_, _, _, _, Q1, Q14, Q14, Q14, Q14, Q12⟩
    ·rw [if_neg c15] at H
     have c15b0 := Z38 c15
     clear c15
     have H' := Ya H
     clear H
     have hnb32 := NB338_325.out
     have hnc32 := NB325_338.out
     have hz33 := Y4 BK338.out
     obtain ⟨Ao34, co34, rfl⟩ := Z19 HO_339000.out
     obtain ⟨Ao35, co35, rfl⟩ := Z19 HO_339001.out
     obtain ⟨Ao36, co36, rfl⟩ := Z19 HO_339002.out
     obtain ⟨Ao37, co37, rfl⟩ := Z19 HO_339003.out
     go_wp2_with (first | ((with_reducible refine gate_callee (f := 50) rfl ?_); refine Yz 17 Try.func50 #[.agg #[.slice Ao34 x339000_1.length co34, .slice Ao35 x339001_1.length co35, .slice Ao36 x339002_1.length co36, .slice Ao37 x339003_1.length co37]] ?_; (with_reducible refine (spec_foStep.calls _ _ x339000_1 _ _ x339001_1 _ _ x339002_1 _ _ x339003_1 t339 t342 t345 t348 t351 _ (Yc (Kd.R_reads' HO_339000.out).2.2) ((Kd.R_reads' HO_339000.out).2.1) (Yc (Kd.R_reads' HO_339001.out).2.2) ((Kd.R_reads' HO_339001.out).2.1) (Yc (Kd.R_reads' HO_339002.out).2.2) ((Kd.R_reads' HO_339002.out).2.1) (Yc (Kd.R_reads' HO_339003.out).2.2) ((Kd.R_reads' HO_339003.out).2.1) A14.out).mono ?_); rintro e w38 ⟨v340, v343, v346, v349, rfl, ho0, ho1, ho2, ho3, hb⟩; refine ⟨_, rfl, ?_⟩; have HO341 := Yl (Kd.R_new' (Kd.R_new' (Kd.R_new' ho0 (Z18 (Yr HO_339000.out))) (Z18 (Yr HO_339001.out))) (Z18 (Yr HO_339003.out))); have HO344 := Yl (Kd.R_new' (Kd.R_new' (Kd.R_new' ho1 (Z18 (Yr HO_339000.out))) (Z18 (Yr HO_339001.out))) (Z18 (Yr HO_339003.out))); have HO347 := Yl (Kd.R_new' ho2 (Z18 (Yr HO_339002.out))); replace HO_339002 := Ya (Kd.R_elder' (Yr HO_339002.out) (Kd.R_base ho2) hb); have HO350 := Yl (Kd.R_new' (Kd.R_new' (Kd.R_new' ho3 (Z18 (Yr HO_339000.out))) (Z18 (Yr HO_339001.out))) (Z18 (Yr HO_339003.out))); replace HO_339000 := Ya (Z12 (Z16 (Z16 (Z16 (Z17 (Yr HO_339000.out) hb) (Kd.R_base ho0)) (Kd.R_base ho1)) (Kd.R_base ho3)) (fun _ h_ => h_.1)); replace HO_339001 := Ya (Z12 (Z16 (Z16 (Z16 (Z17 (Yr HO_339001.out) hb) (Kd.R_base ho0)) (Kd.R_base ho1)) (Kd.R_base ho3)) (fun _ h_ => h_.1)); replace HO_339003 := Ya (Z12 (Z16 (Z16 (Z16 (Z17 (Yr HO_339003.out) hb) (Kd.R_base ho0)) (Kd.R_base ho1)) (Kd.R_base ho3)) (fun _ h_ => h_.1)); replace BK325 := Yb BK325 hb; replace BK338 := Yb BK338 hb; replace HB := Yh hb; (try clear hb ho0 ho1 ho2 ho3)) | ((with_reducible refine gate_dst (N := 7) rfl ?_); refine Yx 7 YN4 33 ?_; intro gb352 hg w39 hbox hb; replace HO_339000 := Yw HO_339000 hb; replace HO_339001 := Yw HO_339001 hb; replace HO_339002 := Yw HO_339002 hb; replace HO_339003 := Yw HO_339003 hb; replace HO341 := Yw HO341 hb; replace HO344 := Yw HO344 hb; replace HO347 := Yw HO347 hb; replace HO350 := Yw HO350 hb; have BK352 := Ya hbox; have GE352 := Yg hg; replace HB := Yh hb; have NB325_352 := Yn BK325 hg; have NB352_325 := Ym BK325 hg; replace BK325 := Yb BK325 hb; have NB338_352 := Yn BK338 hg; have NB352_338 := Ym BK338 hg; replace BK338 := Yb BK338 hb; clear hb hbox hg; obtain ⟨Ao40, co40, rfl⟩ := Z19 HO341.out; have hnb41 := NB352_325.out; have hnc41 := NB325_352.out; have hnb42 := NB352_338.out; have hnc42 := NB338_352.out; have hz43 := Y4 BK352.out; obtain ⟨Ao44, co44, rfl⟩ := Z19 HO344.out; obtain ⟨Ao45, co45, rfl⟩ := Z19 HO347.out; obtain ⟨Ao46, co46, rfl⟩ := Z19 HO350.out; have hz47 := Y4 BK338.out))
     go_roundg k1
     case measure => have := HK1.out; omega
     case rel => exact ⟨(wrap64 (x1_1 - 1)), (t339), (t342), (t345), (t348), (.slice Ao40 t339.length co40), (.slice Ao44 t342.length co44), (.slice Ao45 t345.length co45), (.slice Ao46 t348.length co46), Q9, H', ⟨Q45⟩, ⟨Yj (Yd4 HO341.out BK352.out BK338.out) (fun _ hk => ⟨hk.1.1.1.1.1.1, hk.1.1.1.1.1.2⟩)⟩, ⟨Yj (Yd4 HO344.out BK352.out BK338.out) (fun _ hk => ⟨hk.1.1.1.1.1.1, hk.1.1.1.1.1.2⟩)⟩, ⟨Yj (Yd4 HO347.out BK352.out BK338.out) (fun _ hk => trivial)⟩, ⟨Yj (Yd4 HO350.out BK352.out BK338.out) (fun _ hk => ⟨hk.1.1.1.1.1.1, hk.1.1.1.1.1.2⟩)⟩, ⟨by (with_reducible repeat (first | refine Z26 ?_ _ | refine Z27 ?_ | refine Z28 ?_ _)); refine blk_far ?_ NB325_338.out _; (with_reducible repeat (first | refine Z26 ?_ _ | refine Z27 ?_ | refine Z28 ?_ _)); refine blk_far ?_ NB325_338.out _; (with_reducible repeat (first | refine Z26 ?_ _ | refine Z27 ?_ | refine Z28 ?_ _)); refine blk_far ?_ NB325_338.out _; (with_reducible repeat (first | refine Z26 ?_ _ | refine Z27 ?_ | refine Z28 ?_ _)); refine blk_far ?_ NB325_338.out _; (with_reducible repeat (first | refine Z26 ?_ _ | refine Z27 ?_ | refine Z28 ?_ _)); refine blk_far ?_ NB325_352.out _; (with_reducible repeat (first | refine Z26 ?_ _ | refine Z27 ?_ | refine Z28 ?_ _)); refine blk_far ?_ NB325_352.out _; (with_reducible repeat (first | refine Z26 ?_ _ | refine Z27 ?_ | refine Z28 ?_ _)); refine blk_far ?_ NB325_352.out _; (with_reducible repeat (first | refine Z26 ?_ _ | refine Z27 ?_ | refine Z28 ?_ _)); refine blk_far ?_ NB325_352.out _; (with_reducible repeat (first | refine Z26 ?_ _ | refine Z27 ?_ | refine Z28 ?_ _)); exact BK325.out⟩, ⟨by (with_reducible repeat (first | refine Z26 ?_ _ | refine Z27 ?_ | refine Z28 ?_ _)); refine Z30 (cs := #[.slice Ao40 t339.length co40, .slice Ao44 t342.length co44, .slice Ao45 t345.length co45, .slice Ao37 x339003_1.length co37]) ?_ 3 _ rfl; (with_reducible repeat (first | refine Z26 ?_ _ | refine Z27 ?_ | refine Z28 ?_ _)); refine Z30 (cs := #[.slice Ao40 t339.length co40, .slice Ao44 t342.length co44, .slice Ao36 x339002_1.length co36, .slice Ao37 x339003_1.length co37]) ?_ 2 _ rfl; (with_reducible repeat (first | refine Z26 ?_ _ | refine Z27 ?_ | refine Z28 ?_ _)); refine Z30 (cs := #[.slice Ao40 t339.length co40, .slice Ao35 x339001_1.length co35, .slice Ao36 x339002_1.length co36, .slice Ao37 x339003_1.length co37]) ?_ 1 _ rfl; (with_reducible repeat (first | refine Z26 ?_ _ | refine Z27 ?_ | refine Z28 ?_ _)); refine Z30 (cs := #[.slice Ao34 x339000_1.length co34, .slice Ao35 x339001_1.length co35, .slice Ao36 x339002_1.length co36, .slice Ao37 x339003_1.length co37]) ?_ 0 _ rfl; (with_reducible repeat (first | refine Z26 ?_ _ | refine Z27 ?_ | refine Z28 ?_ _)); refine blk_far ?_ NB338_352.out _; (with_reducible repeat (first | refine Z26 ?_ _ | refine Z27 ?_ | refine Z28 ?_ _)); refine blk_far ?_ NB338_352.out _; (with_reducible repeat (first | refine Z26 ?_ _ | refine Z27 ?_ | refine Z28 ?_ _)); refine blk_far ?_ NB338_352.out _; (with_reducible repeat (first | refine Z26 ?_ _ | refine Z27 ?_ | refine Z28 ?_ _)); refine blk_far ?_ NB338_352.out _; (with_reducible repeat (first | refine Z26 ?_ _ | refine Z27 ?_ | refine Z28 ?_ _)); exact BK338.out⟩, ⟨Q12⟩⟩
   ·rw [if_neg c13] at H
    have c13b0 : decide (0 < x1_1) = false := Z38 c13
    clear c13
    simp only [Option.some.injEq, Prod.mk.injEq] at H
    obtain ⟨rfl, rfl, rfl, rfl, rfl⟩ := H
    have hnb48 := NB338_325.out
    have hnc48 := NB325_338.out
    have hz49 := Y4 BK338.out
    obtain ⟨Ao50, co50, rfl⟩ := Z19 HO_339000.out
    have hz51 := Y4 BK325.out
    obtain ⟨Ao52, co52, rfl⟩ := Z19 HO_339001.out
    obtain ⟨Ao53, co53, rfl⟩ := Z19 HO_339002.out
    obtain ⟨Ao54, co54, rfl⟩ := Z19 HO_339003.out
    go_wp2
    refine bodyPost_ret (results_ct rfl _ _ gb325 33 #[.slice Ao50 x339000_1.length co50, .slice Ao52 x339001_1.length co52, .slice Ao53 x339002_1.length co53, .slice Ao54 x339003_1.length co54] (0, 0) _ rfl (Yk (Yv4 BK325.out)) Try.underlying33 rfl (by kernel_rfl)) rfl ?_
    exact ⟨_, _, _, _, Q1, Yj (Yf4 HO_339000.out BK325.out) (fun _ hk => ⟨hk.1.1, hk.1.2⟩), Yj (Yf4 HO_339001.out BK325.out) (fun _ hk => ⟨hk.1.1, hk.1.2⟩), Yj (Yf4 HO_339002.out BK325.out) (fun _ hk => trivial), Yj (Yf4 HO_339003.out BK325.out) (fun _ hk => ⟨hk.1.1, hk.1.2⟩), Q12⟩
def spec_l1Least.f (a0 : Int) (a1 : Int) : Option (Int) := if a0 < a1 then (some a0) else (some a1)
set_option maxHeartbeats 8000000 in
set_option maxRecDepth 100000 in
theorem spec_l1Least.calls (a0 : Int) (a1 : Int) (r : Int) (w : World) (h : spec_l1Least.f a0 a1 = some r) :
  Calls Try.prog 73 #[.int .i64 a0, .int .i64 a1] w fun e w' => e = .returned (.int .i64 r) ∧ Drawn0 w w' := by
 have H : (if a0 < a1 then (some a0) else (some a1)) = some r := h
 clear h
 by_cases c3 : a0 < a1
 ·rw [if_pos c3] at H
  have c3b0 := Z39 c3
  clear c3
  obtain rfl := Option.some.inj H
  go_enter Try.func73, Try.ntmps73
  go_wp2
  go_ret
  exact ⟨Q19, Q10⟩
 ·rw [if_neg c3] at H
  have c3b0 := Z38 c3
  clear c3
  obtain rfl := Option.some.inj H
  go_enter Try.func73, Try.ntmps73
  go_wp2
  go_ret
  exact ⟨Q19, Q10⟩
end Go.Proofs.Ytapbbmicfkbafaa.MFnFocusSteps
