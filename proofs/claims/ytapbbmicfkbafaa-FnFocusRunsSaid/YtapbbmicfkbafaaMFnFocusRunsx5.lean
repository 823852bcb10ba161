import Derived.Test.YtapbbmicfkbafaaMFnFocusRunsx0
import Derived.Test.YtapbbmicfkbafaaMFnFocusRunsx2
import Derived.Test.YtapbbmicfkbafaaMFnFocusRunsx3
import Derived.Test.YtapbbmicfkbafaaMFnFocusRunsx4
namespace Go.Proofs.Ytapbbmicfkbafaa.MFnFocusRuns
open Go.RowKit Go.Proofs.YtapbbmicfkbafaaW.PrintWords Go.Proofs.YtapbbmicfkbafaaW.PrintLast Go.Proofs.YtapbbmicfkbafaaW.PrintMore
attribute [local go_sem] max2_int min2_int max_two min_two max_three min_three max_four min_four   
set_option linter.unusedVariables false
set_option linter.unusedSimpArgs false
def spec_foRun.l0 : Nat → Int → List Int → List Int → List Int → List Bool → List Int → Option (List Int)
 | 0, _, _, _, _, _, _ => none
 | k + 1, x1, x5, x289000, x289001, x289002, x289003 => if x1 > 0 then ((spec_foStep.f x289000 x289001 x289002 x289003).bind fun bt289 => (if bt289.2.2.2.2 < 0 then (some x5) else (if x5.length < 17592186044416 then (spec_foRun.l0 k (wrap64 (x1 - 1)) (x5 ++ [bt289.2.2.2.2]) bt289.1 bt289.2.1 bt289.2.2.1 bt289.2.2.2.1) else (none)))) else (some x5)
def spec_foRun.f (k : Nat) (l0 : List Int) (a1 : Int) : Option (List Int) := (spec_foStart.f k l0).bind fun bt276 => (spec_foRun.l0 k a1 ([] : List Int) bt276.1 bt276.2.1 bt276.2.2.1 bt276.2.2.2)
theorem spec_foRun.mono_l : ∀ k, (∀ y0 y1 y2 y3 y4 y5, LeO (spec_foRun.l0 k y0 y1 y2 y3 y4 y5) (spec_foRun.l0 (k + 1) y0 y1 y2 y3 y4 y5))
 | 0 => fun _ _ _ _ _ _ r h => by simp [spec_foRun.l0] at h
 | k + 1 => by
  have ih0 := spec_foRun.mono_l k
  ·intro y0 y1 y2 y3 y4 y5
   unfold spec_foRun.l0
   repeat' first
   | (with_reducible exact ih0 _ _ _ _ _ _)
   | (with_reducible exact spec_foStart.mono _ _)
   | (with_reducible exact LeO.refl _)
   | (with_reducible exact LeO.none _)
   | (with_reducible refine LeO.ite ?_ ?_)
   | (with_reducible refine LeO.bind ?_ (fun _ => ?_))
   | exact ih0 _ _ _ _ _ _
   | exact spec_foStart.mono _ _
   | exact LeO.none _
   | refine LeO.ite ?_ ?_
   | refine LeO.bind ?_ (fun _ => ?_)
theorem spec_foRun.mono : ∀ a0 a1 k, LeO (spec_foRun.f k a0 a1) (spec_foRun.f (k + 1) a0 a1) := by
 intro a0 a1 k
 have ih0 := spec_foRun.mono_l k
 unfold spec_foRun.f
 repeat' first
   | (with_reducible exact ih0 _ _ _ _ _ _)
   | (with_reducible exact spec_foStart.mono _ _)
   | (with_reducible exact LeO.refl _)
   | (with_reducible exact LeO.none _)
   | (with_reducible refine LeO.ite ?_ ?_)
   | (with_reducible refine LeO.bind ?_ (fun _ => ?_))
   | exact ih0 _ _ _ _ _ _
   | exact spec_foStart.mono _ _
   | exact LeO.none _
   | refine LeO.ite ?_ ?_
   | refine LeO.bind ?_ (fun _ => ?_)
set_option maxHeartbeats 8000000 in
set_option maxRecDepth 100000 in
theorem spec_foRun.calls (k : Nat) (A0 : Option Addr) (c0 : Nat) (l0 : List Int) (a1 : Int) (r : List Int) (w : World) (hr0 : Kd.C (Kd.int .i64) w A0 l0.length l0) (hc0 : l0.length ≤ c0) (h : spec_foRun.f k l0 a1 = some r) :
  Calls Try.prog 34 #[.slice A0 l0.length c0, .int .i64 a1] w fun e w' => ∃ v0_ : Value, e = .returned (v0_) ∧ Kd.R (Kd.int .i64) 3 w' w.heap.size (fun _ => True) v0_ r ∧ Below w.heap.size w w' := by
 have hu33 := Try.underlying33
 have HR0 := Ya hr0
 have HC0 := Ya hc0
 clear hr0 hc0
 have HB := Ya (Below.refl w.heap.size w)
 have H : ((spec_foStart.f k l0).bind fun bt276 => (spec_foRun.l0 k a1 ([] : List Int) bt276.1 bt276.2.1 bt276.2.2.1 bt276.2.2.2)) = some r := h
 clear h
 replace H := Z35.mp H
 obtain ⟨⟨t276, t279, t282, t285⟩, A30, H⟩ := H
 replace H : (spec_foRun.l0 k a1 ([] : List Int) t276 t279 t282 t285) = some r := H
 have A3 := Ya A30
 clear A30
 have H' := Ya H
 clear H
 go_enter Try.func34, Try.ntmps34
 go_wp2_with (first | ((with_reducible refine gate_callee (f := 58) rfl ?_); refine Yz 10 Try.func58 #[.slice A0 l0.length c0] ?_; (with_reducible refine (spec_foStart.calls k _ _ l0 t276 t279 t282 t285 _ (Yc HR0.out) HC0.out A3.out).mono ?_); rintro e w4 ⟨v277, v280, v283, v286, rfl, ho0, ho1, ho2, ho3, hb⟩; refine ⟨_, rfl, ?_⟩; have HO278 := Yl ho0; have HO281 := Yl ho1; have HO284 := Yl ho2; have HO287 := Yl ho3; replace HB := Yh hb; (try clear hb ho0 ho1 ho2 ho3)) | ((with_reducible refine gate_dst (N := 6) rfl ?_); refine Yx 6 YN4 33 ?_; intro gb288 hg w5 hbox hb; replace HO278 := Yw HO278 hb; replace HO281 := Yw HO281 hb; replace HO284 := Yw HO284 hb; replace HO287 := Yw HO287 hb; have BK288 := Ya hbox; have GE288 := Yg hg; replace HB := Yh hb; clear hb hbox hg; obtain ⟨Ao6, co6, rfl⟩ := Z17 HO278.out; obtain ⟨hcz7_0, hcz7_1, hcz7_2, hcz7_3, hfz7_0, hfz7_1, hfz7_2, hfz7_3⟩ := Y4 BK288.out; obtain ⟨Ao8, co8, rfl⟩ := Z17 HO281.out; obtain ⟨Ao9, co9, rfl⟩ := Z17 HO284.out; obtain ⟨Ao10, co10, rfl⟩ := Z17 HO287.out))
 go_loopg [1, 5] k (fun kq v1 v5 w' => ∃ (x1_1 : Int) (x5_1 : List Int) (x289000_1 : List Int) (x289001_1 : List Int) (x289002_1 : List Bool) (x289003_1 : List Int) (u289000 : Value) (u289001 : Value) (u289002 : Value) (u289003 : Value), v1 = .int .i64 x1_1 ∧ Aside0 (spec_foRun.l0 kq x1_1 x5_1 x289000_1 x289001_1 x289002_1 x289003_1 = some r) ∧ Aside0 (kq ≤ k) ∧ Aside0 (Kd.R (Kd.int .i64) 3 w' w.heap.size (fun k_ => some k_ ≠ (u289000 : Value).ownBlock ∧ some k_ ≠ (u289001 : Value).ownBlock ∧ some k_ ≠ (u289003 : Value).ownBlock) v5 x5_1) ∧ Aside0 (Kd.R (Kd.int .i64) 3 w' w.heap.size (fun k_ => some k_ ≠ (v5 : Value).ownBlock ∧ some k_ ≠ (u289001 : Value).ownBlock ∧ some k_ ≠ (u289003 : Value).ownBlock) u289000 x289000_1) ∧ Aside0 (Kd.R (Kd.int .i64) 3 w' w.heap.size (fun k_ => some k_ ≠ (v5 : Value).ownBlock ∧ some k_ ≠ (u289000 : Value).ownBlock ∧ some k_ ≠ (u289003 : Value).ownBlock) u289001 x289001_1) ∧ Aside0 (Kd.R Kd.bool 4 w' w.heap.size (fun _ => True) u289002 x289002_1) ∧ Aside0 (Kd.R (Kd.int .i64) 3 w' w.heap.size (fun k_ => some k_ ≠ (v5 : Value).ownBlock ∧ some k_ ≠ (u289000 : Value).ownBlock ∧ some k_ ≠ (u289001 : Value).ownBlock) u289003 x289003_1) ∧ Aside0 (w'.heap[gb288]? = some (.cells #[u289000, u289001, u289002, u289003] 33 (0, 0))) ∧ Aside0 (Below w.heap.size w w'))
 case atStart => exact ⟨(a1), (([] : List Int)), (t276), (t279), (t282), (t285), (.slice Ao6 t276.length co6), (.slice Ao8 t279.length co8), (.slice Ao9 t282.length co9), (.slice Ao10 t285.length co10), Q8, H', ⟨Nat.le_refl _⟩, ⟨Q4⟩, ⟨Yj (Yf4 HO278.out BK288.out) (fun _ hk => ⟨(by simp [Value.ownBlock]), ⟨hk.1.1, hk.1.2⟩⟩)⟩, ⟨Yj (Yf4 HO281.out BK288.out) (fun _ hk => ⟨(by simp [Value.ownBlock]), ⟨hk.1.1, hk.1.2⟩⟩)⟩, ⟨Yj (Yf4 HO284.out BK288.out) (fun _ hk => trivial)⟩, ⟨Yj (Yf4 HO287.out BK288.out) (fun _ hk => ⟨(by simp [Value.ownBlock]), ⟨hk.1.1, hk.1.2⟩⟩)⟩, ⟨by (with_reducible repeat (first | refine Z24 ?_ _ | refine Z25 ?_ | refine Z26 ?_ _)); refine Z28 (cs := #[.slice Ao6 t276.length co6, .slice Ao8 t279.length co8, .slice Ao9 t282.length co9, .slice none 0 0]) ?_ 3 _ rfl; (with_reducible repeat (first | refine Z24 ?_ _ | refine Z25 ?_ | refine Z26 ?_ _)); refine Z28 (cs := #[.slice Ao6 t276.length co6, .slice Ao8 t279.length co8, .slice none 0 0, .slice none 0 0]) ?_ 2 _ rfl; (with_reducible repeat (first | refine Z24 ?_ _ | refine Z25 ?_ | refine Z26 ?_ _)); refine Z28 (cs := #[.slice Ao6 t276.length co6, .slice none 0 0, .slice none 0 0, .slice none 0 0]) ?_ 1 _ rfl; (with_reducible repeat (first | refine Z24 ?_ _ | refine Z25 ?_ | refine Z26 ?_ _)); refine Z28 (cs := YN4) ?_ 0 _ rfl; (with_reducible repeat (first | refine Z24 ?_ _ | refine Z25 ?_ | refine Z26 ?_ _)); exact BK288.out⟩, ⟨Q12⟩⟩
 case round =>
  clear H'
  try clear p2
  try clear c3
  try clear c5
  try clear hcz7_0
  try clear hcz7_1
  try clear hcz7_2
  try clear hcz7_3
  try clear hfz7_0
  try clear hfz7_1
  try clear hfz7_2
  try clear hfz7_3
  obtain ⟨x1_1, x5_1, x289000_1, x289001_1, x289002_1, x289003_1, u289000, u289001, u289002, u289003, rfl, HA, HK1, HO_5, HO_289000, HO_289001, HO_289002, HO_289003, BK288, HB⟩ := hrel
  cases gk with
  | zero => exact absurd HA.out (by simp [spec_foRun.l0])
  | succ k1 =>
   have H := HA.out
   clear HA
   simp only [spec_foRun.l0] at H
   by_cases c11 : x1_1 > 0
   ·rw [if_pos c11] at H
    have c11b0 : decide (0 < x1_1) = true := Z37 c11
    clear c11
    replace H := Z35.mp H
    obtain ⟨⟨t289, t292, t295, t298, t301⟩, A120, H⟩ := H
    replace H : (if t301 < 0 then (some x5_1) else (if x5_1.length < 17592186044416 then (spec_foRun.l0 k1 (wrap64 (x1_1 - 1)) (x5_1 ++ [t301]) t289 t292 t295 t298) else (none))) = some r := H
    have A12 := Ya A120
    clear A120
    by_cases c13 : t301 < 0
    ·rw [if_pos c13] at H
     have c13b0 := Z37 c13
     clear c13
     obtain rfl := Option.some.inj H
     have hz14 := Y4 BK288.out
     obtain ⟨Ao15, co15, rfl⟩ := Z17 HO_289000.out
     obtain ⟨Ao16, co16, rfl⟩ := Z17 HO_289001.out
     obtain ⟨Ao17, co17, rfl⟩ := Z17 HO_289002.out
     obtain ⟨Ao18, co18, rfl⟩ := Z17 HO_289003.out
     go_wp2_with (first | ((with_reducible refine gate_callee (f := 50) rfl ?_); refine Yz 17 Try.func50 #[.agg #[.slice Ao15 x289000_1.length co15, .slice Ao16 x289001_1.length co16, .slice Ao17 x289002_1.length co17, .slice Ao18 x289003_1.length co18]] ?_; (with_reducible refine (spec_foStep.calls _ _ x289000_1 _ _ x289001_1 _ _ x289002_1 _ _ x289003_1 t289 t292 t295 t298 t301 _ (Yc (Kd.R_reads' HO_289000.out).2.2) ((Kd.R_reads' HO_289000.out).2.1) (Yc (Kd.R_reads' HO_289001.out).2.2) ((Kd.R_reads' HO_289001.out).2.1) (Yc (Kd.R_reads' HO_289002.out).2.2) ((Kd.R_reads' HO_289002.out).2.1) (Yc (Kd.R_reads' HO_289003.out).2.2) ((Kd.R_reads' HO_289003.out).2.1) A12.out).mono ?_); rintro e w19 ⟨v290, v293, v296, v299, rfl, ho0, ho1, ho2, ho3, hb⟩; refine ⟨_, rfl, ?_⟩; have HO291 := Yl (Kd.R_new' (Kd.R_new' (Kd.R_new' (Kd.R_new' ho0 (Z16 (Yr HO_5.out))) (Z16 (Yr HO_289000.out))) (Z16 (Yr HO_289001.out))) (Z16 (Yr HO_289003.out))); have HO294 := Yl (Kd.R_new' (Kd.R_new' (Kd.R_new' (Kd.R_new' ho1 (Z16 (Yr HO_5.out))) (Z16 (Yr HO_289000.out))) (Z16 (Yr HO_289001.out))) (Z16 (Yr HO_289003.out))); have HO297 := Yl (Kd.R_new' ho2 (Z16 (Yr HO_289002.out))); replace HO_289002 := Ya (Kd.R_elder' (Yr HO_289002.out) (Kd.R_base ho2) hb); have HO300 := Yl (Kd.R_new' (Kd.R_new' (Kd.R_new' (Kd.R_new' ho3 (Z16 (Yr HO_5.out))) (Z16 (Yr HO_289000.out))) (Z16 (Yr HO_289001.out))) (Z16 (Yr HO_289003.out))); replace HO_5 := Ya (Z11 (Z14 (Z14 (Z14 (Z15 (Yr HO_5.out) hb) (Kd.R_base ho0)) (Kd.R_base ho1)) (Kd.R_base ho3)) (fun _ h_ => h_.1)); replace HO_289000 := Ya (Z11 (Z14 (Z14 (Z14 (Z15 (Yr HO_289000.out) hb) (Kd.R_base ho0)) (Kd.R_base ho1)) (Kd.R_base ho3)) (fun _ h_ => h_.1)); replace HO_289001 := Ya (Z11 (Z14 (Z14 (Z14 (Z15 (Yr HO_289001.out) hb) (Kd.R_base ho0)) (Kd.R_base ho1)) (Kd.R_base ho3)) (fun _ h_ => h_.1)); replace HO_289003 := Ya (Z11 (Z14 (Z14 (Z14 (Z15 (Yr HO_289003.out) hb) (Kd.R_base ho0)) (Kd.R_base ho1)) (Kd.R_base ho3)) (fun _ h_ => h_.1)); replace BK288 := Yb BK288 hb; replace HB := Yh hb; (try clear hb ho0 ho1 ho2 ho3)) | ((with_reducible refine gate_dst (N := 7) rfl ?_); refine Yx 7 YN4 33 ?_; intro gb302 hg w20 hbox hb; replace HO_5 := Yw HO_5 hb; replace HO_289000 := Yw HO_289000 hb; replace HO_289001 := Yw HO_289001 hb; replace HO_289002 := Yw HO_289002 hb; replace HO_289003 := Yw HO_289003 hb; replace HO291 := Yw HO291 hb; replace HO294 := Yw HO294 hb; replace HO297 := Yw HO297 hb; replace HO300 := Yw HO300 hb; have BK302 := Ya hbox; have GE302 := Yg hg; replace HB := Yh hb; have NB288_302 := Yn BK288 hg; have NB302_288 := Ym BK288 hg; replace BK288 := Yb BK288 hb; clear hb hbox hg; obtain ⟨Ao21, co21, rfl⟩ := Z17 HO291.out; have hnb22 := NB302_288.out; have hnc22 := NB288_302.out; have hz23 := Y4 BK302.out; obtain ⟨Ao24, co24, rfl⟩ := Z17 HO294.out; obtain ⟨Ao25, co25, rfl⟩ := Z17 HO297.out; obtain ⟨Ao26, co26, rfl⟩ := Z17 HO300.out))
     go_ret
     exact ⟨_, Q1, Yj (Yf4 HO_5.out BK302.out) (fun _ hk => trivial), Q12⟩
    ·rw [if_neg c13] at H
     have c13b0 := Z36 c13
     clear c13
     by_cases c27 : x5_1.length < 17592186044416
     ·rw [if_pos c27] at H
      have LMc27 := Ya c27
      clear c27
      obtain ⟨y303, hy303⟩ : ∃ y_ : List Int, y_ = (x5_1 ++ [t301]) := ⟨_, rfl⟩
      replace H : (spec_foRun.l0 k1 (wrap64 (x1_1 - 1)) y303 t289 t292 t295 t298) = some r := by first | (rw [hy303]; with_reducible exact H) | (have H2_ := (Option.bind_some _ _).symm.trans H; rw [hy303]; with_reducible exact H2_) | (have H2_ := (Option.bind_some _ _).symm.trans H; with_reducible exact H2_) | with_reducible exact H | (rw [hy303]; exact H) | exact H
      have Ny303 := Ya hy303
      clear hy303
      have H' := Ya H
      clear H
      have hz28 := Y4 BK288.out
      obtain ⟨Ao29, co29, rfl⟩ := Z17 HO_289000.out
      obtain ⟨Ao30, co30, rfl⟩ := Z17 HO_289001.out
      obtain ⟨Ao31, co31, rfl⟩ := Z17 HO_289002.out
      obtain ⟨Ao32, co32, rfl⟩ := Z17 HO_289003.out
      go_wp2_with (first | ((with_reducible refine gate_callee (f := 50) rfl ?_); refine Yz 17 Try.func50 #[.agg #[.slice Ao29 x289000_1.length co29, .slice Ao30 x289001_1.length co30, .slice Ao31 x289002_1.length co31, .slice Ao32 x289003_1.length co32]] ?_; (with_reducible refine (spec_foStep.calls _ _ x289000_1 _ _ x289001_1 _ _ x289002_1 _ _ x289003_1 t289 t292 t295 t298 t301 _ (Yc (Kd.R_reads' HO_289000.out).2.2) ((Kd.R_reads' HO_289000.out).2.1) (Yc (Kd.R_reads' HO_289001.out).2.2) ((Kd.R_reads' HO_289001.out).2.1) (Yc (Kd.R_reads' HO_289002.out).2.2) ((Kd.R_reads' HO_289002.out).2.1) (Yc (Kd.R_reads' HO_289003.out).2.2) ((Kd.R_reads' HO_289003.out).2.1) A12.out).mono ?_); rintro e w33 ⟨v290, v293, v296, v299, rfl, ho0, ho1, ho2, ho3, hb⟩; refine ⟨_, rfl, ?_⟩; have HO291 := Yl (Kd.R_new' (Kd.R_new' (Kd.R_new' (Kd.R_new' ho0 (Z16 (Yr HO_5.out))) (Z16 (Yr HO_289000.out))) (Z16 (Yr HO_289001.out))) (Z16 (Yr HO_289003.out))); have HO294 := Yl (Kd.R_new' (Kd.R_new' (Kd.R_new' (Kd.R_new' ho1 (Z16 (Yr HO_5.out))) (Z16 (Yr HO_289000.out))) (Z16 (Yr HO_289001.out))) (Z16 (Yr HO_289003.out))); have HO297 := Yl (Kd.R_new' ho2 (Z16 (Yr HO_289002.out))); replace HO_289002 := Ya (Kd.R_elder' (Yr HO_289002.out) (Kd.R_base ho2) hb); have HO300 := Yl (Kd.R_new' (Kd.R_new' (Kd.R_new' (Kd.R_new' ho3 (Z16 (Yr HO_5.out))) (Z16 (Yr HO_289000.out))) (Z16 (Yr HO_289001.out))) (Z16 (Yr HO_289003.out))); replace HO_5 := Ya (Z11 (Z14 (Z14 (Z14 (Z15 (Yr HO_5.out) hb) (Kd.R_base ho0)) (Kd.R_base ho1)) (Kd.R_base ho3)) (fun _ h_ => h_.1)); replace HO_289000 := Ya (Z11 (Z14 (Z14 (Z14 (Z15 (Yr HO_289000.out) hb) (Kd.R_base ho0)) (Kd.R_base ho1)) (Kd.R_base ho3)) (fun _ h_ => h_.1)); replace HO_289001 := Ya (Z11 (Z14 (Z14 (Z14 (Z15 (Yr HO_289001.out) hb) (Kd.R_base ho0)) (Kd.R_base ho1)) (Kd.R_base ho3)) (fun _ h_ => h_.1)); replace HO_289003 := Ya (Z11 (Z14 (Z14 (Z14 (Z15 (Yr HO_289003.out) hb) (Kd.R_base ho0)) (Kd.R_base ho1)) (Kd.R_base ho3)) (fun _ h_ => h_.1)); replace BK288 := Yb BK288 hb; replace HB := Yh hb; (try clear hb ho0 ho1 ho2 ho3)) | ((with_reducible refine gate_dst (N := 7) rfl ?_); refine Yx 7 YN4 33 ?_; intro gb302 hg w34 hbox hb; replace HO_5 := Yw HO_5 hb; replace HO_289000 := Yw HO_289000 hb; replace HO_289001 := Yw HO_289001 hb; replace HO_289002 := Yw HO_289002 hb; replace HO_289003 := Yw HO_289003 hb; replace HO291 := Yw HO291 hb; replace HO294 := Yw HO294 hb; replace HO297 := Yw HO297 hb; replace HO300 := Yw HO300 hb; have BK302 := Ya hbox; have GE302 := Yg hg; replace HB := Yh hb; have NB288_302 := Yn BK288 hg; have NB302_288 := Ym BK288 hg; replace BK288 := Yb BK288 hb; clear hb hbox hg; obtain ⟨Ao35, co35, rfl⟩ := Z17 HO291.out; have hnb36 := NB302_288.out; have hnc36 := NB288_302.out; have hz37 := Y4 BK302.out; obtain ⟨Ao38, co38, rfl⟩ := Z17 HO294.out; obtain ⟨Ao39, co39, rfl⟩ := Z17 HO297.out; obtain ⟨Ao40, co40, rfl⟩ := Z17 HO300.out; have hz41 := Y4 BK288.out) | ((with_reducible refine gate_builtin (b := .append) (xs := #[.tmp 23, .tmp 25]) rfl ?_); at_builtin; refine Kd.R_append (Kd.int .i64) (w0 := w) w.heap.size rfl (.tmp 23) (.tmp 25) 24 3 (.int .i64 0) 8 rfl Try.underlying24 info3 rfl (by decide) (by omega) u5 x5_1 t301 [.int .i64 t301] (fun k_ => some k_ ≠ (.slice Ao29 x289000_1.length co29 : Value).ownBlock ∧ some k_ ≠ (.slice Ao30 x289001_1.length co30 : Value).ownBlock ∧ some k_ ≠ (.slice Ao32 x289003_1.length co32 : Value).ownBlock ∧ some k_ ≠ (.slice Ao35 t289.length co35 : Value).ownBlock ∧ some k_ ≠ (.slice Ao38 t292.length co38 : Value).ownBlock ∧ some k_ ≠ (.slice Ao40 t298.length co40 : Value).ownBlock) (fun _ => False) rfl (by first | (go_simp; done) | (go_simp; rfl)) ?aP (fun _ hk => hk.elim) ?aF ?aO ?aB ?aS ?aL ?_; (case aP => exact rfl); (case aB => exact Q0); (case aF => exact (fun k_ hk => ⟨Kd.fresh' (Z16 (Yj (Z11 (Yd4 HO_289000.out BK302.out BK288.out) (fun _ h_ => h_.1)) (fun _ h_ => h_.1))) k_ hk, Kd.fresh' (Z16 (Yj (Z11 (Yd4 HO_289001.out BK302.out BK288.out) (fun _ h_ => h_.1)) (fun _ h_ => h_.1))) k_ hk, Kd.fresh' (Z16 (Yj (Z11 (Yd4 HO_289003.out BK302.out BK288.out) (fun _ h_ => h_.1)) (fun _ h_ => h_.1))) k_ hk, Kd.fresh' (Z16 (Yj (Z11 (Yd4 HO291.out BK302.out BK288.out) (fun _ h_ => h_.1)) (fun _ h_ => h_.1))) k_ hk, Kd.fresh' (Z16 (Yj (Z11 (Yd4 HO294.out BK302.out BK288.out) (fun _ h_ => h_.1)) (fun _ h_ => h_.1))) k_ hk, Kd.fresh' (Z16 (Yj (Z11 (Yd4 HO300.out BK302.out BK288.out) (fun _ h_ => h_.1)) (fun _ h_ => h_.1))) k_ hk⟩)); (case aO => exact (Yj (Yd4 HO_5.out BK302.out BK288.out) (fun _ hk => ⟨hk.1.1.1.1.1.1, ⟨hk.1.1.1.1.1.2.1, ⟨hk.1.1.1.1.1.2.2, ⟨hk.1.1.1.1.2, ⟨hk.1.1.1.2, hk.1.1.2⟩⟩⟩⟩⟩))); (case aS => exact (Z7 Q0)); (case aL => have := LMc27.out; omega); intro v304 w42 ho hb hg hat; rw [← Ny303.out] at ho; replace HO_289000 := Ya (Kd.R_after (ok := (fun k_ => some k_ ≠ (.slice Ao30 x289001_1.length co30 : Value).ownBlock ∧ some k_ ≠ (.slice Ao32 x289003_1.length co32 : Value).ownBlock ∧ some k_ ≠ (.slice Ao35 t289.length co35 : Value).ownBlock ∧ some k_ ≠ (.slice Ao38 t292.length co38 : Value).ownBlock ∧ some k_ ≠ (.slice Ao40 t298.length co40 : Value).ownBlock)) (Yj (Yd4 HO_289000.out BK302.out BK288.out) (fun _ hk => ⟨⟨hk.1.1.1.1.1.2.1, ⟨hk.1.1.1.1.1.2.2, ⟨hk.1.1.1.1.2, ⟨hk.1.1.1.2, hk.1.1.2⟩⟩⟩⟩, hk.1.1.1.1.1.1⟩)) hg hat); replace HO_289001 := Ya (Kd.R_after (ok := (fun k_ => some k_ ≠ (.slice Ao29 x289000_1.length co29 : Value).ownBlock ∧ some k_ ≠ (.slice Ao32 x289003_1.length co32 : Value).ownBlock ∧ some k_ ≠ (.slice Ao35 t289.length co35 : Value).ownBlock ∧ some k_ ≠ (.slice Ao38 t292.length co38 : Value).ownBlock ∧ some k_ ≠ (.slice Ao40 t298.length co40 : Value).ownBlock)) (Yj (Yd4 HO_289001.out BK302.out BK288.out) (fun _ hk => ⟨⟨hk.1.1.1.1.1.2.1, ⟨hk.1.1.1.1.1.2.2, ⟨hk.1.1.1.1.2, ⟨hk.1.1.1.2, hk.1.1.2⟩⟩⟩⟩, hk.1.1.1.1.1.1⟩)) hg hat); replace HO_289002 := Ya (Kd.R_over' (Yj (Z11 (Yd4 HO_289002.out BK302.out BK288.out) (fun _ h_ => h_.1)) (fun _ h_ => h_.1)) (Kd.R_typed (Yj (Z11 (Yd4 HO_5.out BK302.out BK288.out) (fun _ h_ => h_.1)) (fun _ h_ => h_.1))) (by decide) hg); replace HO_289003 := Ya (Kd.R_after (ok := (fun k_ => some k_ ≠ (.slice Ao29 x289000_1.length co29 : Value).ownBlock ∧ some k_ ≠ (.slice Ao30 x289001_1.length co30 : Value).ownBlock ∧ some k_ ≠ (.slice Ao35 t289.length co35 : Value).ownBlock ∧ some k_ ≠ (.slice Ao38 t292.length co38 : Value).ownBlock ∧ some k_ ≠ (.slice Ao40 t298.length co40 : Value).ownBlock)) (Yj (Yd4 HO_289003.out BK302.out BK288.out) (fun _ hk => ⟨⟨hk.1.1.1.1.1.2.1, ⟨hk.1.1.1.1.1.2.2, ⟨hk.1.1.1.1.2, ⟨hk.1.1.1.2, hk.1.1.2⟩⟩⟩⟩, hk.1.1.1.1.1.1⟩)) hg hat); replace HO291 := Ya (Kd.R_after (ok := (fun k_ => some k_ ≠ (.slice Ao29 x289000_1.length co29 : Value).ownBlock ∧ some k_ ≠ (.slice Ao30 x289001_1.length co30 : Value).ownBlock ∧ some k_ ≠ (.slice Ao32 x289003_1.length co32 : Value).ownBlock ∧ some k_ ≠ (.slice Ao38 t292.length co38 : Value).ownBlock ∧ some k_ ≠ (.slice Ao40 t298.length co40 : Value).ownBlock)) (Yj (Yd4 HO291.out BK302.out BK288.out) (fun _ hk => ⟨⟨hk.1.1.1.1.2, ⟨hk.1.1.1.2, ⟨hk.1.1.2, ⟨hk.1.1.1.1.1.1.1, hk.1.1.1.1.1.1.2⟩⟩⟩⟩, hk.1.1.1.1.1.2⟩)) hg hat); replace HO294 := Ya (Kd.R_after (ok := (fun k_ => some k_ ≠ (.slice Ao29 x289000_1.length co29 : Value).ownBlock ∧ some k_ ≠ (.slice Ao30 x289001_1.length co30 : Value).ownBlock ∧ some k_ ≠ (.slice Ao32 x289003_1.length co32 : Value).ownBlock ∧ some k_ ≠ (.slice Ao35 t289.length co35 : Value).ownBlock ∧ some k_ ≠ (.slice Ao40 t298.length co40 : Value).ownBlock)) (Yj (Yd4 HO294.out BK302.out BK288.out) (fun _ hk => ⟨⟨hk.1.1.1.1.2, ⟨hk.1.1.1.2, ⟨hk.1.1.2, ⟨hk.1.1.1.1.1.1.1, hk.1.1.1.1.1.1.2⟩⟩⟩⟩, hk.1.1.1.1.1.2⟩)) hg hat); replace HO297 := Ya (Kd.R_over' (Yj (Z11 (Yd4 HO297.out BK302.out BK288.out) (fun _ h_ => h_.1)) (fun _ h_ => h_.1)) (Kd.R_typed (Yj (Z11 (Yd4 HO_5.out BK302.out BK288.out) (fun _ h_ => h_.1)) (fun _ h_ => h_.1))) (by decide) hg); replace HO300 := Ya (Kd.R_after (ok := (fun k_ => some k_ ≠ (.slice Ao29 x289000_1.length co29 : Value).ownBlock ∧ some k_ ≠ (.slice Ao30 x289001_1.length co30 : Value).ownBlock ∧ some k_ ≠ (.slice Ao32 x289003_1.length co32 : Value).ownBlock ∧ some k_ ≠ (.slice Ao35 t289.length co35 : Value).ownBlock ∧ some k_ ≠ (.slice Ao38 t292.length co38 : Value).ownBlock)) (Yj (Yd4 HO300.out BK302.out BK288.out) (fun _ hk => ⟨⟨hk.1.1.1.1.2, ⟨hk.1.1.1.2, ⟨hk.1.1.2, ⟨hk.1.1.1.1.1.1.1, hk.1.1.1.1.1.1.2⟩⟩⟩⟩, hk.1.1.1.1.1.2⟩)) hg hat); replace BK288 := Ya (blk_grown (g := gb288) (o := .cells #[.slice Ao35 t289.length co35, .slice Ao38 t292.length co38, .slice Ao39 t295.length co39, .slice Ao40 t298.length co40] 33 (0, 0)) (Yk (Yv4 (Yo4 BK288.out NB288_302.out))) hg (Kd.R_ne HO_5.out BK288.out (by decide))); replace BK302 := Ya (blk_grown (g := gb302) (o := .cells #[.slice Ao35 t289.length co35, .slice Ao38 t292.length co38, .slice Ao39 t295.length co39, .slice Ao40 t298.length co40] 33 (0, 0)) (Yk (Yo4 (Yv4 BK302.out) NB302_288.out)) hg (Kd.R_ne HO_5.out BK302.out (by decide))); replace HB := Ya hb; have HO305 := Ya ho; clear HO_5; clear ho hb hg hat))
      go_roundg k1
      case measure => have := HK1.out; omega
      case rel => exact ⟨(wrap64 (x1_1 - 1)), (y303), (t289), (t292), (t295), (t298), (.slice Ao35 t289.length co35), (.slice Ao38 t292.length co38), (.slice Ao39 t295.length co39), (.slice Ao40 t298.length co40), Q8, H', ⟨Q23⟩, ⟨Yj HO305.out (fun _ hk => ⟨hk.2.2.2.1, ⟨hk.2.2.2.2.1, hk.2.2.2.2.2⟩⟩)⟩, ⟨Yj HO291.out (fun _ hk => ⟨hk.2, ⟨hk.1.2.2.2.1, hk.1.2.2.2.2⟩⟩)⟩, ⟨Yj HO294.out (fun _ hk => ⟨hk.2, ⟨hk.1.2.2.2.1, hk.1.2.2.2.2⟩⟩)⟩, ⟨Yj HO297.out (fun _ hk => trivial)⟩, ⟨Yj HO300.out (fun _ hk => ⟨hk.2, ⟨hk.1.2.2.2.1, hk.1.2.2.2.2⟩⟩)⟩, ⟨by (with_reducible repeat (first | refine Z24 ?_ _ | refine Z25 ?_ | refine Z26 ?_ _)); exact BK288.out⟩, ⟨Q12⟩⟩
     ·rw [if_neg c27] at H
      exact absurd H (by simp)
   ·rw [if_neg c11] at H
    have c11b0 : decide (0 < x1_1) = false := Z36 c11
    clear c11
    obtain rfl := Option.some.inj H
    go_wp2
    go_ret
    exact ⟨_, Q1, Yj HO_5.out (fun _ hk => trivial), Q12⟩
def spec_RunFocus.f (k : Nat) (l0 : List Int) (a1 : Int) : Option (List Int × Bool) := (spec_foBases.f k l0).bind fun t306 => (if t306 = true then ((spec_l1In.f a1 0 5040).bind fun t307 => (if t307 = true then ((spec_foRun.f k l0 a1).bind fun t308 => (some (t308, true))) else (some (([] : List Int), false)))) else (some (([] : List Int), false)))
theorem spec_RunFocus.mono : ∀ a0 a1 k, LeO (spec_RunFocus.f k a0 a1) (spec_RunFocus.f (k + 1) a0 a1) := by
 intro a0 a1 k
 unfold spec_RunFocus.f
 repeat' first
   | (with_reducible exact spec_foBases.mono _ _)
   | (with_reducible exact spec_foRun.mono _ _ _)
   | (with_reducible exact LeO.refl _)
   | (with_reducible exact LeO.none _)
   | (with_reducible refine LeO.ite ?_ ?_)
   | (with_reducible refine LeO.bind ?_ (fun _ => ?_))
   | exact spec_foBases.mono _ _
   | exact spec_foRun.mono _ _ _
   | exact LeO.none _
   | refine LeO.ite ?_ ?_
   | refine LeO.bind ?_ (fun _ => ?_)
set_option maxHeartbeats 8000000 in
set_option maxRecDepth 100000 in
theorem spec_RunFocus.calls (k : Nat) (A0 : Option Addr) (c0 : Nat) (l0 : List Int) (a1 : Int) (r1 : List Int) (r2 : Bool) (w : World) (hr0 : Kd.C (Kd.int .i64) w A0 l0.length l0) (hc0 : l0.length ≤ c0) (h : spec_RunFocus.f k l0 a1 = some (r1, r2)) :
  Calls Try.prog 8 #[.slice A0 l0.length c0, .int .i64 a1] w fun e w' => ∃ v0_ : Value, e = .returned (.tuple #[v0_, .bool r2]) ∧ Kd.R (Kd.int .i64) 3 w' w.heap.size (fun _ => True) v0_ r1 ∧ Below w.heap.size w w' := by
 have HR0 := Ya hr0
 have HC0 := Ya hc0
 clear hr0 hc0
 have HB := Ya (Below.refl w.heap.size w)
 have H : ((spec_foBases.f k l0).bind fun t306 => (if t306 = true then ((spec_l1In.f a1 0 5040).bind fun t307 => (if t307 = true then ((spec_foRun.f k l0 a1).bind fun t308 => (some (t308, true))) else (some (([] : List Int), false)))) else (some (([] : List Int), false)))) = some (r1, r2) := h
 clear h
 replace H := Z35.mp H
 obtain ⟨t306, A30, H⟩ := H
 replace H : (if t306 = true then ((spec_l1In.f a1 0 5040).bind fun t307 => (if t307 = true then ((spec_foRun.f k l0 a1).bind fun t308 => (some (t308, true))) else (some (([] : List Int), false)))) else (some (([] : List Int), false))) = some (r1, r2) := H
 have A3 := Ya A30
 clear A30
 by_cases c4 : t306 = true
 ·subst c4
  have H1 : ((spec_l1In.f a1 0 5040).bind fun t307 => (if t307 = true then ((spec_foRun.f k l0 a1).bind fun t308 => (some (t308, true))) else (some (([] : List Int), false)))) = some (r1, r2) := by rw [if_pos rfl] at H; exact H
  clear H
  have H := H1
  clear H1
  replace H := Z35.mp H
  obtain ⟨t307, A50, H⟩ := H
  replace H : (if t307 = true then ((spec_foRun.f k l0 a1).bind fun t308 => (some (t308, true))) else (some (([] : List Int), false))) = some (r1, r2) := H
  have A5 := Ya A50
  clear A50
  by_cases c6 : t307 = true
  ·subst c6
   have H1 : ((spec_foRun.f k l0 a1).bind fun t308 => (some (t308, true))) = some (r1, r2) := by rw [if_pos rfl] at H; exact H
   clear H
   have H := H1
   clear H1
   replace H := Z35.mp H
   obtain ⟨t308, A70, H⟩ := H
   replace H : (some (t308, true)) = some (r1, r2) := H
   have A7 := Ya A70
   clear A70
   simp only [Option.some.injEq, Prod.mk.injEq] at H
   obtain ⟨rfl, rfl⟩ := H
   go_enter Try.func8, Try.ntmps8
   go_wp2_with (first | ((with_reducible refine gate_callee (f := 32) rfl ?_); refine Yz 7 Try.func32 #[.slice A0 l0.length c0] ?_; (with_reducible refine (spec_foBases.calls k _ _ l0 true _ (Yc HR0.out) HC0.out A3.out).mono ?_); rintro e w' ⟨rfl, ⟨nd, rfl⟩⟩; refine ⟨_, rfl, ?_⟩) | (go_at_call 33; (with_reducible refine (spec_l1In.calls a1 0 5040 true _ A5.out).mono ?_); rintro e w' ⟨rfl, ⟨nd, rfl⟩⟩) | ((with_reducible refine gate_callee (f := 34) rfl ?_); refine Yz 16 Try.func34 #[.slice A0 l0.length c0, .int .i64 a1] ?_; (with_reducible refine (spec_foRun.calls k _ _ l0 a1 t308 _ (Yc HR0.out) HC0.out A7.out).mono ?_); rintro e w8 ⟨v309, rfl, ho0, hb⟩; refine ⟨_, rfl, ?_⟩; have HO310 := Yl ho0; replace HB := Yh hb; (try clear hb ho0)))
   go_ret2
   exact ⟨_, Q1, by (with_reducible repeat (first | apply Z8 | apply Z9 | apply Z10)); exact HO310.out, Q12⟩
  ·replace c6 := Bool.eq_false_iff.mpr c6
   subst c6
   have H1 : (some (([] : List Int), false)) = some (r1, r2) := by rw [if_neg (show ¬ (false = true) by decide)] at H; exact H
   clear H
   have H := H1
   clear H1
   simp only [Option.some.injEq, Prod.mk.injEq] at H
   obtain ⟨rfl, rfl⟩ := H
   go_enter Try.func8, Try.ntmps8
   go_wp2_with (first | ((with_reducible refine gate_callee (f := 32) rfl ?_); refine Yz 7 Try.func32 #[.slice A0 l0.length c0] ?_; (with_reducible refine (spec_foBases.calls k _ _ l0 true _ (Yc HR0.out) HC0.out A3.out).mono ?_); rintro e w' ⟨rfl, ⟨nd, rfl⟩⟩; refine ⟨_, rfl, ?_⟩) | (go_at_call 33; (with_reducible refine (spec_l1In.calls a1 0 5040 false _ A5.out).mono ?_); rintro e w' ⟨rfl, ⟨nd, rfl⟩⟩))
   go_ret2
   exact ⟨_, Q1, Q4, Q12⟩
 ·replace c4 := Bool.eq_false_iff.mpr c4
  subst c4
  have H1 : (some (([] : List Int), false)) = some (r1, r2) := by rw [if_neg (show ¬ (false = true) by decide)] at H; exact H
  clear H
  have H := H1
  clear H1
  simp only [Option.some.injEq, Prod.mk.injEq] at H
  obtain ⟨rfl, rfl⟩ := H
  go_enter Try.func8, Try.ntmps8
  go_wp2_with (first | ((with_reducible refine gate_callee (f := 32) rfl ?_); refine Yz 7 Try.func32 #[.slice A0 l0.length c0] ?_; (with_reducible refine (spec_foBases.calls k _ _ l0 false _ (Yc HR0.out) HC0.out A3.out).mono ?_); rintro e w' ⟨rfl, ⟨nd, rfl⟩⟩; refine ⟨_, rfl, ?_⟩))
  go_ret2
  exact ⟨_, Q1, Q4, Q12⟩
def laws_uSame.l0 : Nat → List Int → List Int → Int → Int → Option (Bool)
 | 0, _, _, _, _ => none
 | k + 1, x0, x1, x12, x13 => if x13 < x12 then (if 0 ≤ x13 then (if x13 < (x0.length : Int) then (if x13 < (x1.length : Int) then (if (rd x0 x13) = (rd x1 x13) then (laws_uSame.l0 k x0 x1 x12 (wrap64 (x13 + 1))) else (some false)) else (none)) else (none)) else (none)) else (some true)
def laws_uSame.f (k : Nat) (l0 : List Int) (l1 : List Int) : Option (Bool) := if (l0.length : Int) = (l1.length : Int) then (laws_uSame.l0 k l0 l1 (l0.length : Int) 0) else (some false)
theorem laws_uSame.mono_l : ∀ k, (∀ y0 y1 y2 y3, LeO (laws_uSame.l0 k y0 y1 y2 y3) (laws_uSame.l0 (k + 1) y0 y1 y2 y3))
 | 0 => fun _ _ _ _ r h => by simp [laws_uSame.l0] at h
 | k + 1 => by
  have ih0 := laws_uSame.mono_l k
  ·intro y0 y1 y2 y3
   unfold laws_uSame.l0
   repeat' first
   | (with_reducible exact ih0 _ _ _ _)
   | (with_reducible exact LeO.refl _)
   | (with_reducible exact LeO.none _)
   | (with_reducible refine LeO.ite ?_ ?_)
   | (with_reducible refine LeO.bind ?_ (fun _ => ?_))
   | exact ih0 _ _ _ _
   | exact LeO.none _
   | refine LeO.ite ?_ ?_
   | refine LeO.bind ?_ (fun _ => ?_)
theorem laws_uSame.mono : ∀ a0 a1 k, LeO (laws_uSame.f k a0 a1) (laws_uSame.f (k + 1) a0 a1) := by
 intro a0 a1 k
 have ih0 := laws_uSame.mono_l k
 unfold laws_uSame.f
 repeat' first
   | (with_reducible exact ih0 _ _ _ _)
   | (with_reducible exact LeO.refl _)
   | (with_reducible exact LeO.none _)
   | (with_reducible refine LeO.ite ?_ ?_)
   | (with_reducible refine LeO.bind ?_ (fun _ => ?_))
   | exact ih0 _ _ _ _
   | exact LeO.none _
   | refine LeO.ite ?_ ?_
   | refine LeO.bind ?_ (fun _ => ?_)
set_option maxHeartbeats 8000000 in
set_option maxRecDepth 100000 in
theorem laws_uSame.calls (k : Nat) (A0 : Option Addr) (c0 : Nat) (l0 : List Int) (A1 : Option Addr) (c1 : Nat) (l1 : List Int) (r : Bool) (w : World) (hr0 : Kd.C (Kd.int .i64) w A0 l0.length l0) (hc0 : l0.length ≤ c0) (hr1 : Kd.C (Kd.int .i64) w A1 l1.length l1) (hc1 : l1.length ≤ c1) (h : laws_uSame.f k l0 l1 = some r) :
  Calls Try.prog 9 #[.slice A0 l0.length c0, .slice A1 l1.length c1] w fun e w' => e = .returned (.bool r) ∧ Drawn0 w w' := by
 have HR0 := Ya hr0
 have HC0 := Ya hc0
 clear hr0 hc0
 have HR1 := Ya hr1
 have HC1 := Ya hc1
 clear hr1 hc1
 have H : (if (l0.length : Int) = (l1.length : Int) then (laws_uSame.l0 k l0 l1 (l0.length : Int) 0) else (some false)) = some r := h
 clear h
 by_cases c3 : (l0.length : Int) = (l1.length : Int)
 ·rw [if_pos c3] at H
  have c3b0 : ((l0.length : Int) == (l1.length : Int)) = true := beq_iff_eq.mpr c3
  have c3b1 : ((l0.length : Int) != (l1.length : Int)) = false := bne_eq_false_iff_eq.mpr c3
  have c3b2 : (l0.length == l1.length) = true := by first | simpa using c3 | (simp at c3 ⊢; omega)
  clear c3
  have H' := Ya H
  clear H
  go_enter Try.func9, Try.ntmps9
  go_wp2
  repeat (go_quiet (fail); try go_wp2)
  go_loopg [13] k (fun kq v13 w' => ∃ (x13_1 : Int), v13 = .int .i64 x13_1 ∧ Aside0 (laws_uSame.l0 kq l0 l1 (l0.length : Int) x13_1 = some r) ∧ Aside0 (kq ≤ k) ∧ Drawn0 w w')
  case atStart => exact ⟨(0), Q8, H', ⟨Nat.le_refl _⟩, Q11⟩
  case round =>
   clear H'
   try clear c1
   try clear p2
   try clear c3
   try clear c3b0
   try clear c3b1
   try clear c3b2
   obtain ⟨x13_1, rfl, HA, HK1, ⟨m1, rfl⟩⟩ := hrel
   cases gk with
   | zero => exact absurd HA.out (by simp [laws_uSame.l0])
   | succ k1 =>
    have H := HA.out
    clear HA
    simp only [laws_uSame.l0] at H
    by_cases c4 : x13_1 < (l0.length : Int)
    ·rw [if_pos c4] at H
     have c4b0 := Z37 c4
     clear c4
     by_cases c5 : 0 ≤ x13_1
     ·rw [if_pos c5] at H
      have c5b0 := Z37 c5
      clear c5
      by_cases c6 : x13_1 < (l0.length : Int)
      ·rw [if_pos c6] at H
       have c6b0 := Z37 c6
       clear c6
       by_cases c7 : x13_1 < (l1.length : Int)
       ·rw [if_pos c7] at H
        have c7b0 := Z37 c7
        clear c7
        by_cases c8 : (rd l0 x13_1) = (rd l1 x13_1)
        ·rw [if_pos c8] at H
         have c8b0 : ((rd l0 x13_1) == (rd l1 x13_1)) = true := beq_iff_eq.mpr c8
         have c8b1 : ((rd l0 x13_1) != (rd l1 x13_1)) = false := bne_eq_false_iff_eq.mpr c8
         clear c8
         have H' := Ya H
         clear H
         have p311 : 0 ≤ (x13_1 : Int) := Z29 Q3
         have q311 : x13_1 < (l0.length : Int) := Z29 Q3
         obtain ⟨ad311, e311, hx311_0⟩ := Kd.at_int HR0.out x13_1 p311 q311
         cases e311
         replace p311 := eq_true p311
         replace q311 := eq_true q311
         have p312 : 0 ≤ (x13_1 : Int) := Z29 Q3
         have q312 : x13_1 < (l1.length : Int) := Z29 Q3
         obtain ⟨ad312, e312, hx312_0⟩ := Kd.at_int HR1.out x13_1 p312 q312
         cases e312
         replace p312 := eq_true p312
         replace q312 := eq_true q312
         go_wp2
         repeat (go_quiet (fail); try go_wp2)
         go_roundg k1
         case measure => have := HK1.out; omega
         case rel => exact ⟨(wrap64 (x13_1 + 1)), Q8, H', ⟨Q23⟩, Q11⟩
        ·rw [if_neg c8] at H
         have c8b0 : ((rd l0 x13_1) == (rd l1 x13_1)) = false := beq_eq_false_iff_ne.mpr c8
         have c8b1 : ((rd l0 x13_1) != (rd l1 x13_1)) = true := bne_iff_ne.mpr c8
         obtain rfl := Option.some.inj H
         have p311 : 0 ≤ (x13_1 : Int) := Z29 Q3
         have q311 : x13_1 < (l0.length : Int) := Z29 Q3
         obtain ⟨ad311, e311, hx311_0⟩ := Kd.at_int HR0.out x13_1 p311 q311
         cases e311
         replace p311 := eq_true p311
         replace q311 := eq_true q311
         have p312 : 0 ≤ (x13_1 : Int) := Z29 Q3
         have q312 : x13_1 < (l1.length : Int) := Z29 Q3
         obtain ⟨ad312, e312, hx312_0⟩ := Kd.at_int HR1.out x13_1 p312 q312
         cases e312
         replace p312 := eq_true p312
         replace q312 := eq_true q312
         go_wp2
         repeat (go_quiet (fail); try go_wp2)
         go_ret
         exact ⟨Q15, Q11⟩
       ·rw [if_neg c7] at H
        exact absurd H (by simp)
      ·rw [if_neg c6] at H
       exact absurd H (by simp)
     ·rw [if_neg c5] at H
      exact absurd H (by simp)
    ·rw [if_neg c4] at H
     have c4b0 := Z36 c4
     clear c4
     obtain rfl := Option.some.inj H
     go_wp2
     repeat (go_quiet (fail); try go_wp2)
     go_ret
     exact ⟨Q15, Q11⟩
 ·rw [if_neg c3] at H
  have c3b0 : ((l0.length : Int) == (l1.length : Int)) = false := beq_eq_false_iff_ne.mpr c3
  have c3b1 : ((l0.length : Int) != (l1.length : Int)) = true := bne_iff_ne.mpr c3
  have c3b2 : (l0.length == l1.length) = false := by first | simpa using c3 | (simp at c3 ⊢; omega)
  obtain rfl := Option.some.inj H
  go_enter Try.func9, Try.ntmps9
  go_wp2
  repeat (go_quiet (fail); try go_wp2)
  go_ret
  exact ⟨Q15, Q11⟩
def impl_counted.l0 : Nat → List Int → List Int → Int → Int → Option (List Int)
 | 0, _, _, _, _ => none
 | k + 1, x5, x10, x11, x12 => if x12 < x11 then (if 0 ≤ x12 then (if x12 < (x10.length : Int) then (if 0 ≤ (rd x10 x12) then (if (rd x10 x12) < (x5.length : Int) then (impl_counted.l0 k (x5.set ((rd x10 x12) : Int).toNat (wrap64 ((rd x5 (rd x10 x12)) + 1))) x10 x11 (wrap64 (x12 + 1))) else (none)) else (none)) else (none)) else (none)) else (some x5)
def impl_counted.f (k : Nat) (a0 : Int) (l1 : List Int) : Option (List Int) := if 0 ≤ a0 then (if (a0 : Int).toNat ≤ 35184372088832 then (impl_counted.l0 k (List.replicate (a0 : Int).toNat 0) l1 (l1.length : Int) 0) else (none)) else (none)
theorem impl_counted.mono_l : ∀ k, (∀ y0 y1 y2 y3, LeO (impl_counted.l0 k y0 y1 y2 y3) (impl_counted.l0 (k + 1) y0 y1 y2 y3))
 | 0 => fun _ _ _ _ r h => by simp [impl_counted.l0] at h
 | k + 1 => by
  have ih0 := impl_counted.mono_l k
  ·intro y0 y1 y2 y3
   unfold impl_counted.l0
   repeat' first
   | (with_reducible exact ih0 _ _ _ _)
   | (with_reducible exact LeO.refl _)
   | (with_reducible exact LeO.none _)
   | (with_reducible refine LeO.ite ?_ ?_)
   | (with_reducible refine LeO.bind ?_ (fun _ => ?_))
   | exact ih0 _ _ _ _
   | exact LeO.none _
   | refine LeO.ite ?_ ?_
   | refine LeO.bind ?_ (fun _ => ?_)
theorem impl_counted.mono : ∀ a0 a1 k, LeO (impl_counted.f k a0 a1) (impl_counted.f (k + 1) a0 a1) := by
 intro a0 a1 k
 have ih0 := impl_counted.mono_l k
 unfold impl_counted.f
 repeat' first
   | (with_reducible exact ih0 _ _ _ _)
   | (with_reducible exact LeO.refl _)
   | (with_reducible exact LeO.none _)
   | (with_reducible refine LeO.ite ?_ ?_)
   | (with_reducible refine LeO.bind ?_ (fun _ => ?_))
   | exact ih0 _ _ _ _
   | exact LeO.none _
   | refine LeO.ite ?_ ?_
   | refine LeO.bind ?_ (fun _ => ?_)
set_option maxHeartbeats 8000000 in
set_option maxRecDepth 100000 in
theorem impl_counted.calls (k : Nat) (a0 : Int) (A1 : Option Addr) (c1 : Nat) (l1 : List Int) (r : List Int) (w : World) (hr1 : Kd.C (Kd.int .i64) w A1 l1.length l1) (hc1 : l1.length ≤ c1) (h : impl_counted.f k a0 l1 = some r) :
  Calls Try.prog 35 #[.int .i64 a0, .slice A1 l1.length c1] w fun e w' => ∃ v0_ : Value, e = .returned (v0_) ∧ Kd.R (Kd.int .i64) 3 w' w.heap.size (fun _ => True) v0_ r ∧ Below w.heap.size w w' := by
 have HR1 := Ya hr1
 have HC1 := Ya hc1
 clear hr1 hc1
 have HB := Ya (Below.refl w.heap.size w)
 have H : (if 0 ≤ a0 then (if (a0 : Int).toNat ≤ 35184372088832 then (impl_counted.l0 k (List.replicate (a0 : Int).toNat 0) l1 (l1.length : Int) 0) else (none)) else (none)) = some r := h
 clear h
 by_cases c3 : 0 ≤ a0
 ·rw [if_pos c3] at H
  have c3b0 := eq_true c3
  have c3b1 := Z37 c3
  clear c3
  by_cases c4 : (a0 : Int).toNat ≤ 35184372088832
  ·rw [if_pos c4] at H
   have c4b0 := eq_true c4
   have c4b1 := Z37 c4
   clear c4
   obtain ⟨y313, hy313⟩ : ∃ y_ : List Int, y_ = (List.replicate (a0 : Int).toNat 0) := ⟨_, rfl⟩
   replace H : (impl_counted.l0 k y313 l1 (l1.length : Int) 0) = some r := by first | (rw [hy313]; with_reducible exact H) | (have H2_ := (Option.bind_some _ _).symm.trans H; rw [hy313]; with_reducible exact H2_) | (have H2_ := (Option.bind_some _ _).symm.trans H; with_reducible exact H2_) | with_reducible exact H | (rw [hy313]; exact H) | exact H
   have Ny313 := Ya hy313
   clear hy313
   have H' := Ya H
   clear H
   go_enter Try.func35, Try.ntmps35
   go_wp2_with (first | ((with_reducible refine gate_dst (N := 9) rfl ?_); refine Kd.R_make (Kd.int .i64) _ 3 rfl (N := 9) rfl 24 _ _ rfl a0 rfl rfl Try.underlying24 (.int .i64 0) 8 info3 rfl (by decide) (by omega) 0 (ok := fun _ => True) (okp := fun _ => True) rfl (fun _ hk => hk) trivial (Z29 Q3) (Nat.le_trans (Nat.mul_le_mul_right _ (Z29 Q3 : a0.toNat ≤ 35184372088832)) (by omega)) (Below.refl _ _) (Nat.le_refl _) ?_; intro v314 w5 ho6 hb hg_ hnew_; clear hg_ hnew_; (first | rw [← Ny313.out] at ho6 | (simp only [Int.reduceToNat] at ho6; rw [← Ny313.out] at ho6)); have HO315 := Yl ho6; replace HB := Yh hb; clear hb ho6))
   go_loopg [12] k (fun kq v12 w' => ∃ (x5_1 : List Int) (x12_1 : Int), v12 = .int .i64 x12_1 ∧ Aside0 (impl_counted.l0 kq x5_1 l1 (l1.length : Int) x12_1 = some r) ∧ Aside0 (kq ≤ k) ∧ Aside0 (Kd.R (Kd.int .i64) 3 w' w.heap.size (fun _ => True) v314 x5_1) ∧ Aside0 (Below w.heap.size w w'))
   case atStart => exact ⟨(y313), (0), Q8, H', ⟨Nat.le_refl _⟩, ⟨by (with_reducible repeat (first | apply Z8 | apply Z9 | apply Z10)); exact HO315.out⟩, ⟨Q12⟩⟩
   case round =>
    clear H'
    try clear c1
    try clear p2
    try clear c3
    try clear c3b0
    try clear c3b1
    try clear c4
    try clear c4b0
    try clear c4b1
    obtain ⟨x5_1, x12_1, rfl, HA, HK1, HO_5, HB⟩ := hrel
    cases gk with
    | zero => exact absurd HA.out (by simp [impl_counted.l0])
    | succ k1 =>
     have H := HA.out
     clear HA
     simp only [impl_counted.l0] at H
     by_cases c7 : x12_1 < (l1.length : Int)
     ·rw [if_pos c7] at H
      have c7b0 := Z37 c7
      clear c7
      by_cases c8 : 0 ≤ x12_1
      ·rw [if_pos c8] at H
       have c8b0 := Z37 c8
       clear c8
       by_cases c9 : x12_1 < (l1.length : Int)
       ·rw [if_pos c9] at H
        have c9b0 := Z37 c9
        clear c9
        by_cases c10 : 0 ≤ (rd l1 x12_1)
        ·rw [if_pos c10] at H
         have c10b0 := Z37 c10
         clear c10
         by_cases c11 : (rd l1 x12_1) < (x5_1.length : Int)
         ·rw [if_pos c11] at H
          have c11b0 := Z37 c11
          clear c11
          obtain ⟨y318, hy318⟩ : ∃ y_ : List Int, y_ = (x5_1.set ((rd l1 x12_1) : Int).toNat (wrap64 ((rd x5_1 (rd l1 x12_1)) + 1))) := ⟨_, rfl⟩
          replace H : (impl_counted.l0 k1 y318 l1 (l1.length : Int) (wrap64 (x12_1 + 1))) = some r := by first | (rw [hy318]; with_reducible exact H) | (have H2_ := (Option.bind_some _ _).symm.trans H; rw [hy318]; with_reducible exact H2_) | (have H2_ := (Option.bind_some _ _).symm.trans H; with_reducible exact H2_) | with_reducible exact H | (rw [hy318]; exact H) | exact H
          have Ny318 := Ya hy318
          clear hy318
          have H' := Ya H
          clear H
          have p316 : 0 ≤ (x12_1 : Int) := Z29 Q3
          have q316 : x12_1 < (l1.length : Int) := Z29 Q3
          obtain ⟨ad316, e316, hx316_0⟩ := Kd.at_int HR1.out x12_1 p316 q316
          cases e316
          try replace hx316_0 := (HB.out.cell (World.block_lt_of_cell? w _ hx316_0)).trans hx316_0
          replace p316 := eq_true p316
          replace q316 := eq_true q316
          obtain ⟨Ao13, co13, rfl⟩ := Z17 HO_5.out
          have p317 : 0 ≤ ((rd l1 x12_1) : Int) := Z29 Q3
          have q317 : (rd l1 x12_1) < (x5_1.length : Int) := Z29 Q3
          obtain ⟨ad317, e317, hx317_0⟩ := Kd.at_int (Kd.R_reads' HO_5.out).2.2 (rd l1 x12_1) p317 q317
          cases e317
          replace p317 := eq_true p317
          replace q317 := eq_true q317
          have p12 : 0 ≤ ((rd l1 x12_1) : Int) := Z29 Q3
          have q12 : ((rd l1 x12_1) : Int) < ((x5_1.length : Int) : Int) := Z29 Q3
          obtain ⟨go12, co12, eo12, gb12, gl12, cl12, HG12⟩ := Kd.R_form HO_5.out (by omega)
          (first | cases eo12 | (injection eo12 with ea_ en_ ec_; (first | subst ea_ | (injection ea_ with ea_; subst ea_)); subst ec_; clear en_))
          have GB12 := Ya gb12
          have GG12 := Ya HG12
          clear gb12 gl12 HG12
          (first | simp only [add_plain] at hx317_0 | skip)
          obtain ⟨hx12_0, hf12_0⟩ := Kd.R_celln 0 HO_5.out ((rd l1 x12_1) : Int) p12 q12
          replace p12 := eq_true p12
          replace q12 := eq_true q12
          have HP14 := Kd.R_putg HO_5.out ((rd l1 x12_1) : Int) (wrap64 ((rd x5_1 (rd l1 x12_1)) + 1))
          go_wp2_with (first | ((with_reducible refine gate_store (t := 3) (p := 21) rfl ?_); refine store_event (t := 3) (p := 21) (v := ?vo_w15) (w1 := (wr.setCell ⟨go12, ((rd l1 x12_1) : Int).toNat, none⟩ (.int .i64 (wrap64 ((rd x5_1 (rd l1 x12_1)) + 1))))) ?hg ?ho ?hn ?hr ?_; (case ho => rfl); (case hg => rfl); (case hn => rfl); (case hr => first | (go_simp; done) | (go_simp; rfl)); intro w15 hw; have hg : wr.grownBy w15 (some go12) := (by rw [hw]; exact HP14.2); have hp_ : Kd.R (Kd.int .i64) 3 w15 w.heap.size (fun _ => True) (.slice (some ⟨go12, 0, none⟩) x5_1.length co13) y318 := (by rw [hw, Ny318.out]; exact HP14.1); clear HP14; replace HO_5 := Ya hp_; replace HB := Ya ((by rw [hw]; exact Z6 (HB.out) GB12.out : Below w.heap.size w w15)); clear hg hw hp_))
          go_roundg k1
          case measure => have := HK1.out; omega
          case rel => exact ⟨(y318), (wrap64 (x12_1 + 1)), Q8, H', ⟨Q23⟩, ⟨Q16⟩, ⟨Q12⟩⟩
         ·rw [if_neg c11] at H
          exact absurd H (by simp)
        ·rw [if_neg c10] at H
         exact absurd H (by simp)
       ·rw [if_neg c9] at H
        exact absurd H (by simp)
      ·rw [if_neg c8] at H
       exact absurd H (by simp)
     ·rw [if_neg c7] at H
      have c7b0 := Z36 c7
      clear c7
      obtain rfl := Option.some.inj H
      go_wp2
      go_ret
      exact ⟨_, Q1, Q16, Q12⟩
  ·rw [if_neg c4] at H
   exact absurd H (by simp)
 ·rw [if_neg c3] at H
  exact absurd H (by simp)
def impl_CountTurns.f (k : Nat) (l0 : List Int) : Option (List Int × Bool) := (impl_areFocusBases.f k l0).bind fun t319 => (if t319 = true then ((impl_runFocus.f k l0 5040).bind fun t320 => ((impl_counted.f k (l0.length : Int) t320).bind fun t323 => (some (t323, true)))) else (some (([] : List Int), false)))
theorem impl_CountTurns.mono : ∀ a0 k, LeO (impl_CountTurns.f k a0) (impl_CountTurns.f (k + 1) a0) := by
 intro a0 k
 unfold impl_CountTurns.f
 repeat' first
   | (with_reducible exact impl_areFocusBases.mono _ _)
   | (with_reducible exact impl_counted.mono _ _ _)
   | (with_reducible exact impl_runFocus.mono _ _ _)
   | (with_reducible exact LeO.refl _)
   | (with_reducible exact LeO.none _)
   | (with_reducible refine LeO.ite ?_ ?_)
   | (with_reducible refine LeO.bind ?_ (fun _ => ?_))
   | exact impl_areFocusBases.mono _ _
   | exact impl_counted.mono _ _ _
   | exact impl_runFocus.mono _ _ _
   | exact LeO.none _
   | refine LeO.ite ?_ ?_
   | refine LeO.bind ?_ (fun _ => ?_)
set_option maxHeartbeats 8000000 in
set_option maxRecDepth 100000 in
theorem impl_CountTurns.calls (k : Nat) (A0 : Option Addr) (c0 : Nat) (l0 : List Int) (r1 : List Int) (r2 : Bool) (w : World) (hr0 : Kd.C (Kd.int .i64) w A0 l0.length l0) (hc0 : l0.length ≤ c0) (h : impl_CountTurns.f k l0 = some (r1, r2)) :
  Calls Try.prog 10 #[.slice A0 l0.length c0] w fun e w' => ∃ v0_ : Value, e = .returned (.tuple #[v0_, .bool r2]) ∧ Kd.R (Kd.int .i64) 3 w' w.heap.size (fun _ => True) v0_ r1 ∧ Below w.heap.size w w' := by
 have HR0 := Ya hr0
 have HC0 := Ya hc0
 clear hr0 hc0
 have HB := Ya (Below.refl w.heap.size w)
 have H : ((impl_areFocusBases.f k l0).bind fun t319 => (if t319 = true then ((impl_runFocus.f k l0 5040).bind fun t320 => ((impl_counted.f k (l0.length : Int) t320).bind fun t323 => (some (t323, true)))) else (some (([] : List Int), false)))) = some (r1, r2) := h
 clear h
 replace H := Z35.mp H
 obtain ⟨t319, A20, H⟩ := H
 replace H : (if t319 = true then ((impl_runFocus.f k l0 5040).bind fun t320 => ((impl_counted.f k (l0.length : Int) t320).bind fun t323 => (some (t323, true)))) else (some (([] : List Int), false))) = some (r1, r2) := H
 have A2 := Ya A20
 clear A20
 by_cases c3 : t319 = true
 ·subst c3
  have H1 : ((impl_runFocus.f k l0 5040).bind fun t320 => ((impl_counted.f k (l0.length : Int) t320).bind fun t323 => (some (t323, true)))) = some (r1, r2) := by rw [if_pos rfl] at H; exact H
  clear H
  have H := H1
  clear H1
  replace H := Z35.mp H
  obtain ⟨t320, A40, H⟩ := H
  replace H : ((impl_counted.f k (l0.length : Int) t320).bind fun t323 => (some (t323, true))) = some (r1, r2) := H
  have A4 := Ya A40
  clear A40
  replace H := Z35.mp H
  obtain ⟨t323, A50, H⟩ := H
  replace H : (some (t323, true)) = some (r1, r2) := H
  have A5 := Ya A50
  clear A50
  simp only [Option.some.injEq, Prod.mk.injEq] at H
  obtain ⟨rfl, rfl⟩ := H
  go_enter Try.func10, Try.ntmps10
  go_wp2_with (first | ((with_reducible refine gate_callee (f := 29) rfl ?_); refine Yz 5 Try.func29 #[.slice A0 l0.length c0] ?_; (with_reducible refine (impl_areFocusBases.calls k _ _ l0 true _ (Yc HR0.out) HC0.out A2.out).mono ?_); rintro e w6 ⟨rfl, hb⟩; refine ⟨_, rfl, ?_⟩; replace HB := Yh hb; (try clear hb)) | ((with_reducible refine gate_callee (f := 31) rfl ?_); refine Yz 10 Try.func31 #[.slice A0 l0.length c0, .int .i64 5040] ?_; (with_reducible refine (impl_runFocus.calls k _ _ l0 5040 t320 _ (Yc (Z21 HR0.out HB.out)) HC0.out A4.out).mono ?_); rintro e w7 ⟨v321, rfl, ho0, hb⟩; refine ⟨_, rfl, ?_⟩; have HO322 := Yl ho0; replace HB := Yh hb; (try clear hb ho0); obtain ⟨Ao8, co8, rfl⟩ := Z17 HO322.out) | ((with_reducible refine gate_callee (f := 35) rfl ?_); refine Yz 11 Try.func35 #[.int .i64 (l0.length : Int), .slice Ao8 t320.length co8] ?_; (with_reducible refine (impl_counted.calls k (l0.length : Int) _ _ t320 t323 _ (Yc (Kd.R_reads' HO322.out).2.2) ((Kd.R_reads' HO322.out).2.1) A5.out).mono ?_); rintro e w9 ⟨v324, rfl, ho0, hb⟩; refine ⟨_, rfl, ?_⟩; have HO325 := Yl (Kd.R_new' ho0 (Z16 (Yr HO322.out))); replace HO322 := Ya (Kd.R_elder' (Yr HO322.out) (Kd.R_base ho0) hb); replace HB := Yh hb; (try clear hb ho0)))
  go_ret2
  exact ⟨_, Q1, Yj HO325.out (fun _ hk => trivial), Q12⟩
 ·replace c3 := Bool.eq_false_iff.mpr c3
  subst c3
  have H1 : (some (([] : List Int), false)) = some (r1, r2) := by rw [if_neg (show ¬ (false = true) by decide)] at H; exact H
  clear H
  have H := H1
  clear H1
  simp only [Option.some.injEq, Prod.mk.injEq] at H
  obtain ⟨rfl, rfl⟩ := H
  go_enter Try.func10, Try.ntmps10
  go_wp2_with (first | ((with_reducible refine gate_callee (f := 29) rfl ?_); refine Yz 5 Try.func29 #[.slice A0 l0.length c0] ?_; (with_reducible refine (impl_areFocusBases.calls k _ _ l0 false _ (Yc HR0.out) HC0.out A2.out).mono ?_); rintro e w10 ⟨rfl, hb⟩; refine ⟨_, rfl, ?_⟩; replace HB := Yh hb; (try clear hb)))
  go_ret2
  exact ⟨_, Q1, Q4, Q12⟩
def spec_CountTurns.l0 : Nat → List Int → List Int → Int → Int → Option (List Int × Bool)
 | 0, _, _, _, _ => none
 | k + 1, x4, x14, x15, x16 => if x16 < x15 then (if 0 ≤ x16 then (if x16 < (x14.length : Int) then (if 0 ≤ (rd x14 x16) then (if (rd x14 x16) < (x4.length : Int) then (spec_CountTurns.l0 k (x4.set ((rd x14 x16) : Int).toNat (wrap64 ((rd x4 (rd x14 x16)) + 1))) x14 x15 (wrap64 (x16 + 1))) else (none)) else (none)) else (none)) else (none)) else (some (x4, true))
def spec_CountTurns.f (k : Nat) (l0 : List Int) : Option (List Int × Bool) := (spec_foBases.f k l0).bind fun t326 => (if t326 = true then (if 0 ≤ (l0.length : Int) then (if ((l0.length : Int) : Int).toNat ≤ 35184372088832 then ((spec_foRun.f k l0 5040).bind fun t330 => (spec_CountTurns.l0 k (List.replicate ((l0.length : Int) : Int).toNat 0) t330 (t330.length : Int) 0)) else (none)) else (none)) else (some (([] : List Int), false)))
theorem spec_CountTurns.mono_l : ∀ k, (∀ y0 y1 y2 y3, LeO (spec_CountTurns.l0 k y0 y1 y2 y3) (spec_CountTurns.l0 (k + 1) y0 y1 y2 y3))
 | 0 => fun _ _ _ _ r h => by simp [spec_CountTurns.l0] at h
 | k + 1 => by
  have ih0 := spec_CountTurns.mono_l k
  ·intro y0 y1 y2 y3
   unfold spec_CountTurns.l0
   repeat' first
   | (with_reducible exact ih0 _ _ _ _)
   | (with_reducible exact spec_foBases.mono _ _)
   | (with_reducible exact spec_foRun.mono _ _ _)
   | (with_reducible exact LeO.refl _)
   | (with_reducible exact LeO.none _)
   | (with_reducible refine LeO.ite ?_ ?_)
   | (with_reducible refine LeO.bind ?_ (fun _ => ?_))
   | exact ih0 _ _ _ _
   | exact spec_foBases.mono _ _
   | exact spec_foRun.mono _ _ _
   | exact LeO.none _
   | refine LeO.ite ?_ ?_
   | refine LeO.bind ?_ (fun _ => ?_)
theorem spec_CountTurns.mono : ∀ a0 k, LeO (spec_CountTurns.f k a0) (spec_CountTurns.f (k + 1) a0) := by
 intro a0 k
 have ih0 := spec_CountTurns.mono_l k
 unfold spec_CountTurns.f
 repeat' first
   | (with_reducible exact ih0 _ _ _ _)
   | (with_reducible exact spec_foBases.mono _ _)
   | (with_reducible exact spec_foRun.mono _ _ _)
   | (with_reducible exact LeO.refl _)
   | (with_reducible exact LeO.none _)
   | (with_reducible refine LeO.ite ?_ ?_)
   | (with_reducible refine LeO.bind ?_ (fun _ => ?_))
   | exact ih0 _ _ _ _
   | exact spec_foBases.mono _ _
   | exact spec_foRun.mono _ _ _
   | exact LeO.none _
   | refine LeO.ite ?_ ?_
   | refine LeO.bind ?_ (fun _ => ?_)
set_option maxHeartbeats 8000000 in
set_option maxRecDepth 100000 in
theorem spec_CountTurns.calls (k : Nat) (A0 : Option Addr) (c0 : Nat) (l0 : List Int) (r1 : List Int) (r2 : Bool) (w : World) (hr0 : Kd.C (Kd.int .i64) w A0 l0.length l0) (hc0 : l0.length ≤ c0) (h : spec_CountTurns.f k l0 = some (r1, r2)) :
  Calls Try.prog 11 #[.slice A0 l0.length c0] w fun e w' => ∃ v0_ : Value, e = .returned (.tuple #[v0_, .bool r2]) ∧ Kd.R (Kd.int .i64) 3 w' w.heap.size (fun _ => True) v0_ r1 ∧ Below w.heap.size w w' := by
 have HR0 := Ya hr0
 have HC0 := Ya hc0
 clear hr0 hc0
 have HB := Ya (Below.refl w.heap.size w)
 have H : ((spec_foBases.f k l0).bind fun t326 => (if t326 = true then (if 0 ≤ (l0.length : Int) then (if ((l0.length : Int) : Int).toNat ≤ 35184372088832 then ((spec_foRun.f k l0 5040).bind fun t330 => (spec_CountTurns.l0 k (List.replicate ((l0.length : Int) : Int).toNat 0) t330 (t330.length : Int) 0)) else (none)) else (none)) else (some (([] : List Int), false)))) = some (r1, r2) := h
 clear h
 replace H := Z35.mp H
 obtain ⟨t326, A20, H⟩ := H
 replace H : (if t326 = true then (if 0 ≤ (l0.length : Int) then (if ((l0.length : Int) : Int).toNat ≤ 35184372088832 then ((spec_foRun.f k l0 5040).bind fun t330 => (spec_CountTurns.l0 k (List.replicate ((l0.length : Int) : Int).toNat 0) t330 (t330.length : Int) 0)) else (none)) else (none)) else (some (([] : List Int), false))) = some (r1, r2) := H
 have A2 := Ya A20
 clear A20
 by_cases c3 : t326 = true
 ·subst c3
  have H1 : (if 0 ≤ (l0.length : Int) then (if ((l0.length : Int) : Int).toNat ≤ 35184372088832 then ((spec_foRun.f k l0 5040).bind fun t330 => (spec_CountTurns.l0 k (List.replicate ((l0.length : Int) : Int).toNat 0) t330 (t330.length : Int) 0)) else (none)) else (none)) = some (r1, r2) := by rw [if_pos rfl] at H; exact H
  clear H
  have H := H1
  clear H1
  by_cases c4 : 0 ≤ (l0.length : Int)
  ·rw [if_pos c4] at H
   have c4b0 := eq_true c4
   have c4b1 := Z37 c4
   have HLEc4 := Ya c4
   clear c4
   by_cases c5 : ((l0.length : Int) : Int).toNat ≤ 35184372088832
   ·rw [if_pos c5] at H
    have c5b0 := eq_true c5
    have c5b1 := Z37 c5
    clear c5
    obtain ⟨y327, hy327⟩ : ∃ y_ : List Int, y_ = (List.replicate ((l0.length : Int) : Int).toNat 0) := ⟨_, rfl⟩
    replace H : ((spec_foRun.f k l0 5040).bind fun t330 => (spec_CountTurns.l0 k y327 t330 (t330.length : Int) 0)) = some (r1, r2) := by first | (rw [hy327]; with_reducible exact H) | (have H2_ := (Option.bind_some _ _).symm.trans H; rw [hy327]; with_reducible exact H2_) | (have H2_ := (Option.bind_some _ _).symm.trans H; with_reducible exact H2_) | with_reducible exact H | (rw [hy327]; exact H) | exact H
    have Ny327 := Ya hy327
    clear hy327
    replace H := Z35.mp H
    obtain ⟨t330, A60, H⟩ := H
    replace H : (spec_CountTurns.l0 k y327 t330 (t330.length : Int) 0) = some (r1, r2) := H
    have A6 := Ya A60
    clear A60
    have H' := Ya H
    clear H
    go_enter Try.func11, Try.ntmps11
    go_wp2_with (first | ((with_reducible refine gate_callee (f := 32) rfl ?_); refine Yz 8 Try.func32 #[.slice A0 l0.length c0] ?_; (with_reducible refine (spec_foBases.calls k _ _ l0 true _ (Yc HR0.out) HC0.out A2.out).mono ?_); rintro e w' ⟨rfl, ⟨nd, rfl⟩⟩; refine ⟨_, rfl, ?_⟩) | ((with_reducible refine gate_dst (N := 12) rfl ?_); refine Kd.R_make (Kd.int .i64) _ 3 rfl (N := 12) rfl 24 _ _ rfl (l0.length : Int) rfl rfl Try.underlying24 (.int .i64 0) 8 info3 rfl (by decide) (by omega) 0 (ok := fun _ => True) (okp := fun _ => True) rfl (fun _ hk => hk) trivial (Z29 Q3) (Nat.le_trans (Nat.mul_le_mul_right _ (Z29 Q3 : (l0.length : Int).toNat ≤ 35184372088832)) (by omega)) (Below.refl _ _) (Nat.le_refl _) ?_; intro v328 w7 ho8 hb hg_ hnew_; clear hg_ hnew_; (first | rw [← Ny327.out] at ho8 | (simp only [Int.reduceToNat] at ho8; rw [← Ny327.out] at ho8)); have HO329 := Yl ho8; replace HB := Yh hb; clear hb ho8) | ((with_reducible refine gate_callee (f := 34) rfl ?_); refine Yz 14 Try.func34 #[.slice A0 l0.length c0, .int .i64 5040] ?_; (with_reducible refine (spec_foRun.calls k _ _ l0 5040 t330 _ (Yc (Z21 HR0.out HB.out)) HC0.out A6.out).mono ?_); rintro e w9 ⟨v331, rfl, ho0, hb⟩; refine ⟨_, rfl, ?_⟩; have HO332 := Yl (Kd.R_new' ho0 (Z16 (Yr HO329.out))); replace HO329 := Ya (Kd.R_elder' (Yr HO329.out) (Kd.R_base ho0) hb); replace HB := Yh hb; (try clear hb ho0); obtain ⟨Ao10, co10, rfl⟩ := Z17 HO332.out))
    go_loopg [16] k (fun kq v16 w' => ∃ (x4_1 : List Int) (x16_1 : Int), v16 = .int .i64 x16_1 ∧ Aside0 (spec_CountTurns.l0 kq x4_1 t330 (t330.length : Int) x16_1 = some (r1, r2)) ∧ Aside0 (kq ≤ k) ∧ Aside0 (Kd.R (Kd.int .i64) 3 w' w.heap.size (fun k_ => some k_ ≠ ((.slice Ao10 t330.length co10) : Value).ownBlock) v328 x4_1) ∧ Aside0 (Kd.R (Kd.int .i64) 3 w' w.heap.size (fun k_ => some k_ ≠ (v328 : Value).ownBlock) (.slice Ao10 t330.length co10) t330) ∧ Aside0 (Below w.heap.size w w'))
    case atStart => exact ⟨(y327), (0), Q8, H', ⟨Nat.le_refl _⟩, ⟨Yj HO329.out (fun _ hk => hk.2)⟩, ⟨Yj HO332.out (fun _ hk => hk.2)⟩, ⟨Q12⟩⟩
    case round =>
     clear H'
     try clear c1
     try clear p2
     try clear c3
     try clear c4
     try clear c4b0
     try clear c4b1
     try clear c5
     try clear c5b0
     try clear c5b1
     obtain ⟨x4_1, x16_1, rfl, HA, HK1, HO_4, HO_14, HB⟩ := hrel
     cases gk with
     | zero => exact absurd HA.out (by simp [spec_CountTurns.l0])
     | succ k1 =>
      have H := HA.out
      clear HA
      simp only [spec_CountTurns.l0] at H
      by_cases c11 : x16_1 < (t330.length : Int)
      ·rw [if_pos c11] at H
       have c11b0 := Z37 c11
       clear c11
       by_cases c12 : 0 ≤ x16_1
       ·rw [if_pos c12] at H
        have c12b0 := Z37 c12
        clear c12
        by_cases c13 : x16_1 < (t330.length : Int)
        ·rw [if_pos c13] at H
         have c13b0 := Z37 c13
         clear c13
         by_cases c14 : 0 ≤ (rd t330 x16_1)
         ·rw [if_pos c14] at H
          have c14b0 := Z37 c14
          clear c14
          by_cases c15 : (rd t330 x16_1) < (x4_1.length : Int)
          ·rw [if_pos c15] at H
           have c15b0 := Z37 c15
           clear c15
           obtain ⟨y335, hy335⟩ : ∃ y_ : List Int, y_ = (x4_1.set ((rd t330 x16_1) : Int).toNat (wrap64 ((rd x4_1 (rd t330 x16_1)) + 1))) := ⟨_, rfl⟩
           replace H : (spec_CountTurns.l0 k1 y335 t330 (t330.length : Int) (wrap64 (x16_1 + 1))) = some (r1, r2) := by first | (rw [hy335]; with_reducible exact H) | (have H2_ := (Option.bind_some _ _).symm.trans H; rw [hy335]; with_reducible exact H2_) | (have H2_ := (Option.bind_some _ _).symm.trans H; with_reducible exact H2_) | with_reducible exact H | (rw [hy335]; exact H) | exact H
           have Ny335 := Ya hy335
           clear hy335
           have H' := Ya H
           clear H
           have p333 : 0 ≤ (x16_1 : Int) := Z29 Q3
           have q333 : x16_1 < (t330.length : Int) := Z29 Q3
           obtain ⟨ad333, e333, hx333_0⟩ := Kd.at_int (Kd.R_reads' HO_14.out).2.2 x16_1 p333 q333
           cases e333
           replace p333 := eq_true p333
           replace q333 := eq_true q333
           obtain ⟨Ao17, co17, rfl⟩ := Z17 HO_4.out
           have p334 : 0 ≤ ((rd t330 x16_1) : Int) := Z29 Q3
           have q334 : (rd t330 x16_1) < (x4_1.length : Int) := Z29 Q3
           obtain ⟨ad334, e334, hx334_0⟩ := Kd.at_int (Kd.R_reads' HO_4.out).2.2 (rd t330 x16_1) p334 q334
           cases e334
           replace p334 := eq_true p334
           replace q334 := eq_true q334
           have p16 : 0 ≤ ((rd t330 x16_1) : Int) := Z29 Q3
           have q16 : ((rd t330 x16_1) : Int) < ((x4_1.length : Int) : Int) := Z29 Q3
           obtain ⟨go16, co16, eo16, gb16, gl16, cl16, HG16⟩ := Kd.R_form HO_4.out (by omega)
           (first | cases eo16 | (injection eo16 with ea_ en_ ec_; (first | subst ea_ | (injection ea_ with ea_; subst ea_)); subst ec_; clear en_))
           have GB16 := Ya gb16
           have GG16 := Ya HG16
           clear gb16 gl16 HG16
           (first | simp only [add_plain] at hx334_0 | skip)
           obtain ⟨hx16_0, hf16_0⟩ := Kd.R_celln 0 HO_4.out ((rd t330 x16_1) : Int) p16 q16
           replace p16 := eq_true p16
           replace q16 := eq_true q16
           have HP18 := Kd.R_putg HO_4.out ((rd t330 x16_1) : Int) (wrap64 ((rd x4_1 (rd t330 x16_1)) + 1))
           go_wp2_with (first | ((with_reducible refine gate_store (t := 3) (p := 25) rfl ?_); refine store_event (t := 3) (p := 25) (v := ?vo_w19) (w1 := (wr.setCell ⟨go16, ((rd t330 x16_1) : Int).toNat, none⟩ (.int .i64 (wrap64 ((rd x4_1 (rd t330 x16_1)) + 1))))) ?hg ?ho ?hn ?hr ?_; (case ho => rfl); (case hg => rfl); (case hn => rfl); (case hr => first | (go_simp; done) | (go_simp; rfl)); intro w19 hw; have hg : wr.grownBy w19 (some go16) := (by rw [hw]; exact HP18.2); have hp_ : Kd.R (Kd.int .i64) 3 w19 w.heap.size (fun k_ => some k_ ≠ (.slice (some ad333) t330.length co10 : Value).ownBlock) (.slice (some ⟨go16, 0, none⟩) x4_1.length co17) y335 := (by rw [hw, Ny335.out]; exact HP18.1); clear HP18; replace HO_4 := Ya hp_; replace HO_14 := Ya (Kd.R_after (v := (.slice (some ⟨go16, 0, none⟩) x4_1.length co17)) (v1 := (.slice (some ⟨go16, 0, none⟩) x4_1.length co17)) (ok := (fun _ => True)) (Yj HO_14.out (fun _ hk => ⟨trivial, hk⟩)) hg (.inl rfl)); replace HB := Ya ((by rw [hw]; exact Z6 (HB.out) GB16.out : Below w.heap.size w w19)); clear hg hw hp_))
           go_roundg k1
           case measure => have := HK1.out; omega
           case rel => exact ⟨(y335), (wrap64 (x16_1 + 1)), Q8, H', ⟨Q23⟩, ⟨by (with_reducible repeat (first | apply Z8 | apply Z9 | apply Z10)); exact HO_4.out⟩, ⟨Yj HO_14.out (fun _ hk => hk.2)⟩, ⟨Q12⟩⟩
          ·rw [if_neg c15] at H
           exact absurd H (by simp)
         ·rw [if_neg c14] at H
          exact absurd H (by simp)
        ·rw [if_neg c13] at H
         exact absurd H (by simp)
       ·rw [if_neg c12] at H
        exact absurd H (by simp)
      ·rw [if_neg c11] at H
       have c11b0 := Z36 c11
       clear c11
       simp only [Option.some.injEq, Prod.mk.injEq] at H
       obtain ⟨rfl, rfl⟩ := H
       go_wp2
       go_ret2
       exact ⟨_, Q1, Yj HO_4.out (fun _ hk => trivial), Q12⟩
   ·rw [if_neg c5] at H
    exact absurd H (by simp)
  ·rw [if_neg c4] at H
   exact absurd H (by simp)
 ·replace c3 := Bool.eq_false_iff.mpr c3
  subst c3
  have H1 : (some (([] : List Int), false)) = some (r1, r2) := by rw [if_neg (show ¬ (false = true) by decide)] at H; exact H
  clear H
  have H := H1
  clear H1
  simp only [Option.some.injEq, Prod.mk.injEq] at H
  obtain ⟨rfl, rfl⟩ := H
  go_enter Try.func11, Try.ntmps11
  go_wp2_with (first | ((with_reducible refine gate_callee (f := 32) rfl ?_); refine Yz 8 Try.func32 #[.slice A0 l0.length c0] ?_; (with_reducible refine (spec_foBases.calls k _ _ l0 false _ (Yc HR0.out) HC0.out A2.out).mono ?_); rintro e w' ⟨rfl, ⟨nd, rfl⟩⟩; refine ⟨_, rfl, ?_⟩))
  go_ret2
  exact ⟨_, Q1, Q4, Q12⟩
def impl_StartFocus.f (k : Nat) (l0 : List Int) : Option (List Int × List Int × List Bool × List Int × Bool) := (impl_areFocusBases.f k l0).bind fun t337 => (if t337 = true then ((impl_startFocus.f k l0).bind fun bt338 => (some (bt338.1, bt338.2.1, bt338.2.2.1, bt338.2.2.2, true))) else (some (([] : List Int), ([] : List Int), ([] : List Bool), ([] : List Int), false)))
theorem impl_StartFocus.mono : ∀ a0 k, LeO (impl_StartFocus.f k a0) (impl_StartFocus.f (k + 1) a0) := by
 intro a0 k
 unfold impl_StartFocus.f
 repeat' first
   | (with_reducible exact impl_areFocusBases.mono _ _)
   | (with_reducible exact impl_startFocus.mono _ _)
   | (with_reducible exact LeO.refl _)
   | (with_reducible exact LeO.none _)
   | (with_reducible refine LeO.ite ?_ ?_)
   | (with_reducible refine LeO.bind ?_ (fun _ => ?_))
   | exact impl_areFocusBases.mono _ _
   | exact impl_startFocus.mono _ _
   | exact LeO.none _
   | refine LeO.ite ?_ ?_
   | refine LeO.bind ?_ (fun _ => ?_)
set_option maxHeartbeats 8000000 in
set_option maxRecDepth 100000 in
theorem impl_StartFocus.calls (k : Nat) (A0 : Option Addr) (c0 : Nat) (l0 : List Int) (r1 : List Int) (r2 : List Int) (r3 : List Bool) (r4 : List Int) (r5 : Bool) (w : World) (hr0 : Kd.C (Kd.int .i64) w A0 l0.length l0) (hc0 : l0.length ≤ c0) (h : impl_StartFocus.f k l0 = some (r1, r2, r3, r4, r5)) :
  Calls Try.prog 12 #[.slice A0 l0.length c0] w fun e w' => ∃ v0_ v1_ v2_ v3_ : Value, e = .returned (.tuple #[.agg #[v0_, v1_, v2_, v3_], .bool r5]) ∧ Kd.R (Kd.int .i64) 3 w' w.heap.size (fun k_ => some k_ ≠ (v1_ : Value).ownBlock ∧ some k_ ≠ (v3_ : Value).ownBlock) v0_ r1 ∧ Kd.R (Kd.int .i64) 3 w' w.heap.size (fun k_ => some k_ ≠ (v0_ : Value).ownBlock ∧ some k_ ≠ (v3_ : Value).ownBlock) v1_ r2 ∧ Kd.R Kd.bool 4 w' w.heap.size (fun _ => True) v2_ r3 ∧ Kd.R (Kd.int .i64) 3 w' w.heap.size (fun k_ => some k_ ≠ (v0_ : Value).ownBlock ∧ some k_ ≠ (v1_ : Value).ownBlock) v3_ r4 ∧ Below w.heap.size w w' := by
 have hu33 := Try.underlying33
 have HR0 := Ya hr0
 have HC0 := Ya hc0
 clear hr0 hc0
 have HB := Ya (Below.refl w.heap.size w)
 have H : ((impl_areFocusBases.f k l0).bind fun t337 => (if t337 = true then ((impl_startFocus.f k l0).bind fun bt338 => (some (bt338.1, bt338.2.1, bt338.2.2.1, bt338.2.2.2, true))) else (some (([] : List Int), ([] : List Int), ([] : List Bool), ([] : List Int), false)))) = some (r1, r2, r3, r4, r5) := h
 clear h
 replace H := Z35.mp H
 obtain ⟨t337, A20, H⟩ := H
 replace H : (if t337 = true then ((impl_startFocus.f k l0).bind fun bt338 => (some (bt338.1, bt338.2.1, bt338.2.2.1, bt338.2.2.2, true))) else (some (([] : List Int), ([] : List Int), ([] : List Bool), ([] : List Int), false))) = some (r1, r2, r3, r4, r5) := H
 have A2 := Ya A20
 clear A20
 by_cases c3 : t337 = true
 ·subst c3
  have H1 : ((impl_startFocus.f k l0).bind fun bt338 => (some (bt338.1, bt338.2.1, bt338.2.2.1, bt338.2.2.2, true))) = some (r1, r2, r3, r4, r5) := by rw [if_pos rfl] at H; exact H
  clear H
  have H := H1
  clear H1
  replace H := Z35.mp H
  obtain ⟨⟨t338, t341, t344, t347⟩, A40, H⟩ := H
  replace H : (some (t338, t341, t344, t347, true)) = some (r1, r2, r3, r4, r5) := H
  have A4 := Ya A40
  clear A40
  simp only [Option.some.injEq, Prod.mk.injEq] at H
  obtain ⟨rfl, rfl, rfl, rfl, rfl⟩ := H
  go_enter Try.func12, Try.ntmps12
  go_wp2_with (first | ((with_reducible refine gate_dst (N := 2) rfl ?_); refine Yx 2 YN4 33 ?_; intro gb336 hg w5 hbox hb; have BK336 := Ya hbox; have GE336 := Yg hg; replace HB := Yh hb; clear hb hbox hg) | ((with_reducible refine gate_callee (f := 29) rfl ?_); refine Yz 5 Try.func29 #[.slice A0 l0.length c0] ?_; (with_reducible refine (impl_areFocusBases.calls k _ _ l0 true _ (Yc (Z21 HR0.out HB.out)) HC0.out A2.out).mono ?_); rintro e w6 ⟨rfl, hb⟩; refine ⟨_, rfl, ?_⟩; replace BK336 := Yb BK336 hb; replace HB := Yh hb; (try clear hb)) | ((with_reducible refine gate_callee (f := 36) rfl ?_); refine Yz 9 Try.func36 #[.slice A0 l0.length c0] ?_; (with_reducible refine (impl_startFocus.calls k _ _ l0 t338 t341 t344 t347 _ (Yc (Z21 HR0.out HB.out)) HC0.out A4.out).mono ?_); rintro e w7 ⟨v339, v342, v345, v348, rfl, ho0, ho1, ho2, ho3, hb⟩; refine ⟨_, rfl, ?_⟩; have HO340 := Yl ho0; have HO343 := Yl ho1; have HO346 := Yl ho2; have HO349 := Yl ho3; replace BK336 := Yb BK336 hb; replace HB := Yh hb; (try clear hb ho0 ho1 ho2 ho3); obtain ⟨Ao8, co8, rfl⟩ := Z17 HO340.out; have hz9 := Y4 BK336.out; obtain ⟨Ao10, co10, rfl⟩ := Z17 HO343.out; obtain ⟨Ao11, co11, rfl⟩ := Z17 HO346.out; obtain ⟨Ao12, co12, rfl⟩ := Z17 HO349.out))
  refine bodyPost_ret (results_ct rfl _ _ gb336 33 #[.slice Ao8 t338.length co8, .slice Ao10 t341.length co10, .slice Ao11 t344.length co11, .slice Ao12 t347.length co12] (0, 0) _ rfl (Yk (Yv4 BK336.out)) Try.underlying33 rfl (by kernel_rfl)) rfl ?_
  exact ⟨_, _, _, _, Q1, Yj (Yf4 HO340.out BK336.out) (fun _ hk => ⟨hk.1.1, hk.1.2⟩), Yj (Yf4 HO343.out BK336.out) (fun _ hk => ⟨hk.1.1, hk.1.2⟩), Yj (Yf4 HO346.out BK336.out) (fun _ hk => trivial), Yj (Yf4 HO349.out BK336.out) (fun _ hk => ⟨hk.1.1, hk.1.2⟩), Q12⟩
 ·replace c3 := Bool.eq_false_iff.mpr c3
  subst c3
  have H1 : (some (([] : List Int), ([] : List Int), ([] : List Bool), ([] : List Int), false)) = some (r1, r2, r3, r4, r5) := by rw [if_neg (show ¬ (false = true) by decide)] at H; exact H
  clear H
  have H := H1
  clear H1
  simp only [Option.some.injEq, Prod.mk.injEq] at H
  obtain ⟨rfl, rfl, rfl, rfl, rfl⟩ := H
  go_enter Try.func12, Try.ntmps12
  go_wp2_with (first | ((with_reducible refine gate_dst (N := 2) rfl ?_); refine Yx 2 YN4 33 ?_; intro gb336 hg w13 hbox hb; have BK336 := Ya hbox; have GE336 := Yg hg; replace HB := Yh hb; clear hb hbox hg) | ((with_reducible refine gate_callee (f := 29) rfl ?_); refine Yz 5 Try.func29 #[.slice A0 l0.length c0] ?_; (with_reducible refine (impl_areFocusBases.calls k _ _ l0 false _ (Yc (Z21 HR0.out HB.out)) HC0.out A2.out).mono ?_); rintro e w14 ⟨rfl, hb⟩; refine ⟨_, rfl, ?_⟩; replace BK336 := Yb BK336 hb; replace HB := Yh hb; (try clear hb); have hz15 := Y4 BK336.out))
  refine bodyPost_ret (results_ct rfl _ _ gb336 33 YN4 (0, 0) _ rfl (Yk (Yv4 BK336.out)) Try.underlying33 rfl (by kernel_rfl)) rfl ?_
  exact ⟨_, _, _, _, Q1, Q4, Q4, Q4, Q4, Q12⟩
mutual
def impl_focusAt.l0 : Nat → Int → Int → List Int → List Int → List Bool → List Int → Option (List Int × List Int × List Bool × List Int)
 | 0, _, _, _, _, _, _ => none
 | k + 1, n, i, b, d, u, p => if i < n then ((Go.Proofs.Ytapbbmicfkbafaa.FoW.stepF b d u p).bind fun r => (impl_focusAt.l0 k n (wrap64 (i + 1)) b r.1 r.2.1 r.2.2.1)) else (some (b, d, u, p))
end
def impl_focusAt.f (k : Nat) (l0 : List Int) (a1 : Int) : Option (List Int × List Int × List Bool × List Int) := (impl_startFocus.f k l0).bind fun t => (impl_focusAt.l0 k a1 0 t.1 t.2.1 t.2.2.1 t.2.2.2)
theorem impl_focusAt.mono_l : ∀ k, (∀ y0 y1 y2 y3 y4 y5, LeO (impl_focusAt.l0 k y0 y1 y2 y3 y4 y5) (impl_focusAt.l0 (k + 1) y0 y1 y2 y3 y4 y5))
 | 0 => fun _ _ _ _ _ _ r h => by simp [impl_focusAt.l0] at h
 | k + 1 => by
  have ih0 := impl_focusAt.mono_l k
  ·intro y0 y1 y2 y3 y4 y5
   unfold impl_focusAt.l0
   repeat' first
   | (with_reducible exact ih0 _ _ _ _ _ _)
   | (with_reducible exact impl_startFocus.mono _ _)
   | (with_reducible exact LeO.refl _)
   | (with_reducible exact LeO.none _)
   | (with_reducible refine LeO.ite ?_ ?_)
   | (with_reducible refine LeO.bind ?_ (fun _ => ?_))
   | exact ih0 _ _ _ _ _ _
   | exact impl_startFocus.mono _ _
   | exact LeO.none _
   | refine LeO.ite ?_ ?_
   | refine LeO.bind ?_ (fun _ => ?_)
theorem impl_focusAt.mono : ∀ a0 a1 k, LeO (impl_focusAt.f k a0 a1) (impl_focusAt.f (k + 1) a0 a1) := by
 intro a0 a1 k
 have ih0 := impl_focusAt.mono_l k
 unfold impl_focusAt.f
 repeat' first
   | (with_reducible exact ih0 _ _ _ _ _ _)
   | (with_reducible exact impl_startFocus.mono _ _)
   | (with_reducible exact LeO.refl _)
   | (with_reducible exact LeO.none _)
   | (with_reducible refine LeO.ite ?_ ?_)
   | (with_reducible refine LeO.bind ?_ (fun _ => ?_))
   | exact ih0 _ _ _ _ _ _
   | exact impl_startFocus.mono _ _
   | exact LeO.none _
   | refine LeO.ite ?_ ?_
   | refine LeO.bind ?_ (fun _ => ?_)
open Go.Proofs.Ytapbbmicfkbafaa.FoW in
set_option maxHeartbeats 8000000 in
set_option maxRecDepth 100000 in
theorem impl_focusAt.calls (k : Nat) (A0_ : Option Addr) (c0_ : Nat) (l0 : List Int) (a1 : Int) (r1 : List Int) (r2 : List Int) (r3 : List Bool) (r4 : List Int) (w : World) (hr0 : Kd.C (Kd.int .i64) w A0_ l0.length l0) (hc0 : l0.length ≤ c0_) (h : impl_focusAt.f k l0 a1 = some (r1, r2, r3, r4)) :
  Calls Try.prog 42 #[.slice A0_ l0.length c0_, .int .i64 a1] w fun e w' => ∃ v0_ v1_ v2_ v3_ : Value, e = .returned (.agg #[v0_, v1_, v2_, v3_]) ∧ Kd.R (Kd.int .i64) 3 w' w.heap.size (fun k_ => some k_ ≠ (v1_ : Value).ownBlock ∧ some k_ ≠ (v3_ : Value).ownBlock) v0_ r1 ∧ Kd.R (Kd.int .i64) 3 w' w.heap.size (fun k_ => some k_ ≠ (v0_ : Value).ownBlock ∧ some k_ ≠ (v3_ : Value).ownBlock) v1_ r2 ∧ Kd.R Kd.bool 4 w' w.heap.size (fun _ => True) v2_ r3 ∧ Kd.R (Kd.int .i64) 3 w' w.heap.size (fun k_ => some k_ ≠ (v0_ : Value).ownBlock ∧ some k_ ≠ (v1_ : Value).ownBlock) v3_ r4 ∧ Below w.heap.size w w' := by
 have hu := Try.underlying33
 unfold impl_focusAt.f at h
 obtain ⟨⟨b, D1, U1, P1⟩, h1, h⟩ := Z35.mp h
 have A1_ := Ya h1
 have H' := Ya h
 have HR0 := Ya hr0
 have HC0 := Ya hc0
 have HB := Ya (Below.refl w.heap.size w)
 clear h h1 hr0 hc0
 go_enter Try.func42, Try.ntmps42
 go_upto_region 3 with (first | ((with_reducible refine gate_dst (N := 4) rfl ?_); refine Yx 4 #[.slice none 0 0, .slice none 0 0, .slice none 0 0, .slice none 0 0] 33 ?_; intro gb4 hg w34 hbox hb; have n0_ := Yh hb; have BK4 := Ya hbox; have GE4 := Ya (by rw [hg]; exact Z7 Q0 : w.heap.size ≤ gb4); clear HB; have HB := n0_; clear n0_; clear hb hbox hg) | ((with_reducible refine gate_callee (f := 36) rfl ?_); refine Yz 7 Try.func36 #[.slice A0_ l0.length c0_] ?_ (hargs := Q22); (with_reducible refine (impl_startFocus.calls k _ _ l0 b D1 U1 P1 _ ?s1 ?s2 A1_.out).mono ?_); (case s1 => exact Q27); (case s2 => exact HC0.out); rintro e w2 ⟨v0, v1, v2, v3, rfl, ho0, ho1, ho2, ho3, hb⟩; refine ⟨_, rfl, ?_⟩; have hFV : FoV w2 w.heap.size v0 v1 v2 v3 b D1 U1 P1 := ⟨Kd.R_lower ho0 (Z7 Q0), Kd.R_lower ho1 (Z7 Q0), Kd.R_lower ho2 (Z7 Q0), Kd.R_lower ho3 (Z7 Q0)⟩; obtain ⟨A0, c0, rfl⟩ := Z17 ho0; obtain ⟨A1, c1', rfl⟩ := Z17 ho1; obtain ⟨A2, c2, rfl⟩ := Z17 ho2; obtain ⟨A3, c3, rfl⟩ := Z17 ho3; have n0_ := Yh hb; have n1_ := Ya (Z27 (by first | exact BK4.out | (exact Z25 BK4.out)) hb); have HV := Ya hFV; clear HB BK4 ho0 ho1 ho2 ho3 hb hFV; have HB := n0_; have BK4 := n1_; clear n0_ n1_) | ((with_reducible refine gate_dst (N := 5) rfl ?_); refine Yx 5 #[.slice none 0 0, .slice none 0 0, .slice none 0 0, .slice none 0 0] 33 ?_; intro gb5 hg w35 hbox hb; have n0_ := Yh hb; have BK := Ya hbox; have GE5 := Ya (by rw [hg]; exact Z7 Q0 : w.heap.size ≤ gb5); have NE := Ya (by rw [hg]; exact Nat.ne_of_lt (blk_lt BK4.out) : gb4 ≠ gb5); have n1_ := Ya (FoV.below (Qm0 HV.out) hb); have n2_ := Ya (Z27 BK4.out hb); clear HV BK4; have HV := n1_; have BK4 := n2_; clear n1_ n2_; clear HB; have HB := n0_; clear n0_; have hd0 := (Z22 BK.out 0).trans rfl; have hd1 := (Z22 BK.out 1).trans rfl; have hd2 := (Z22 BK.out 2).trans rfl; have hd3 := (Z22 BK.out 3).trans rfl; have hf0 := Z23 BK.out 0; have hf1 := Z23 BK.out 1; have hf2 := Z23 BK.out 2; have hf3 := Z23 BK.out 3; clear hb hbox hg))
 replace HV := Ya (FoV.set4 HV.out BK.out (by decide) (by decide) (.slice A0 b.length c0) (.slice A1 D1.length c1') (.slice A2 U1.length c2) (.slice A3 P1.length c3))
 replace BK := Ya (set4_at BK.out (.slice A0 b.length c0) (.slice A1 D1.length c1') (.slice A2 U1.length c2) (.slice A3 P1.length c3))
 replace BK4 := Ya ((set4_far _ gb5 (.slice A0 b.length c0) (.slice A1 D1.length c1') (.slice A2 U1.length c2) (.slice A3 P1.length c3) gb4 NE.out).trans BK4.out)
 replace HB := Ya (set4_below HB.out GE5.out (.slice A0 b.length c0) (.slice A1 D1.length c1') (.slice A2 U1.length c2) (.slice A3 P1.length c3))
 clear hd0 hd1 hd2 hd3 hf0 hf1 hf2 hf3
 unfold set4 at BK HV BK4 HB
 generalize ((((w35.setCell ⟨gb5, 0, none⟩ (.slice A0 b.length c0)).setCell ⟨gb5, 1, none⟩ (.slice A1 D1.length c1')).setCell ⟨gb5, 2, none⟩ (.slice A2 U1.length c2)).setCell ⟨gb5, 3, none⟩ (.slice A3 P1.length c3)) = w4 at BK HV BK4 HB ⊢
 go_loopg [9] k (fun kq v9 w' => ∃ (i : Int) (d : List Int) (u : List Bool) (p : List Int), v9 = .int .i64 i ∧ Aside0 (impl_focusAt.l0 kq a1 i b d u p = some (r1, r2, r3, r4)) ∧ Aside0 (kq ≤ k) ∧ Aside0 (d.length = D1.length ∧ u.length = U1.length ∧ p.length = P1.length) ∧ Aside0 (w'.heap[gb5]? = some (.cells #[.slice A0 b.length c0, .slice A1 D1.length c1', .slice A2 U1.length c2, .slice A3 P1.length c3] 33 (0, 0))) ∧ Aside0 (w'.heap[gb4]? = some (.cells #[.slice none 0 0, .slice none 0 0, .slice none 0 0, .slice none 0 0] 33 (0, 0))) ∧ Aside0 (FoV w' w.heap.size (.slice A0 b.length c0) (.slice A1 D1.length c1') (.slice A2 U1.length c2) (.slice A3 P1.length c3) b d u p) ∧ Aside0 (Below w.heap.size w w'))
 case atStart => exact ⟨0, D1, U1, P1, by first | rfl | (simp; done), H', ⟨Nat.le_refl _⟩, ⟨rfl, rfl, rfl⟩, BK, BK4, HV, HB⟩
 case round =>
  clear H' BK HV BK4 HB
  obtain ⟨i, d, u, p, rfl, HA, HK1, HL, BK, BK4, HV, HB⟩ := hrel
  cases gk with
  | zero => exact absurd HA.out (by simp [impl_focusAt.l0])
  | succ k1 =>
   have H := HA.out
   clear HA
   simp only [impl_focusAt.l0] at H
   by_cases c1 : i < a1
   rotate_left
   ·rw [if_neg c1] at H
    have b1 : decide (i < a1) = false := Z36 c1
    clear c1
    simp only [Option.some.injEq, Prod.mk.injEq] at H
    obtain ⟨rfl, rfl, rfl, rfl⟩ := H
    have hc0 := (Z22 BK.out 0).trans rfl
    have hc1 := (Z22 BK.out 1).trans rfl
    have hc2 := (Z22 BK.out 2).trans rfl
    have hc3 := (Z22 BK.out 3).trans rfl
    have hf0 := Z23 BK.out 0
    have hf1 := Z23 BK.out 1
    have hf2 := Z23 BK.out 2
    have hf3 := Z23 BK.out 3
    have hd0 := (Z22 BK4.out 0).trans rfl
    have hd1 := (Z22 BK4.out 1).trans rfl
    have hd2 := (Z22 BK4.out 2).trans rfl
    have hd3 := (Z22 BK4.out 3).trans rfl
    have he0 := Z23 BK4.out 0
    have he1 := Z23 BK4.out 1
    have he2 := Z23 BK4.out 2
    have he3 := Z23 BK4.out 3
    have hne := NE.out
    have hne' := NE.out.symm
    go_wp2
    refine bodyPost_ret (results_cell_row rfl _ _ gb4 33 #[.slice A0 b.length c0, .slice A1 D1.length c1', .slice A2 U1.length c2, .slice A3 P1.length c3] (0, 0) _ rfl (by have h_ := set4_at BK4.out (.slice A0 b.length c0) (.slice A1 D1.length c1') (.slice A2 U1.length c2) (.slice A3 P1.length c3); unfold set4 at h_; exact h_) hu rfl (by kernel_rfl)) rfl ?_
    have hv := FoV.set4 HV.out BK4.out (by decide) (by decide) (.slice A0 b.length c0) (.slice A1 D1.length c1') (.slice A2 U1.length c2) (.slice A3 P1.length c3)
    have hbb := set4_below HB.out GE4.out (.slice A0 b.length c0) (.slice A1 D1.length c1') (.slice A2 U1.length c2) (.slice A3 P1.length c3)
    unfold set4 at hv hbb
    exact ⟨_, _, _, _, rfl, hv.r0, hv.r1, hv.r2, hv.r3, hbb⟩
   rw [if_pos c1] at H
   have b1 : decide (i < a1) = true := Z37 c1
   obtain ⟨⟨d', u', p', r⟩, hs, H⟩ := Z35.mp H
   obtain ⟨hd, hu', hp⟩ := HL.out
   have hbk := BK.out
   rw [← hd, ← hu', ← hp] at hbk
   have HBK := Ya hbk
   clear hbk c1
   have HV2 : Aside0 (FoV _ w.heap.size (.slice A0 b.length c0) (.slice A1 d.length c1') (.slice A2 u.length c2) (.slice A3 p.length c3) b d u p) := ⟨by have := HV.out; rw [← hd, ← hu', ← hp] at this; exact this⟩
   have H' := Ya H
   have HS := Ya hs
   obtain ⟨hl, hl0, hl1, hl2, hl3⟩ := stepF_len hs
   have HL2 := Ya hl
   obtain ⟨g0, q0, g1, q1, g2, q2, g3, q3, e0, e1, e2, e3, hF⟩ := FoR.of HV2.out.r0 HV2.out.r1 HV2.out.r2 HV2.out.r3 hl0 hl1 hl2 hl3
   injection e0 with x0 _ z0
   injection e1 with x1 _ z1
   injection e2 with x2 _ z2
   injection e3 with x3 _ z3
   subst x0 z0 x1 z1 x2 z2 x3 z3
   have HF := Ya hF
   clear H hs hl hl0 hl1 hl2 hl3 hF hd hu' hp HV HV2
   go_wp2_with (first | ((with_reducible refine gate_callee (f := 38) rfl ?_); refine Yz 11 Try.func38 #[.pointer (some ⟨gb5, 0, none⟩)] ?_ (hargs := Q22); (with_reducible refine (impl_Focus_step.calls w gb5 g0 c0 g1 c1' g2 c2 g3 c3 b d u p d' u' p' r _ HBK.out HF.out HB.out HS.out).mono ?_); rintro e w7 ⟨rfl, hk1, hk2, hk3, hk4⟩; refine ⟨_, rfl, ?_⟩; have ap_ := FoR.apart HF.out BK4.out (by decide) (by decide); have n1_ := Ya (blk_kept BK4.out hk3 (fun hs_ => by rcases hs_ with e | e | e; exact ap_.2.1 e; exact ap_.2.2.1 e; exact ap_.2.2.2 e)); have n0_ := Ya (hk1.trans BK.out); clear HBK BK HF BK4 HB ap_; have BK := n0_; have HF := Ya hk2; have BK4 := n1_; have HB := Ya hk4; clear n0_ n1_ hk1 hk2 hk3 hk4; have hv := FoR.back HF.out; have hV7 : FoV w7 w.heap.size (.slice (some ⟨g0, 0, none⟩) b.length c0) (.slice (some ⟨g1, 0, none⟩) d'.length c1') (.slice (some ⟨g2, 0, none⟩) u'.length c2) (.slice (some ⟨g3, 0, none⟩) p'.length c3) b d' u' p' := ⟨hv.1, hv.2.1, hv.2.2.1, hv.2.2.2⟩; rw [HL2.out.1, HL2.out.2.1, HL2.out.2.2, HL.out.1, HL.out.2.1, HL.out.2.2] at hV7; have HV := Ya hV7; clear hv hV7))
   go_roundg k1
   case measure => have := HK1.out; omega
   case rel => exact ⟨_, d', u', p', by first | rfl | (simp; done), H', ⟨Q23⟩, ⟨Q39⟩, BK, BK4, HV, HB⟩
def impl_mixedRank.f : Nat → List Int → List Int → Option (Int)
 | 0, _, _ => none
 | k + 1, l0, l1 => if (l1.length : Int) = 0 then (some 0) else (if 1 ≤ (l0.length : Int) then ((impl_size.f k (l0.drop 1)).bind fun t351 => (if 1 ≤ (l1.length : Int) then ((impl_mixedRank.f k (l0.drop 1) (l1.drop 1)).bind fun t354 => (if 0 < (l1.length : Int) then (if (Int.tmod (rd l1 0) 2) = 1 then (some (wrap64 ((wrap64 ((rd l1 0) * t351)) + (wrap64 ((wrap64 (t351 - 1)) - t354))))) else (some (wrap64 ((wrap64 ((rd l1 0) * t351)) + t354)))) else (none))) else (none))) else (none))
theorem impl_mixedRank.mono_l : ∀ k, (∀ y0 y1, LeO (impl_mixedRank.f k y0 y1) (impl_mixedRank.f (k + 1) y0 y1))
 | 0 => fun _ _ r h => by simp [impl_mixedRank.f] at h
 | k + 1 => by
  have ih0 := impl_mixedRank.mono_l k
  ·intro y0 y1
   unfold impl_mixedRank.f
   repeat' first
   | (with_reducible exact ih0 _ _)
   | (with_reducible exact impl_size.mono _ _)
   | (with_reducible exact LeO.refl _)
   | (with_reducible exact LeO.none _)
   | (with_reducible refine LeO.ite ?_ ?_)
   | (with_reducible refine LeO.bind ?_ (fun _ => ?_))
   | exact ih0 _ _
   | exact impl_size.mono _ _
   | exact LeO.none _
   | refine LeO.ite ?_ ?_
   | refine LeO.bind ?_ (fun _ => ?_)
theorem impl_mixedRank.mono : ∀ a0 a1 k, LeO (impl_mixedRank.f k a0 a1) (impl_mixedRank.f (k + 1) a0 a1) := by
 intro a0 a1 k
 have ih0 := impl_mixedRank.mono_l k
 exact ih0 a0 a1
def impl_mixedRank.T3 : Bool × List (List Nat × List Nat) := (true, [([], []), ([0], [0]), ([1], [1]), ([], []), ([3], [3]), ([], []), ([5], [5]), ([4, 6, 2], [4, 6]), ([2, 7, 0, 1, 2], [2]), ([7, 8, 0, 1, 2, 3, 4, 5, 6, 7, 8], [7])])
def impl_mixedRank.B3 : List Nat := [0, 1, 3, 0, 8, 0, 32, 127, 255, 511]
theorem impl_mixedRank.tab3 : rtab .any (opsOf Try.f47 3) = impl_mixedRank.T3 := by kernel_rfl
theorem impl_mixedRank.bits3 : waitsOk impl_mixedRank.T3.2 impl_mixedRank.B3 = true := by kernel_rfl
set_option maxHeartbeats 8000000 in
set_option maxRecDepth 100000 in
theorem impl_mixedRank.calls (k : Nat) : ∀ (A0 : Option Addr) (c0 : Nat) (l0 : List Int) (A1 : Option Addr) (c1 : Nat) (l1 : List Int) (r : Int) (w : World) (hr0 : Kd.C (Kd.int .i64) w A0 l0.length l0) (hc0 : l0.length ≤ c0) (hr1 : Kd.C (Kd.int .i64) w A1 l1.length l1) (hc1 : l1.length ≤ c1) (h : impl_mixedRank.f k l0 l1 = some r),
  Calls Try.prog 47 #[.slice A0 l0.length c0, .slice A1 l1.length c1] w fun e w' => e = .returned (.int .i64 r) ∧ Below w.heap.size w w' := by
 induction k using Nat.strongRecOn with
 | _ k ih =>
 intro A0 c0 l0 A1 c1 l1 r w hr0 hc0 hr1 hc1 h
 cases k with
 | zero => exact absurd h (by simp [impl_mixedRank.f])
 | succ k =>
 simp only [impl_mixedRank.f] at h
 have HR0 := Ya hr0
 have HC0 := Ya hc0
 clear hr0 hc0
 have HR1 := Ya hr1
 have HC1 := Ya hc1
 clear hr1 hc1
 have HB := Ya (Below.refl w.heap.size w)
 have H : (if (l1.length : Int) = 0 then (some 0) else (if 1 ≤ (l0.length : Int) then ((impl_size.f k (l0.drop 1)).bind fun t351 => (if 1 ≤ (l1.length : Int) then ((impl_mixedRank.f k (l0.drop 1) (l1.drop 1)).bind fun t354 => (if 0 < (l1.length : Int) then (if (Int.tmod (rd l1 0) 2) = 1 then (some (wrap64 ((wrap64 ((rd l1 0) * t351)) + (wrap64 ((wrap64 (t351 - 1)) - t354))))) else (some (wrap64 ((wrap64 ((rd l1 0) * t351)) + t354)))) else (none))) else (none))) else (none))) = some r := h
 clear h
 by_cases c3 : (l1.length : Int) = 0
 ·rw [if_pos c3] at H
  have c3b0 : ((l1.length : Int) == 0) = true := beq_iff_eq.mpr c3
  have c3b1 : ((l1.length : Int) != 0) = false := bne_eq_false_iff_eq.mpr c3
  clear c3
  obtain rfl := Option.some.inj H
  go_enter Try.func47, Try.ntmps47
  go_wp2
  go_ret
  exact ⟨Q1, Q12⟩
 ·rw [if_neg c3] at H
  have c3b0 : ((l1.length : Int) == 0) = false := beq_eq_false_iff_ne.mpr c3
  have c3b1 : ((l1.length : Int) != 0) = true := bne_iff_ne.mpr c3
  have c3b2 : ¬ (l1 = []) := fun h_ => c3 (by rw [h_]; rfl)
  by_cases c4 : 1 ≤ (l0.length : Int)
  ·rw [if_pos c4] at H
   have c4b0 := eq_true c4
   have c4b1 := Z37 c4
   have HLEc4 := Ya c4
   clear c4
   replace H := Z35.mp H
   obtain ⟨t351, A50, H⟩ := H
   replace H : (if 1 ≤ (l1.length : Int) then ((impl_mixedRank.f k (l0.drop 1) (l1.drop 1)).bind fun t354 => (if 0 < (l1.length : Int) then (if (Int.tmod (rd l1 0) 2) = 1 then (some (wrap64 ((wrap64 ((rd l1 0) * t351)) + (wrap64 ((wrap64 (t351 - 1)) - t354))))) else (some (wrap64 ((wrap64 ((rd l1 0) * t351)) + t354)))) else (none))) else (none)) = some r := H
   have A5 := Ya A50
   clear A50
   have c6b0 := eq_true (Z29 Q3 : 1 ≤ (l0.length : Int))
   by_cases c7 : 1 ≤ (l1.length : Int)
   ·rw [if_pos c7] at H
    have c7b0 := eq_true c7
    have c7b1 := Z37 c7
    have HLEc7 := Ya c7
    clear c7
    replace H := Z35.mp H
    obtain ⟨t354, A80, H⟩ := H
    replace H : (if 0 < (l1.length : Int) then (if (Int.tmod (rd l1 0) 2) = 1 then (some (wrap64 ((wrap64 ((rd l1 0) * t351)) + (wrap64 ((wrap64 (t351 - 1)) - t354))))) else (some (wrap64 ((wrap64 ((rd l1 0) * t351)) + t354)))) else (none)) = some r := H
    have A8 := Ya A80
    clear A80
    by_cases c9 : 0 < (l1.length : Int)
    ·rw [if_pos c9] at H
     have c9b0 := Z37 c9
     have c9b1 : decide (0 < l1.length) = true := Z37 (by omega)
     clear c9
     by_cases c10 : (Int.tmod (rd l1 0) 2) = 1
     ·rw [if_pos c10] at H
      have c10b0 : ((Int.tmod (rd l1 0) 2) == 1) = true := beq_iff_eq.mpr c10
      have c10b1 : ((Int.tmod (rd l1 0) 2) != 1) = false := bne_eq_false_iff_eq.mpr c10
      clear c10
      obtain rfl := Option.some.inj H
      go_enter Try.func47, Try.ntmps47
      try go_wp2
      replace HB := Ya (Z4 HB.out)
      obtain ⟨i012, hi012, _, hsz12, _⟩ := info_parts info3
      obtain ⟨A12, hcut12, hA12, hC12⟩ := print_drop_of (P := Try.prog) (Value.int .i64) 0 24 3 .i64 Try.underlying24 hi012 hsz12 A0 c0 l0 1 (by omega) (Z29 Q3) HC0.out
      have HR350 := Ya (Kd.C_of_reads (h1 := fun _ => rfl) (hA12 _ (Kd.reads_of_C HR0.out)))
      have HC350 := Ya hC12
      clear hA12 hC12 hi012 hsz12
      have HR352 := HR350
      have HC352 := HC350
      obtain ⟨i014, hi014, _, hsz14, _⟩ := info_parts info3
      obtain ⟨A14, hcut14, hA14, hC14⟩ := print_drop_of (P := Try.prog) (Value.int .i64) 0 24 3 .i64 Try.underlying24 hi014 hsz14 A1 c1 l1 1 (by omega) (Z29 Q3) HC1.out
      have HR353 := Ya (Kd.C_of_reads (h1 := fun _ => rfl) (hA14 _ (Kd.reads_of_C HR1.out)))
      have HC353 := Ya hC14
      clear hA14 hC14 hi014 hsz14
      refine start_ (n := 10) (S := fun w' => True) (ds := []) (YA 10 0) (by kernel_rfl) rfl rfl trivial (fun hHeld => ?_); refine with_tabW impl_mixedRank.tab3 impl_mixedRank.bits3 (fun HT_ HW_ => ?_)
      generalize w.drew = w11 at HB HR350 HR352 HR353 hHeld ⊢
      refine Yp 0 (some 10) (YA 10 1) rfl HT_.out ?_
      refine Yp 1 (some 11) (YA 10 3) rfl HT_.out ?_
      refine Yp 3 (some 13) (YA 10 11) rfl HT_.out ?_
      refine Yp 4 (some 14) (YA 10 27) rfl HT_.out ?_
      refine Yp 5 (some 15) (YA 10 59) rfl HT_.out ?_
      refine Yp 6 (some 16) (YA 10 123) rfl HT_.out ?_
      refine one_ (i := 2) (N := some 12) (YA 10 127) rfl rfl (one_of HT_.out (by kernel_rfl)) (by decide) (fun K hK => ?_)
      refine goes_ Try.func41 (by kernel_rfl) rfl #[.slice A12 (l0.drop 1).length (c0 - 1)] (by rfl) rfl rfl Q36 ?_
      with_reducible refine (impl_size.calls k _ _ (l0.drop 1) t351 _ ?side1 ?side2 A5.out).mono ?_
      (case side1 => exact Yc (Z21 HR350.out HB.out))
      (case side2 => exact HC350.out)
      rintro e w15 ⟨rfl, hb⟩
      refine ⟨_, rfl, ?_⟩
      replace HB := Yh hb
      (try clear hb)
      refine hK.out _ _ trivial (fun hHeld => ?_)
      clear hK K
      refine norm_ (a' := ?_) ?_ ?_
      rotate_left
      ·show Act.put _ (some 12) _ = _
       simp only [Act.put, Z0, Z1, Z2, i64_w, i32_w]
       rfl
      refine one_ (i := 7) (N := some 17) (YA 10 255) rfl rfl (one_of HT_.out (by kernel_rfl)) (by decide) (fun K hK => ?_)
      refine goes_ Try.func47 (by kernel_rfl) rfl #[.slice A12 (l0.drop 1).length (c0 - 1), .slice A14 (l1.drop 1).length (c1 - 1)] (by rfl) rfl rfl Q29 ?_
      with_reducible refine (ih k (by omega) _ _ (l0.drop 1) _ _ (l1.drop 1) t354 _ ?side1 ?side2 ?side3 ?side4 A8.out).mono ?_
      (case side1 => exact Yc (Z21 HR352.out HB.out))
      (case side2 => exact HC352.out)
      (case side3 => exact Yc (Z21 HR353.out HB.out))
      (case side4 => exact HC353.out)
      rintro e w16 ⟨rfl, hb⟩
      refine ⟨_, rfl, ?_⟩
      replace HB := Yh hb
      (try clear hb)
      refine hK.out _ _ trivial (fun hHeld => ?_)
      clear hK K
      refine norm_ (a' := ?_) ?_ ?_
      rotate_left
      ·show Act.put _ (some 17) _ = _
       simp only [Act.put, Z0, Z1, Z2, i64_w, i32_w]
       rfl
      refine Yp 8 (some 5) (YA 10 511) rfl HT_.out ?_
      refine Yp 9 (some 6) (YA 10 1023) rfl HT_.out ?_
      refine done_ (done_of HT_.out (by kernel_rfl)) ?_
      have p355 : 0 ≤ (0 : Int) := (by omega)
      have q355 : 0 < (l1.length : Int) := Z29 Q3
      obtain ⟨ad355, e355, hx355_0⟩ := Kd.at_int HR1.out 0 p355 q355
      cases e355
      have qi355 : (0 < l1.length) = True := eq_true (by omega)
      (try rw [show ((0 : Int)).toNat = 0 from rfl] at hx355_0)
      (try rw [Addr.add_zero'] at hx355_0)
      try replace hx355_0 := (HB.out.cell (World.block_lt_of_cell? w _ hx355_0)).trans hx355_0
      replace p355 := eq_true p355
      replace q355 := eq_true q355
      have p356 : 0 ≤ (0 : Int) := (by omega)
      have q356 : 0 < (l1.length : Int) := Z29 Q3
      obtain ⟨ad356, e356, hx356_0⟩ := Kd.at_int HR1.out 0 p356 q356
      obtain rfl : ad355 = ad356 := (by injection e356)
      have qi356 : (0 < l1.length) = True := eq_true (by omega)
      (try rw [show ((0 : Int)).toNat = 0 from rfl] at hx356_0)
      (try rw [Addr.add_zero'] at hx356_0)
      try replace hx356_0 := (HB.out.cell (World.block_lt_of_cell? w _ hx356_0)).trans hx356_0
      replace p356 := eq_true p356
      replace q356 := eq_true q356
      try go_wp2
      go_ret
      exact ⟨Q1, Q12⟩
     ·rw [if_neg c10] at H
      have c10b0 : ((Int.tmod (rd l1 0) 2) == 1) = false := beq_eq_false_iff_ne.mpr c10
      have c10b1 : ((Int.tmod (rd l1 0) 2) != 1) = true := bne_iff_ne.mpr c10
      obtain rfl := Option.some.inj H
      go_enter Try.func47, Try.ntmps47
      try go_wp2
      replace HB := Ya (Z4 HB.out)
      obtain ⟨i018, hi018, _, hsz18, _⟩ := info_parts info3
      obtain ⟨A18, hcut18, hA18, hC18⟩ := print_drop_of (P := Try.prog) (Value.int .i64) 0 24 3 .i64 Try.underlying24 hi018 hsz18 A0 c0 l0 1 (by omega) (Z29 Q3) HC0.out
      have HR350 := Ya (Kd.C_of_reads (h1 := fun _ => rfl) (hA18 _ (Kd.reads_of_C HR0.out)))
      have HC350 := Ya hC18
      clear hA18 hC18 hi018 hsz18
      have HR352 := HR350
      have HC352 := HC350
      obtain ⟨i020, hi020, _, hsz20, _⟩ := info_parts info3
      obtain ⟨A20, hcut20, hA20, hC20⟩ := print_drop_of (P := Try.prog) (Value.int .i64) 0 24 3 .i64 Try.underlying24 hi020 hsz20 A1 c1 l1 1 (by omega) (Z29 Q3) HC1.out
      have HR353 := Ya (Kd.C_of_reads (h1 := fun _ => rfl) (hA20 _ (Kd.reads_of_C HR1.out)))
      have HC353 := Ya hC20
      clear hA20 hC20 hi020 hsz20
      refine start_ (n := 10) (S := fun w' => True) (ds := []) (YA 10 0) (by kernel_rfl) rfl rfl trivial (fun hHeld => ?_); refine with_tabW impl_mixedRank.tab3 impl_mixedRank.bits3 (fun HT_ HW_ => ?_)
      generalize w.drew = w17 at HB HR350 HR352 HR353 hHeld ⊢
      refine Yp 0 (some 10) (YA 10 1) rfl HT_.out ?_
      refine Yp 1 (some 11) (YA 10 3) rfl HT_.out ?_
      refine Yp 3 (some 13) (YA 10 11) rfl HT_.out ?_
      refine Yp 4 (some 14) (YA 10 27) rfl HT_.out ?_
      refine Yp 5 (some 15) (YA 10 59) rfl HT_.out ?_
      refine Yp 6 (some 16) (YA 10 123) rfl HT_.out ?_
      refine one_ (i := 2) (N := some 12) (YA 10 127) rfl rfl (one_of HT_.out (by kernel_rfl)) (by decide) (fun K hK => ?_)
      refine goes_ Try.func41 (by kernel_rfl) rfl #[.slice A18 (l0.drop 1).length (c0 - 1)] (by rfl) rfl rfl Q36 ?_
      with_reducible refine (impl_size.calls k _ _ (l0.drop 1) t351 _ ?side1 ?side2 A5.out).mono ?_
      (case side1 => exact Yc (Z21 HR350.out HB.out))
      (case side2 => exact HC350.out)
      rintro e w21 ⟨rfl, hb⟩
      refine ⟨_, rfl, ?_⟩
      replace HB := Yh hb
      (try clear hb)
      refine hK.out _ _ trivial (fun hHeld => ?_)
      clear hK K
      refine norm_ (a' := ?_) ?_ ?_
      rotate_left
      ·show Act.put _ (some 12) _ = _
       simp only [Act.put, Z0, Z1, Z2, i64_w, i32_w]
       rfl
      refine one_ (i := 7) (N := some 17) (YA 10 255) rfl rfl (one_of HT_.out (by kernel_rfl)) (by decide) (fun K hK => ?_)
      refine goes_ Try.func47 (by kernel_rfl) rfl #[.slice A18 (l0.drop 1).length (c0 - 1), .slice A20 (l1.drop 1).length (c1 - 1)] (by rfl) rfl rfl Q29 ?_
      with_reducible refine (ih k (by omega) _ _ (l0.drop 1) _ _ (l1.drop 1) t354 _ ?side1 ?side2 ?side3 ?side4 A8.out).mono ?_
      (case side1 => exact Yc (Z21 HR352.out HB.out))
      (case side2 => exact HC352.out)
      (case side3 => exact Yc (Z21 HR353.out HB.out))
      (case side4 => exact HC353.out)
      rintro e w22 ⟨rfl, hb⟩
      refine ⟨_, rfl, ?_⟩
      replace HB := Yh hb
      (try clear hb)
      refine hK.out _ _ trivial (fun hHeld => ?_)
      clear hK K
      refine norm_ (a' := ?_) ?_ ?_
      rotate_left
      ·show Act.put _ (some 17) _ = _
       simp only [Act.put, Z0, Z1, Z2, i64_w, i32_w]
       rfl
      refine Yp 8 (some 5) (YA 10 511) rfl HT_.out ?_
      refine Yp 9 (some 6) (YA 10 1023) rfl HT_.out ?_
      refine done_ (done_of HT_.out (by kernel_rfl)) ?_
      have p355 : 0 ≤ (0 : Int) := (by omega)
      have q355 : 0 < (l1.length : Int) := Z29 Q3
      obtain ⟨ad355, e355, hx355_0⟩ := Kd.at_int HR1.out 0 p355 q355
      cases e355
      have qi355 : (0 < l1.length) = True := eq_true (by omega)
      (try rw [show ((0 : Int)).toNat = 0 from rfl] at hx355_0)
      (try rw [Addr.add_zero'] at hx355_0)
      try replace hx355_0 := (HB.out.cell (World.block_lt_of_cell? w _ hx355_0)).trans hx355_0
      replace p355 := eq_true p355
      replace q355 := eq_true q355
      have p357 : 0 ≤ (0 : Int) := (by omega)
      have q357 : 0 < (l1.length : Int) := Z29 Q3
      obtain ⟨ad357, e357, hx357_0⟩ := Kd.at_int HR1.out 0 p357 q357
      obtain rfl : ad355 = ad357 := (by injection e357)
      have qi357 : (0 < l1.length) = True := eq_true (by omega)
      (try rw [show ((0 : Int)).toNat = 0 from rfl] at hx357_0)
      (try rw [Addr.add_zero'] at hx357_0)
      try replace hx357_0 := (HB.out.cell (World.block_lt_of_cell? w _ hx357_0)).trans hx357_0
      replace p357 := eq_true p357
      replace q357 := eq_true q357
      try go_wp2
      go_ret
      exact ⟨Q1, Q12⟩
    ·rw [if_neg c9] at H
     exact absurd H (by simp)
   ·rw [if_neg c7] at H
    exact absurd H (by simp)
  ·rw [if_neg c4] at H
   exact absurd H (by simp)
def impl_areDigits.l0 : Nat → List Int → List Int → List Int → Int → Int → Option (Bool)
 | 0, _, _, _, _, _ => none
 | k + 1, x0, x1, x7, x8, x9 => if x9 < x8 then (if 0 ≤ x9 then (if x9 < (x7.length : Int) then (if x9 ≥ (x0.length : Int) then (some false) else (if x9 < (x0.length : Int) then ((impl_within.f (rd x7 x9) 0 (wrap64 ((rd x0 x9) - 1))).bind fun t360 => (if t360 = true then (impl_areDigits.l0 k x0 x1 x7 x8 (wrap64 (x9 + 1))) else (some false))) else (none))) else (none)) else (none)) else (some ((x1.length : Int) == (x0.length : Int)))
def impl_areDigits.f (k : Nat) (l0 : List Int) (l1 : List Int) : Option (Bool) := impl_areDigits.l0 k l0 l1 l1 (l1.length : Int) 0
theorem impl_areDigits.mono_l : ∀ k, (∀ y0 y1 y2 y3 y4, LeO (impl_areDigits.l0 k y0 y1 y2 y3 y4) (impl_areDigits.l0 (k + 1) y0 y1 y2 y3 y4))
 | 0 => fun _ _ _ _ _ r h => by simp [impl_areDigits.l0] at h
 | k + 1 => by
  have ih0 := impl_areDigits.mono_l k
  ·intro y0 y1 y2 y3 y4
   unfold impl_areDigits.l0
   repeat' first
   | (with_reducible exact ih0 _ _ _ _ _)
   | (with_reducible exact LeO.refl _)
   | (with_reducible exact LeO.none _)
   | (with_reducible refine LeO.ite ?_ ?_)
   | (with_reducible refine LeO.bind ?_ (fun _ => ?_))
   | exact ih0 _ _ _ _ _
   | exact LeO.none _
   | refine LeO.ite ?_ ?_
   | refine LeO.bind ?_ (fun _ => ?_)
theorem impl_areDigits.mono : ∀ a0 a1 k, LeO (impl_areDigits.f k a0 a1) (impl_areDigits.f (k + 1) a0 a1) := by
 intro a0 a1 k
 have ih0 := impl_areDigits.mono_l k
 unfold impl_areDigits.f
 repeat' first
   | (with_reducible exact ih0 _ _ _ _ _)
   | (with_reducible exact LeO.refl _)
   | (with_reducible exact LeO.none _)
   | (with_reducible refine LeO.ite ?_ ?_)
   | (with_reducible refine LeO.bind ?_ (fun _ => ?_))
   | exact ih0 _ _ _ _ _
   | exact LeO.none _
   | refine LeO.ite ?_ ?_
   | refine LeO.bind ?_ (fun _ => ?_)
set_option maxHeartbeats 8000000 in
set_option maxRecDepth 100000 in
theorem impl_areDigits.calls (k : Nat) (A0 : Option Addr) (c0 : Nat) (l0 : List Int) (A1 : Option Addr) (c1 : Nat) (l1 : List Int) (r : Bool) (w : World) (hr0 : Kd.C (Kd.int .i64) w A0 l0.length l0) (hc0 : l0.length ≤ c0) (hr1 : Kd.C (Kd.int .i64) w A1 l1.length l1) (hc1 : l1.length ≤ c1) (h : impl_areDigits.f k l0 l1 = some r) :
  Calls Try.prog 52 #[.slice A0 l0.length c0, .slice A1 l1.length c1] w fun e w' => e = .returned (.bool r) ∧ Drawn0 w w' := by
 have HR0 := Ya hr0
 have HC0 := Ya hc0
 clear hr0 hc0
 have HR1 := Ya hr1
 have HC1 := Ya hc1
 clear hr1 hc1
 have H : (impl_areDigits.l0 k l0 l1 l1 (l1.length : Int) 0) = some r := h
 clear h
 have H' := Ya H
 clear H
 go_enter Try.func52, Try.ntmps52
 go_wp2
 go_loopg [9] k (fun kq v9 w' => ∃ (x9_1 : Int), v9 = .int .i64 x9_1 ∧ Aside0 (impl_areDigits.l0 kq l0 l1 l1 (l1.length : Int) x9_1 = some r) ∧ Aside0 (kq ≤ k) ∧ Drawn0 w w')
 case atStart => exact ⟨(0), Q8, H', ⟨Nat.le_refl _⟩, Q11⟩
 case round =>
  clear H'
  try clear c1
  try clear p2
  obtain ⟨x9_1, rfl, HA, HK1, ⟨m1, rfl⟩⟩ := hrel
  cases gk with
  | zero => exact absurd HA.out (by simp [impl_areDigits.l0])
  | succ k1 =>
   have H := HA.out
   clear HA
   simp only [impl_areDigits.l0] at H
   by_cases c3 : x9_1 < (l1.length : Int)
   ·rw [if_pos c3] at H
    have c3b0 := Z37 c3
    clear c3
    by_cases c4 : 0 ≤ x9_1
    ·rw [if_pos c4] at H
     have c4b0 := Z37 c4
     clear c4
     by_cases c5 : x9_1 < (l1.length : Int)
     ·rw [if_pos c5] at H
      have c5b0 := Z37 c5
      clear c5
      by_cases c6 : x9_1 ≥ (l0.length : Int)
      ·rw [if_pos c6] at H
       have c6b0 : decide ((l0.length : Int) ≤ x9_1) = true := Z37 c6
       clear c6
       obtain rfl := Option.some.inj H
       have p358 : 0 ≤ (x9_1 : Int) := Z29 Q3
       have q358 : x9_1 < (l1.length : Int) := Z29 Q3
       obtain ⟨ad358, e358, hx358_0⟩ := Kd.at_int HR1.out x9_1 p358 q358
       cases e358
       replace p358 := eq_true p358
       replace q358 := eq_true q358
       go_wp2
       go_ret
       exact ⟨Q15, Q11⟩
      ·rw [if_neg c6] at H
       have c6b0 : decide ((l0.length : Int) ≤ x9_1) = false := Z36 c6
       clear c6
       by_cases c7 : x9_1 < (l0.length : Int)
       ·rw [if_pos c7] at H
        have c7b0 := Z37 c7
        clear c7
        replace H := Z35.mp H
        obtain ⟨t360, A80, H⟩ := H
        replace H : (if t360 = true then (impl_areDigits.l0 k1 l0 l1 l1 (l1.length : Int) (wrap64 (x9_1 + 1))) else (some false)) = some r := H
        have A8 := Ya A80
        clear A80
        by_cases c9 : t360 = true
        ·subst c9
         have H1 : (impl_areDigits.l0 k1 l0 l1 l1 (l1.length : Int) (wrap64 (x9_1 + 1))) = some r := by rw [if_pos rfl] at H; exact H
         clear H
         have H := H1
         clear H1
         have H' := Ya H
         clear H
         have p358 : 0 ≤ (x9_1 : Int) := Z29 Q3
         have q358 : x9_1 < (l1.length : Int) := Z29 Q3
         obtain ⟨ad358, e358, hx358_0⟩ := Kd.at_int HR1.out x9_1 p358 q358
         cases e358
         replace p358 := eq_true p358
         replace q358 := eq_true q358
         have p359 : 0 ≤ (x9_1 : Int) := Z29 Q3
         have q359 : x9_1 < (l0.length : Int) := Z29 Q3
         obtain ⟨ad359, e359, hx359_0⟩ := Kd.at_int HR0.out x9_1 p359 q359
         cases e359
         replace p359 := eq_true p359
         replace q359 := eq_true q359
         go_wp2_with (first | (go_at_call 30; (with_reducible refine (impl_within.calls (rd l1 x9_1) 0 (wrap64 ((rd l0 x9_1) - 1)) true _ A8.out).mono ?_); rintro e w' ⟨rfl, ⟨nd, rfl⟩⟩))
         go_roundg k1
         case measure => have := HK1.out; omega
         case rel => exact ⟨(wrap64 (x9_1 + 1)), Q8, H', ⟨Q23⟩, Q11⟩
        ·replace c9 := Bool.eq_false_iff.mpr c9
         subst c9
         have H1 : (some false) = some r := by rw [if_neg (show ¬ (false = true) by decide)] at H; exact H
         clear H
         have H := H1
         clear H1
         obtain rfl := Option.some.inj H
         have p358 : 0 ≤ (x9_1 : Int) := Z29 Q3
         have q358 : x9_1 < (l1.length : Int) := Z29 Q3
         obtain ⟨ad358, e358, hx358_0⟩ := Kd.at_int HR1.out x9_1 p358 q358
         cases e358
         replace p358 := eq_true p358
         replace q358 := eq_true q358
         have p359 : 0 ≤ (x9_1 : Int) := Z29 Q3
         have q359 : x9_1 < (l0.length : Int) := Z29 Q3
         obtain ⟨ad359, e359, hx359_0⟩ := Kd.at_int HR0.out x9_1 p359 q359
         cases e359
         replace p359 := eq_true p359
         replace q359 := eq_true q359
         go_wp2_with (first | (go_at_call 30; (with_reducible refine (impl_within.calls (rd l1 x9_1) 0 (wrap64 ((rd l0 x9_1) - 1)) false _ A8.out).mono ?_); rintro e w' ⟨rfl, ⟨nd, rfl⟩⟩))
         go_ret
         exact ⟨Q15, Q11⟩
       ·rw [if_neg c7] at H
        exact absurd H (by simp)
     ·rw [if_neg c5] at H
      exact absurd H (by simp)
    ·rw [if_neg c4] at H
     exact absurd H (by simp)
   ·rw [if_neg c3] at H
    have c3b0 := Z36 c3
    clear c3
    obtain rfl := Option.some.inj H
    go_wp2
    go_ret
    exact ⟨Q15, Q11⟩
def slices_Equal_int_int.l0 : Nat → List Int → List Int → Int → Int → Option (Bool)
 | 0, _, _, _, _ => none
 | k + 1, x0, x1, x12, x13 => if x13 < x12 then (if 0 ≤ x13 then (if x13 < (x0.length : Int) then (if x13 < (x1.length : Int) then (if (rd x0 x13) = (rd x1 x13) then (slices_Equal_int_int.l0 k x0 x1 x12 (wrap64 (x13 + 1))) else (some false)) else (none)) else (none)) else (none)) else (some true)
def slices_Equal_int_int.f (k : Nat) (l0 : List Int) (l1 : List Int) : Option (Bool) := if (l0.length : Int) = (l1.length : Int) then (slices_Equal_int_int.l0 k l0 l1 (l0.length : Int) 0) else (some false)
theorem slices_Equal_int_int.mono_l : ∀ k, (∀ y0 y1 y2 y3, LeO (slices_Equal_int_int.l0 k y0 y1 y2 y3) (slices_Equal_int_int.l0 (k + 1) y0 y1 y2 y3))
 | 0 => fun _ _ _ _ r h => by simp [slices_Equal_int_int.l0] at h
 | k + 1 => by
  have ih0 := slices_Equal_int_int.mono_l k
  ·intro y0 y1 y2 y3
   unfold slices_Equal_int_int.l0
   repeat' first
   | (with_reducible exact ih0 _ _ _ _)
   | (with_reducible exact LeO.refl _)
   | (with_reducible exact LeO.none _)
   | (with_reducible refine LeO.ite ?_ ?_)
   | (with_reducible refine LeO.bind ?_ (fun _ => ?_))
   | exact ih0 _ _ _ _
   | exact LeO.none _
   | refine LeO.ite ?_ ?_
   | refine LeO.bind ?_ (fun _ => ?_)
theorem slices_Equal_int_int.mono : ∀ a0 a1 k, LeO (slices_Equal_int_int.f k a0 a1) (slices_Equal_int_int.f (k + 1) a0 a1) := by
 intro a0 a1 k
 have ih0 := slices_Equal_int_int.mono_l k
 unfold slices_Equal_int_int.f
 repeat' first
   | (with_reducible exact ih0 _ _ _ _)
   | (with_reducible exact LeO.refl _)
   | (with_reducible exact LeO.none _)
   | (with_reducible refine LeO.ite ?_ ?_)
   | (with_reducible refine LeO.bind ?_ (fun _ => ?_))
   | exact ih0 _ _ _ _
   | exact LeO.none _
   | refine LeO.ite ?_ ?_
   | refine LeO.bind ?_ (fun _ => ?_)
set_option maxHeartbeats 8000000 in
set_option maxRecDepth 100000 in
theorem slices_Equal_int_int.calls (k : Nat) (A0 : Option Addr) (c0 : Nat) (l0 : List Int) (A1 : Option Addr) (c1 : Nat) (l1 : List Int) (r : Bool) (w : World) (hr0 : Kd.C (Kd.int .i64) w A0 l0.length l0) (hc0 : l0.length ≤ c0) (hr1 : Kd.C (Kd.int .i64) w A1 l1.length l1) (hc1 : l1.length ≤ c1) (h : slices_Equal_int_int.f k l0 l1 = some r) :
  Calls Try.prog 67 #[.slice A0 l0.length c0, .slice A1 l1.length c1] w fun e w' => e = .returned (.bool r) ∧ Drawn0 w w' := by
 have HR0 := Ya hr0
 have HC0 := Ya hc0
 clear hr0 hc0
 have HR1 := Ya hr1
 have HC1 := Ya hc1
 clear hr1 hc1
 have H : (if (l0.length : Int) = (l1.length : Int) then (slices_Equal_int_int.l0 k l0 l1 (l0.length : Int) 0) else (some false)) = some r := h
 clear h
 by_cases c3 : (l0.length : Int) = (l1.length : Int)
 ·rw [if_pos c3] at H
  have c3b0 : ((l0.length : Int) == (l1.length : Int)) = true := beq_iff_eq.mpr c3
  have c3b1 : ((l0.length : Int) != (l1.length : Int)) = false := bne_eq_false_iff_eq.mpr c3
  have c3b2 : (l0.length == l1.length) = true := by first | simpa using c3 | (simp at c3 ⊢; omega)
  clear c3
  have H' := Ya H
  clear H
  go_enter Try.func67, Try.ntmps67
  go_wp2
  repeat (go_quiet (fail); try go_wp2)
  go_loopg [13] k (fun kq v13 w' => ∃ (x13_1 : Int), v13 = .int .i64 x13_1 ∧ Aside0 (slices_Equal_int_int.l0 kq l0 l1 (l0.length : Int) x13_1 = some r) ∧ Aside0 (kq ≤ k) ∧ Drawn0 w w')
  case atStart => exact ⟨(0), Q8, H', ⟨Nat.le_refl _⟩, Q11⟩
  case round =>
   clear H'
   try clear c1
   try clear p2
   try clear c3
   try clear c3b0
   try clear c3b1
   try clear c3b2
   obtain ⟨x13_1, rfl, HA, HK1, ⟨m1, rfl⟩⟩ := hrel
   cases gk with
   | zero => exact absurd HA.out (by simp [slices_Equal_int_int.l0])
   | succ k1 =>
    have H := HA.out
    clear HA
    simp only [slices_Equal_int_int.l0] at H
    by_cases c4 : x13_1 < (l0.length : Int)
    ·rw [if_pos c4] at H
     have c4b0 := Z37 c4
     clear c4
     by_cases c5 : 0 ≤ x13_1
     ·rw [if_pos c5] at H
      have c5b0 := Z37 c5
      clear c5
      by_cases c6 : x13_1 < (l0.length : Int)
      ·rw [if_pos c6] at H
       have c6b0 := Z37 c6
       clear c6
       by_cases c7 : x13_1 < (l1.length : Int)
       ·rw [if_pos c7] at H
        have c7b0 := Z37 c7
        clear c7
        by_cases c8 : (rd l0 x13_1) = (rd l1 x13_1)
        ·rw [if_pos c8] at H
         have c8b0 : ((rd l0 x13_1) == (rd l1 x13_1)) = true := beq_iff_eq.mpr c8
         have c8b1 : ((rd l0 x13_1) != (rd l1 x13_1)) = false := bne_eq_false_iff_eq.mpr c8
         clear c8
         have H' := Ya H
         clear H
         have p361 : 0 ≤ (x13_1 : Int) := Z29 Q3
         have q361 : x13_1 < (l0.length : Int) := Z29 Q3
         obtain ⟨ad361, e361, hx361_0⟩ := Kd.at_int HR0.out x13_1 p361 q361
         cases e361
         replace p361 := eq_true p361
         replace q361 := eq_true q361
         have p362 : 0 ≤ (x13_1 : Int) := Z29 Q3
         have q362 : x13_1 < (l1.length : Int) := Z29 Q3
         obtain ⟨ad362, e362, hx362_0⟩ := Kd.at_int HR1.out x13_1 p362 q362
         cases e362
         replace p362 := eq_true p362
         replace q362 := eq_true q362
         go_wp2
         repeat (go_quiet (fail); try go_wp2)
         go_roundg k1
         case measure => have := HK1.out; omega
         case rel => exact ⟨(wrap64 (x13_1 + 1)), Q8, H', ⟨Q23⟩, Q11⟩
        ·rw [if_neg c8] at H
         have c8b0 : ((rd l0 x13_1) == (rd l1 x13_1)) = false := beq_eq_false_iff_ne.mpr c8
         have c8b1 : ((rd l0 x13_1) != (rd l1 x13_1)) = true := bne_iff_ne.mpr c8
         obtain rfl := Option.some.inj H
         have p361 : 0 ≤ (x13_1 : Int) := Z29 Q3
         have q361 : x13_1 < (l0.length : Int) := Z29 Q3
         obtain ⟨ad361, e361, hx361_0⟩ := Kd.at_int HR0.out x13_1 p361 q361
         cases e361
         replace p361 := eq_true p361
         replace q361 := eq_true q361
         have p362 : 0 ≤ (x13_1 : Int) := Z29 Q3
         have q362 : x13_1 < (l1.length : Int) := Z29 Q3
         obtain ⟨ad362, e362, hx362_0⟩ := Kd.at_int HR1.out x13_1 p362 q362
         cases e362
         replace p362 := eq_true p362
         replace q362 := eq_true q362
         go_wp2
         repeat (go_quiet (fail); try go_wp2)
         go_ret
         exact ⟨Q15, Q11⟩
       ·rw [if_neg c7] at H
        exact absurd H (by simp)
      ·rw [if_neg c6] at H
       exact absurd H (by simp)
     ·rw [if_neg c5] at H
      exact absurd H (by simp)
    ·rw [if_neg c4] at H
     have c4b0 := Z36 c4
     clear c4
     obtain rfl := Option.some.inj H
     go_wp2
     repeat (go_quiet (fail); try go_wp2)
     go_ret
     exact ⟨Q15, Q11⟩
 ·rw [if_neg c3] at H
  have c3b0 : ((l0.length : Int) == (l1.length : Int)) = false := beq_eq_false_iff_ne.mpr c3
  have c3b1 : ((l0.length : Int) != (l1.length : Int)) = true := bne_iff_ne.mpr c3
  have c3b2 : (l0.length == l1.length) = false := by first | simpa using c3 | (simp at c3 ⊢; omega)
  obtain rfl := Option.some.inj H
  go_enter Try.func67, Try.ntmps67
  go_wp2
  repeat (go_quiet (fail); try go_wp2)
  go_ret
  exact ⟨Q15, Q11⟩
end Go.Proofs.Ytapbbmicfkbafaa.MFnFocusRuns
