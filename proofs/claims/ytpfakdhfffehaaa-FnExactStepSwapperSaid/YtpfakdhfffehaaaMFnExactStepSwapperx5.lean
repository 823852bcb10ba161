import Derived.Test.YtpfakdhfffehaaaMFnExactStepSwapperx0
import Derived.Test.YtpfakdhfffehaaaMFnExactStepSwapperx3
import Derived.Test.YtpfakdhfffehaaaMFnExactStepSwapperx4
namespace Go.Proofs.Ytpfakdhfffehaaa.MFnExactStepSwapper
open Go.RowKit Go.Proofs.YtpfakdhfffehaaaW.PrintWords Go.Proofs.YtpfakdhfffehaaaW.PrintLast Go.Proofs.YtpfakdhfffehaaaW.PrintMore
attribute [local go_sem] max2_int min2_int max_two min_two max_three min_three max_four min_four   
set_option linter.unusedVariables false
set_option linter.unusedSimpArgs false
def spec_foAt.l0 : Nat → Int → List Int → List Int → List Bool → List Int → Option (List Int × List Int × List Bool × List Int × Bool)
 | 0, _, _, _, _, _ => none
 | k + 1, x1, x267000, x267001, x267002, x267003 => if x1 > 0 then ((spec_foStep.f x267000 x267001 x267002 x267003).bind fun bt267 => (if bt267.2.2.2.2 < 0 then (some (([] : List Int), ([] : List Int), ([] : List Bool), ([] : List Int), false)) else (spec_foAt.l0 k (wrap64 (x1 - 1)) bt267.1 bt267.2.1 bt267.2.2.1 bt267.2.2.2.1))) else (some (x267000, x267001, x267002, x267003, true))
def spec_foAt.f (k : Nat) (l0 : List Int) (a1 : Int) : Option (List Int × List Int × List Bool × List Int × Bool) := (spec_foStart.f k l0).bind fun bt254 => (spec_foAt.l0 k a1 bt254.1 bt254.2.1 bt254.2.2.1 bt254.2.2.2)
theorem spec_foAt.mono_l : ∀ k, (∀ y0 y1 y2 y3 y4, LeO (spec_foAt.l0 k y0 y1 y2 y3 y4) (spec_foAt.l0 (k + 1) y0 y1 y2 y3 y4))
 | 0 => fun _ _ _ _ _ r h => by simp [spec_foAt.l0] at h
 | k + 1 => by
  have ih0 := spec_foAt.mono_l k
  ·intro y0 y1 y2 y3 y4
   unfold spec_foAt.l0
   repeat' first
   | (with_reducible exact ih0 _ _ _ _ _)
   | (with_reducible exact spec_foStart.mono _ _)
   | (with_reducible exact LeO.refl _)
   | (with_reducible exact LeO.none _)
   | (with_reducible refine LeO.ite ?_ ?_)
   | (with_reducible refine LeO.bind ?_ (fun _ => ?_))
   | exact ih0 _ _ _ _ _
   | exact spec_foStart.mono _ _
   | exact LeO.none _
   | refine LeO.ite ?_ ?_
   | refine LeO.bind ?_ (fun _ => ?_)
theorem spec_foAt.mono : ∀ a0 a1 k, LeO (spec_foAt.f k a0 a1) (spec_foAt.f (k + 1) a0 a1) := by
 intro a0 a1 k
 have ih0 := spec_foAt.mono_l k
 unfold spec_foAt.f
 repeat' first
   | (with_reducible exact ih0 _ _ _ _ _)
   | (with_reducible exact spec_foStart.mono _ _)
   | (with_reducible exact LeO.refl _)
   | (with_reducible exact LeO.none _)
   | (with_reducible refine LeO.ite ?_ ?_)
   | (with_reducible refine LeO.bind ?_ (fun _ => ?_))
   | exact ih0 _ _ _ _ _
   | exact spec_foStart.mono _ _
   | exact LeO.none _
   | refine LeO.ite ?_ ?_
   | refine LeO.bind ?_ (fun _ => ?_)
set_option maxHeartbeats 8000000 in
set_option maxRecDepth 100000 in
theorem spec_foAt.calls (k : Nat) (A0 : Option Addr) (c0 : Nat) (l0 : List Int) (a1 : Int) (r1 : List Int) (r2 : List Int) (r3 : List Bool) (r4 : List Int) (r5 : Bool) (w : World) (hr0 : Kd.C (Kd.int .i64) w A0 l0.length l0) (hc0 : l0.length ≤ c0) (h : spec_foAt.f k l0 a1 = some (r1, r2, r3, r4, r5)) :
  Calls Try.prog 60 #[.slice A0 l0.length c0, .int .i64 a1] w fun e w' => ∃ v0_ v1_ v2_ v3_ : Value, e = .returned (.tuple #[.agg #[v0_, v1_, v2_, v3_], .bool r5]) ∧ Kd.R (Kd.int .i64) 3 w' w.heap.size (fun k_ => some k_ ≠ (v1_ : Value).ownBlock ∧ some k_ ≠ (v3_ : Value).ownBlock) v0_ r1 ∧ Kd.R (Kd.int .i64) 3 w' w.heap.size (fun k_ => some k_ ≠ (v0_ : Value).ownBlock ∧ some k_ ≠ (v3_ : Value).ownBlock) v1_ r2 ∧ Kd.R Kd.bool 4 w' w.heap.size (fun _ => True) v2_ r3 ∧ Kd.R (Kd.int .i64) 3 w' w.heap.size (fun k_ => some k_ ≠ (v0_ : Value).ownBlock ∧ some k_ ≠ (v1_ : Value).ownBlock) v3_ r4 ∧ Below w.heap.size w w' := by
 have hu27 := Try.underlying27
 have HR0 := Ya hr0
 have HC0 := Ya hc0
 clear hr0 hc0
 have HB := Ya (Below.refl w.heap.size w)
 have H : ((spec_foStart.f k l0).bind fun bt254 => (spec_foAt.l0 k a1 bt254.1 bt254.2.1 bt254.2.2.1 bt254.2.2.2)) = some (r1, r2, r3, r4, r5) := h
 clear h
 replace H := Z36.mp H
 obtain ⟨⟨t254, t257, t260, t263⟩, A30, H⟩ := H
 replace H : (spec_foAt.l0 k a1 t254 t257 t260 t263) = some (r1, r2, r3, r4, r5) := H
 have A3 := Ya A30
 clear A30
 have H' := Ya H
 clear H
 go_enter Try.func60, Try.ntmps60
 go_wp2_with (first | ((with_reducible refine gate_dst (N := 4) rfl ?_); refine Yx 4 YN4 27 ?_; intro gb253 hg w4 hbox hb; have BK253 := Ya hbox; have GE253 := Yg hg; replace HB := Yh hb; clear hb hbox hg) | ((with_reducible refine gate_callee (f := 78) rfl ?_); refine Yz 10 Try.func78 #[.slice A0 l0.length c0] ?_; (with_reducible refine (spec_foStart.calls k _ _ l0 t254 t257 t260 t263 _ (Yc (Z22 HR0.out HB.out)) HC0.out A3.out).mono ?_); rintro e w5 ⟨v255, v258, v261, v264, rfl, ho0, ho1, ho2, ho3, hb⟩; refine ⟨_, rfl, ?_⟩; have HO256 := Yl ho0; have HO259 := Yl ho1; have HO262 := Yl ho2; have HO265 := Yl ho3; replace BK253 := Yb BK253 hb; replace HB := Yh hb; (try clear hb ho0 ho1 ho2 ho3)) | ((with_reducible refine gate_dst (N := 6) rfl ?_); refine Yx 6 YN4 27 ?_; intro gb266 hg w6 hbox hb; replace HO256 := Yw HO256 hb; replace HO259 := Yw HO259 hb; replace HO262 := Yw HO262 hb; replace HO265 := Yw HO265 hb; have BK266 := Ya hbox; have GE266 := Yg hg; replace HB := Yh hb; have NB253_266 := Yn BK253 hg; have NB266_253 := Ym BK253 hg; replace BK253 := Yb BK253 hb; clear hb hbox hg; obtain ⟨Ao7, co7, rfl⟩ := Z19 HO256.out; have hnb8 := NB266_253.out; have hnc8 := NB253_266.out; obtain ⟨hcz9_0, hcz9_1, hcz9_2, hcz9_3, hfz9_0, hfz9_1, hfz9_2, hfz9_3⟩ := Y4 BK266.out; obtain ⟨Ao10, co10, rfl⟩ := Z19 HO259.out; obtain ⟨Ao11, co11, rfl⟩ := Z19 HO262.out; obtain ⟨Ao12, co12, rfl⟩ := Z19 HO265.out))
 go_loopg [1] k (fun kq v1 w' => ∃ (x1_1 : Int) (x267000_1 : List Int) (x267001_1 : List Int) (x267002_1 : List Bool) (x267003_1 : List Int) (u267000 : Value) (u267001 : Value) (u267002 : Value) (u267003 : Value), v1 = .int .i64 x1_1 ∧ Aside0 (spec_foAt.l0 kq x1_1 x267000_1 x267001_1 x267002_1 x267003_1 = some (r1, r2, r3, r4, r5)) ∧ Aside0 (kq ≤ k) ∧ Aside0 (Kd.R (Kd.int .i64) 3 w' w.heap.size (fun k_ => some k_ ≠ (u267001 : Value).ownBlock ∧ some k_ ≠ (u267003 : Value).ownBlock) u267000 x267000_1) ∧ Aside0 (Kd.R (Kd.int .i64) 3 w' w.heap.size (fun k_ => some k_ ≠ (u267000 : Value).ownBlock ∧ some k_ ≠ (u267003 : Value).ownBlock) u267001 x267001_1) ∧ Aside0 (Kd.R Kd.bool 4 w' w.heap.size (fun _ => True) u267002 x267002_1) ∧ Aside0 (Kd.R (Kd.int .i64) 3 w' w.heap.size (fun k_ => some k_ ≠ (u267000 : Value).ownBlock ∧ some k_ ≠ (u267001 : Value).ownBlock) u267003 x267003_1) ∧ Aside0 (w'.heap[gb253]? = some (.cells #[(.slice none 0 0), (.slice none 0 0), (.slice none 0 0), (.slice none 0 0)] 27 (0, 0))) ∧ Aside0 (w'.heap[gb266]? = some (.cells #[u267000, u267001, u267002, u267003] 27 (0, 0))) ∧ Aside0 (Below w.heap.size w w'))
 case atStart => exact ⟨(a1), (t254), (t257), (t260), (t263), (.slice Ao7 t254.length co7), (.slice Ao10 t257.length co10), (.slice Ao11 t260.length co11), (.slice Ao12 t263.length co12), Q8, H', ⟨Nat.le_refl _⟩, ⟨Yj (Yf4 HO256.out BK266.out) (fun _ hk => ⟨hk.1.1, hk.1.2⟩)⟩, ⟨Yj (Yf4 HO259.out BK266.out) (fun _ hk => ⟨hk.1.1, hk.1.2⟩)⟩, ⟨Yj (Yf4 HO262.out BK266.out) (fun _ hk => trivial)⟩, ⟨Yj (Yf4 HO265.out BK266.out) (fun _ hk => ⟨hk.1.1, hk.1.2⟩)⟩, ⟨by (with_reducible repeat (first | refine Z25 ?_ _ | refine Z26 ?_ | refine Z27 ?_ _)); refine blk_far ?_ NB253_266.out _; (with_reducible repeat (first | refine Z25 ?_ _ | refine Z26 ?_ | refine Z27 ?_ _)); refine blk_far ?_ NB253_266.out _; (with_reducible repeat (first | refine Z25 ?_ _ | refine Z26 ?_ | refine Z27 ?_ _)); refine blk_far ?_ NB253_266.out _; (with_reducible repeat (first | refine Z25 ?_ _ | refine Z26 ?_ | refine Z27 ?_ _)); refine blk_far ?_ NB253_266.out _; (with_reducible repeat (first | refine Z25 ?_ _ | refine Z26 ?_ | refine Z27 ?_ _)); exact BK253.out⟩, ⟨by (with_reducible repeat (first | refine Z25 ?_ _ | refine Z26 ?_ | refine Z27 ?_ _)); refine Z29 (cs := #[.slice Ao7 t254.length co7, .slice Ao10 t257.length co10, .slice Ao11 t260.length co11, .slice none 0 0]) ?_ 3 _ rfl; (with_reducible repeat (first | refine Z25 ?_ _ | refine Z26 ?_ | refine Z27 ?_ _)); refine Z29 (cs := #[.slice Ao7 t254.length co7, .slice Ao10 t257.length co10, .slice none 0 0, .slice none 0 0]) ?_ 2 _ rfl; (with_reducible repeat (first | refine Z25 ?_ _ | refine Z26 ?_ | refine Z27 ?_ _)); refine Z29 (cs := #[.slice Ao7 t254.length co7, .slice none 0 0, .slice none 0 0, .slice none 0 0]) ?_ 1 _ rfl; (with_reducible repeat (first | refine Z25 ?_ _ | refine Z26 ?_ | refine Z27 ?_ _)); refine Z29 (cs := YN4) ?_ 0 _ rfl; (with_reducible repeat (first | refine Z25 ?_ _ | refine Z26 ?_ | refine Z27 ?_ _)); exact BK266.out⟩, ⟨Q12⟩⟩
 case round =>
  clear H'
  try clear p2
  try clear c6
  try clear c7
  try clear c8
  try clear hcz9_0
  try clear hcz9_1
  try clear hcz9_2
  try clear hcz9_3
  try clear hfz9_0
  try clear hfz9_1
  try clear hfz9_2
  try clear hfz9_3
  obtain ⟨x1_1, x267000_1, x267001_1, x267002_1, x267003_1, u267000, u267001, u267002, u267003, rfl, HA, HK1, HO_267000, HO_267001, HO_267002, HO_267003, BK253, BK266, HB⟩ := hrel
  cases gk with
  | zero => exact absurd HA.out (by simp [spec_foAt.l0])
  | succ k1 =>
   have H := HA.out
   clear HA
   simp only [spec_foAt.l0] at H
   by_cases c13 : x1_1 > 0
   ·rw [if_pos c13] at H
    have c13b0 : decide (0 < x1_1) = true := Z38 c13
    clear c13
    replace H := Z36.mp H
    obtain ⟨⟨t267, t270, t273, t276, t279⟩, A140, H⟩ := H
    replace H : (if t279 < 0 then (some (([] : List Int), ([] : List Int), ([] : List Bool), ([] : List Int), false)) else (spec_foAt.l0 k1 (wrap64 (x1_1 - 1)) t267 t270 t273 t276)) = some (r1, r2, r3, r4, r5) := H
    have A14 := Ya A140
    clear A140
    by_cases c15 : t279 < 0
    ·rw [if_pos c15] at H
     have c15b0 := Z38 c15
     clear c15
     simp only [Option.some.injEq, Prod.mk.injEq] at H
     obtain ⟨rfl, rfl, rfl, rfl, rfl⟩ := H
     have hnb16 := NB266_253.out
     have hnc16 := NB253_266.out
     have hz17 := Y4 BK266.out
     obtain ⟨Ao18, co18, rfl⟩ := Z19 HO_267000.out
     obtain ⟨Ao19, co19, rfl⟩ := Z19 HO_267001.out
     obtain ⟨Ao20, co20, rfl⟩ := Z19 HO_267002.out
     obtain ⟨Ao21, co21, rfl⟩ := Z19 HO_267003.out
     go_wp2_with (first | ((with_reducible refine gate_callee (f := 31) rfl ?_); refine Yz 17 Try.func31 #[.agg #[.slice Ao18 x267000_1.length co18, .slice Ao19 x267001_1.length co19, .slice Ao20 x267002_1.length co20, .slice Ao21 x267003_1.length co21]] ?_; (with_reducible refine (spec_foStep.calls _ _ x267000_1 _ _ x267001_1 _ _ x267002_1 _ _ x267003_1 t267 t270 t273 t276 t279 _ (Yc (Kd.R_reads' HO_267000.out).2.2) ((Kd.R_reads' HO_267000.out).2.1) (Yc (Kd.R_reads' HO_267001.out).2.2) ((Kd.R_reads' HO_267001.out).2.1) (Yc (Kd.R_reads' HO_267002.out).2.2) ((Kd.R_reads' HO_267002.out).2.1) (Yc (Kd.R_reads' HO_267003.out).2.2) ((Kd.R_reads' HO_267003.out).2.1) A14.out).mono ?_); rintro e w22 ⟨v268, v271, v274, v277, rfl, ho0, ho1, ho2, ho3, hb⟩; refine ⟨_, rfl, ?_⟩; have HO269 := Yl (Kd.R_new' (Kd.R_new' (Kd.R_new' ho0 (Z18 (Yr HO_267000.out))) (Z18 (Yr HO_267001.out))) (Z18 (Yr HO_267003.out))); have HO272 := Yl (Kd.R_new' (Kd.R_new' (Kd.R_new' ho1 (Z18 (Yr HO_267000.out))) (Z18 (Yr HO_267001.out))) (Z18 (Yr HO_267003.out))); have HO275 := Yl (Kd.R_new' ho2 (Z18 (Yr HO_267002.out))); replace HO_267002 := Ya (Kd.R_elder' (Yr HO_267002.out) (Kd.R_base ho2) hb); have HO278 := Yl (Kd.R_new' (Kd.R_new' (Kd.R_new' ho3 (Z18 (Yr HO_267000.out))) (Z18 (Yr HO_267001.out))) (Z18 (Yr HO_267003.out))); replace HO_267000 := Ya (Z12 (Z16 (Z16 (Z16 (Z17 (Yr HO_267000.out) hb) (Kd.R_base ho0)) (Kd.R_base ho1)) (Kd.R_base ho3)) (fun _ h_ => h_.1)); replace HO_267001 := Ya (Z12 (Z16 (Z16 (Z16 (Z17 (Yr HO_267001.out) hb) (Kd.R_base ho0)) (Kd.R_base ho1)) (Kd.R_base ho3)) (fun _ h_ => h_.1)); replace HO_267003 := Ya (Z12 (Z16 (Z16 (Z16 (Z17 (Yr HO_267003.out) hb) (Kd.R_base ho0)) (Kd.R_base ho1)) (Kd.R_base ho3)) (fun _ h_ => h_.1)); replace BK253 := Yb BK253 hb; replace BK266 := Yb BK266 hb; replace HB := Yh hb; (try clear hb ho0 ho1 ho2 ho3)) | ((with_reducible refine gate_dst (N := 7) rfl ?_); refine Yx 7 YN4 27 ?_; intro gb280 hg w23 hbox hb; replace HO_267000 := Yw HO_267000 hb; replace HO_267001 := Yw HO_267001 hb; replace HO_267002 := Yw HO_267002 hb; replace HO_267003 := Yw HO_267003 hb; replace HO269 := Yw HO269 hb; replace HO272 := Yw HO272 hb; replace HO275 := Yw HO275 hb; replace HO278 := Yw HO278 hb; have BK280 := Ya hbox; have GE280 := Yg hg; replace HB := Yh hb; have NB253_280 := Yn BK253 hg; have NB280_253 := Ym BK253 hg; replace BK253 := Yb BK253 hb; have NB266_280 := Yn BK266 hg; have NB280_266 := Ym BK266 hg; replace BK266 := Yb BK266 hb; clear hb hbox hg; obtain ⟨Ao24, co24, rfl⟩ := Z19 HO269.out; have hnb25 := NB280_253.out; have hnc25 := NB253_280.out; have hnb26 := NB280_266.out; have hnc26 := NB266_280.out; have hz27 := Y4 BK280.out; obtain ⟨Ao28, co28, rfl⟩ := Z19 HO272.out; obtain ⟨Ao29, co29, rfl⟩ := Z19 HO275.out; obtain ⟨Ao30, co30, rfl⟩ := Z19 HO278.out; have hz31 := Y4 BK253.out))
     refine bodyPost_ret (results_ct rfl _ _ gb253 27 YN4 (0, 0) _ rfl (Yk (Yv4 (Yo4 BK253.out NB253_280.out))) Try.underlying27 rfl (by kernel_rfl)) rfl ?_
     exact ⟨_, _, _, _, Q2, Q6, Q6, Q6, Q6, Q12⟩
    ·rw [if_neg c15] at H
     have c15b0 := Z37 c15
     clear c15
     have H' := Ya H
     clear H
     have hnb32 := NB266_253.out
     have hnc32 := NB253_266.out
     have hz33 := Y4 BK266.out
     obtain ⟨Ao34, co34, rfl⟩ := Z19 HO_267000.out
     obtain ⟨Ao35, co35, rfl⟩ := Z19 HO_267001.out
     obtain ⟨Ao36, co36, rfl⟩ := Z19 HO_267002.out
     obtain ⟨Ao37, co37, rfl⟩ := Z19 HO_267003.out
     go_wp2_with (first | ((with_reducible refine gate_callee (f := 31) rfl ?_); refine Yz 17 Try.func31 #[.agg #[.slice Ao34 x267000_1.length co34, .slice Ao35 x267001_1.length co35, .slice Ao36 x267002_1.length co36, .slice Ao37 x267003_1.length co37]] ?_; (with_reducible refine (spec_foStep.calls _ _ x267000_1 _ _ x267001_1 _ _ x267002_1 _ _ x267003_1 t267 t270 t273 t276 t279 _ (Yc (Kd.R_reads' HO_267000.out).2.2) ((Kd.R_reads' HO_267000.out).2.1) (Yc (Kd.R_reads' HO_267001.out).2.2) ((Kd.R_reads' HO_267001.out).2.1) (Yc (Kd.R_reads' HO_267002.out).2.2) ((Kd.R_reads' HO_267002.out).2.1) (Yc (Kd.R_reads' HO_267003.out).2.2) ((Kd.R_reads' HO_267003.out).2.1) A14.out).mono ?_); rintro e w38 ⟨v268, v271, v274, v277, rfl, ho0, ho1, ho2, ho3, hb⟩; refine ⟨_, rfl, ?_⟩; have HO269 := Yl (Kd.R_new' (Kd.R_new' (Kd.R_new' ho0 (Z18 (Yr HO_267000.out))) (Z18 (Yr HO_267001.out))) (Z18 (Yr HO_267003.out))); have HO272 := Yl (Kd.R_new' (Kd.R_new' (Kd.R_new' ho1 (Z18 (Yr HO_267000.out))) (Z18 (Yr HO_267001.out))) (Z18 (Yr HO_267003.out))); have HO275 := Yl (Kd.R_new' ho2 (Z18 (Yr HO_267002.out))); replace HO_267002 := Ya (Kd.R_elder' (Yr HO_267002.out) (Kd.R_base ho2) hb); have HO278 := Yl (Kd.R_new' (Kd.R_new' (Kd.R_new' ho3 (Z18 (Yr HO_267000.out))) (Z18 (Yr HO_267001.out))) (Z18 (Yr HO_267003.out))); replace HO_267000 := Ya (Z12 (Z16 (Z16 (Z16 (Z17 (Yr HO_267000.out) hb) (Kd.R_base ho0)) (Kd.R_base ho1)) (Kd.R_base ho3)) (fun _ h_ => h_.1)); replace HO_267001 := Ya (Z12 (Z16 (Z16 (Z16 (Z17 (Yr HO_267001.out) hb) (Kd.R_base ho0)) (Kd.R_base ho1)) (Kd.R_base ho3)) (fun _ h_ => h_.1)); replace HO_267003 := Ya (Z12 (Z16 (Z16 (Z16 (Z17 (Yr HO_267003.out) hb) (Kd.R_base ho0)) (Kd.R_base ho1)) (Kd.R_base ho3)) (fun _ h_ => h_.1)); replace BK253 := Yb BK253 hb; replace BK266 := Yb BK266 hb; replace HB := Yh hb; (try clear hb ho0 ho1 ho2 ho3)) | ((with_reducible refine gate_dst (N := 7) rfl ?_); refine Yx 7 YN4 27 ?_; intro gb280 hg w39 hbox hb; replace HO_267000 := Yw HO_267000 hb; replace HO_267001 := Yw HO_267001 hb; replace HO_267002 := Yw HO_267002 hb; replace HO_267003 := Yw HO_267003 hb; replace HO269 := Yw HO269 hb; replace HO272 := Yw HO272 hb; replace HO275 := Yw HO275 hb; replace HO278 := Yw HO278 hb; have BK280 := Ya hbox; have GE280 := Yg hg; replace HB := Yh hb; have NB253_280 := Yn BK253 hg; have NB280_253 := Ym BK253 hg; replace BK253 := Yb BK253 hb; have NB266_280 := Yn BK266 hg; have NB280_266 := Ym BK266 hg; replace BK266 := Yb BK266 hb; clear hb hbox hg; obtain ⟨Ao40, co40, rfl⟩ := Z19 HO269.out; have hnb41 := NB280_253.out; have hnc41 := NB253_280.out; have hnb42 := NB280_266.out; have hnc42 := NB266_280.out; have hz43 := Y4 BK280.out; obtain ⟨Ao44, co44, rfl⟩ := Z19 HO272.out; obtain ⟨Ao45, co45, rfl⟩ := Z19 HO275.out; obtain ⟨Ao46, co46, rfl⟩ := Z19 HO278.out; have hz47 := Y4 BK266.out))
     go_roundg k1
     case measure => have := HK1.out; omega
     case rel => exact ⟨(wrap64 (x1_1 - 1)), (t267), (t270), (t273), (t276), (.slice Ao40 t267.length co40), (.slice Ao44 t270.length co44), (.slice Ao45 t273.length co45), (.slice Ao46 t276.length co46), Q8, H', ⟨Q20⟩, ⟨Yj (Yd4 HO269.out BK280.out BK266.out) (fun _ hk => ⟨hk.1.1.1.1.1.1, hk.1.1.1.1.1.2⟩)⟩, ⟨Yj (Yd4 HO272.out BK280.out BK266.out) (fun _ hk => ⟨hk.1.1.1.1.1.1, hk.1.1.1.1.1.2⟩)⟩, ⟨Yj (Yd4 HO275.out BK280.out BK266.out) (fun _ hk => trivial)⟩, ⟨Yj (Yd4 HO278.out BK280.out BK266.out) (fun _ hk => ⟨hk.1.1.1.1.1.1, hk.1.1.1.1.1.2⟩)⟩, ⟨by (with_reducible repeat (first | refine Z25 ?_ _ | refine Z26 ?_ | refine Z27 ?_ _)); refine blk_far ?_ NB253_266.out _; (with_reducible repeat (first | refine Z25 ?_ _ | refine Z26 ?_ | refine Z27 ?_ _)); refine blk_far ?_ NB253_266.out _; (with_reducible repeat (first | refine Z25 ?_ _ | refine Z26 ?_ | refine Z27 ?_ _)); refine blk_far ?_ NB253_266.out _; (with_reducible repeat (first | refine Z25 ?_ _ | refine Z26 ?_ | refine Z27 ?_ _)); refine blk_far ?_ NB253_266.out _; (with_reducible repeat (first | refine Z25 ?_ _ | refine Z26 ?_ | refine Z27 ?_ _)); refine blk_far ?_ NB253_280.out _; (with_reducible repeat (first | refine Z25 ?_ _ | refine Z26 ?_ | refine Z27 ?_ _)); refine blk_far ?_ NB253_280.out _; (with_reducible repeat (first | refine Z25 ?_ _ | refine Z26 ?_ | refine Z27 ?_ _)); refine blk_far ?_ NB253_280.out _; (with_reducible repeat (first | refine Z25 ?_ _ | refine Z26 ?_ | refine Z27 ?_ _)); refine blk_far ?_ NB253_280.out _; (with_reducible repeat (first | refine Z25 ?_ _ | refine Z26 ?_ | refine Z27 ?_ _)); exact BK253.out⟩, ⟨by (with_reducible repeat (first | refine Z25 ?_ _ | refine Z26 ?_ | refine Z27 ?_ _)); refine Z29 (cs := #[.slice Ao40 t267.length co40, .slice Ao44 t270.length co44, .slice Ao45 t273.length co45, .slice Ao37 x267003_1.length co37]) ?_ 3 _ rfl; (with_reducible repeat (first | refine Z25 ?_ _ | refine Z26 ?_ | refine Z27 ?_ _)); refine Z29 (cs := #[.slice Ao40 t267.length co40, .slice Ao44 t270.length co44, .slice Ao36 x267002_1.length co36, .slice Ao37 x267003_1.length co37]) ?_ 2 _ rfl; (with_reducible repeat (first | refine Z25 ?_ _ | refine Z26 ?_ | refine Z27 ?_ _)); refine Z29 (cs := #[.slice Ao40 t267.length co40, .slice Ao35 x267001_1.length co35, .slice Ao36 x267002_1.length co36, .slice Ao37 x267003_1.length co37]) ?_ 1 _ rfl; (with_reducible repeat (first | refine Z25 ?_ _ | refine Z26 ?_ | refine Z27 ?_ _)); refine Z29 (cs := #[.slice Ao34 x267000_1.length co34, .slice Ao35 x267001_1.length co35, .slice Ao36 x267002_1.length co36, .slice Ao37 x267003_1.length co37]) ?_ 0 _ rfl; (with_reducible repeat (first | refine Z25 ?_ _ | refine Z26 ?_ | refine Z27 ?_ _)); refine blk_far ?_ NB266_280.out _; (with_reducible repeat (first | refine Z25 ?_ _ | refine Z26 ?_ | refine Z27 ?_ _)); refine blk_far ?_ NB266_280.out _; (with_reducible repeat (first | refine Z25 ?_ _ | refine Z26 ?_ | refine Z27 ?_ _)); refine blk_far ?_ NB266_280.out _; (with_reducible repeat (first | refine Z25 ?_ _ | refine Z26 ?_ | refine Z27 ?_ _)); refine blk_far ?_ NB266_280.out _; (with_reducible repeat (first | refine Z25 ?_ _ | refine Z26 ?_ | refine Z27 ?_ _)); exact BK266.out⟩, ⟨Q12⟩⟩
   ·rw [if_neg c13] at H
    have c13b0 : decide (0 < x1_1) = false := Z37 c13
    clear c13
    simp only [Option.some.injEq, Prod.mk.injEq] at H
    obtain ⟨rfl, rfl, rfl, rfl, rfl⟩ := H
    have hnb48 := NB266_253.out
    have hnc48 := NB253_266.out
    have hz49 := Y4 BK266.out
    obtain ⟨Ao50, co50, rfl⟩ := Z19 HO_267000.out
    have hz51 := Y4 BK253.out
    obtain ⟨Ao52, co52, rfl⟩ := Z19 HO_267001.out
    obtain ⟨Ao53, co53, rfl⟩ := Z19 HO_267002.out
    obtain ⟨Ao54, co54, rfl⟩ := Z19 HO_267003.out
    go_wp2
    refine bodyPost_ret (results_ct rfl _ _ gb253 27 #[.slice Ao50 x267000_1.length co50, .slice Ao52 x267001_1.length co52, .slice Ao53 x267002_1.length co53, .slice Ao54 x267003_1.length co54] (0, 0) _ rfl (Yk (Yv4 BK253.out)) Try.underlying27 rfl (by kernel_rfl)) rfl ?_
    exact ⟨_, _, _, _, Q2, Yj (Yf4 HO_267000.out BK253.out) (fun _ hk => ⟨hk.1.1, hk.1.2⟩), Yj (Yf4 HO_267001.out BK253.out) (fun _ hk => ⟨hk.1.1, hk.1.2⟩), Yj (Yf4 HO_267002.out BK253.out) (fun _ hk => trivial), Yj (Yf4 HO_267003.out BK253.out) (fun _ hk => ⟨hk.1.1, hk.1.2⟩), Q12⟩
def spec_gcMixedRank.f : Nat → List Int → List Int → Option (Int)
 | 0, _, _ => none
 | k + 1, l0, l1 => if (l0.length : Int) = 0 then (some 0) else (if 1 ≤ (l0.length : Int) then ((spec_raProduct.f k (l0.drop 1)).bind fun t282 => (if 1 ≤ (l1.length : Int) then ((spec_gcMixedRank.f k (l0.drop 1) (l1.drop 1)).bind fun t285 => (if 0 < (l1.length : Int) then (if (Int.tmod (rd l1 0) 2) = 1 then (some (wrap64 ((wrap64 ((rd l1 0) * t282)) + (wrap64 ((wrap64 (t282 - 1)) - t285))))) else (some (wrap64 ((wrap64 ((rd l1 0) * t282)) + t285)))) else (none))) else (none))) else (none))
theorem spec_gcMixedRank.mono_l : ∀ k, (∀ y0 y1, LeO (spec_gcMixedRank.f k y0 y1) (spec_gcMixedRank.f (k + 1) y0 y1))
 | 0 => fun _ _ r h => by simp [spec_gcMixedRank.f] at h
 | k + 1 => by
  have ih0 := spec_gcMixedRank.mono_l k
  ·intro y0 y1
   unfold spec_gcMixedRank.f
   repeat' first
   | (with_reducible exact ih0 _ _)
   | (with_reducible exact spec_raProduct.mono _ _)
   | (with_reducible exact LeO.refl _)
   | (with_reducible exact LeO.none _)
   | (with_reducible refine LeO.ite ?_ ?_)
   | (with_reducible refine LeO.bind ?_ (fun _ => ?_))
   | exact ih0 _ _
   | exact spec_raProduct.mono _ _
   | exact LeO.none _
   | refine LeO.ite ?_ ?_
   | refine LeO.bind ?_ (fun _ => ?_)
theorem spec_gcMixedRank.mono : ∀ a0 a1 k, LeO (spec_gcMixedRank.f k a0 a1) (spec_gcMixedRank.f (k + 1) a0 a1) := by
 intro a0 a1 k
 have ih0 := spec_gcMixedRank.mono_l k
 exact ih0 a0 a1
set_option maxHeartbeats 8000000 in
set_option maxRecDepth 100000 in
theorem spec_gcMixedRank.calls (k : Nat) : ∀ (A0 : Option Addr) (c0 : Nat) (l0 : List Int) (A1 : Option Addr) (c1 : Nat) (l1 : List Int) (r : Int) (w : World) (hr0 : Kd.C (Kd.int .i64) w A0 l0.length l0) (hc0 : l0.length ≤ c0) (hr1 : Kd.C (Kd.int .i64) w A1 l1.length l1) (hc1 : l1.length ≤ c1) (h : spec_gcMixedRank.f k l0 l1 = some r),
  Calls Try.prog 61 #[.slice A0 l0.length c0, .slice A1 l1.length c1] w fun e w' => e = .returned (.int .i64 r) ∧ Below w.heap.size w w' := by
 induction k using Nat.strongRecOn with
 | _ k ih =>
 intro A0 c0 l0 A1 c1 l1 r w hr0 hc0 hr1 hc1 h
 cases k with
 | zero => exact absurd h (by simp [spec_gcMixedRank.f])
 | succ k =>
 simp only [spec_gcMixedRank.f] at h
 have HR0 := Ya hr0
 have HC0 := Ya hc0
 clear hr0 hc0
 have HR1 := Ya hr1
 have HC1 := Ya hc1
 clear hr1 hc1
 have HB := Ya (Below.refl w.heap.size w)
 have H : (if (l0.length : Int) = 0 then (some 0) else (if 1 ≤ (l0.length : Int) then ((spec_raProduct.f k (l0.drop 1)).bind fun t282 => (if 1 ≤ (l1.length : Int) then ((spec_gcMixedRank.f k (l0.drop 1) (l1.drop 1)).bind fun t285 => (if 0 < (l1.length : Int) then (if (Int.tmod (rd l1 0) 2) = 1 then (some (wrap64 ((wrap64 ((rd l1 0) * t282)) + (wrap64 ((wrap64 (t282 - 1)) - t285))))) else (some (wrap64 ((wrap64 ((rd l1 0) * t282)) + t285)))) else (none))) else (none))) else (none))) = some r := h
 clear h
 by_cases c3 : (l0.length : Int) = 0
 ·rw [if_pos c3] at H
  have c3b0 : ((l0.length : Int) == 0) = true := beq_iff_eq.mpr c3
  have c3b1 : ((l0.length : Int) != 0) = false := bne_eq_false_iff_eq.mpr c3
  clear c3
  obtain rfl := Option.some.inj H
  go_enter Try.func61, Try.ntmps61
  go_wp2
  go_ret
  exact ⟨Q2, Q12⟩
 ·rw [if_neg c3] at H
  have c3b0 : ((l0.length : Int) == 0) = false := beq_eq_false_iff_ne.mpr c3
  have c3b1 : ((l0.length : Int) != 0) = true := bne_iff_ne.mpr c3
  have c3b2 : ¬ (l0 = []) := fun h_ => c3 (by rw [h_]; rfl)
  by_cases c4 : 1 ≤ (l0.length : Int)
  ·rw [if_pos c4] at H
   have c4b0 := eq_true c4
   have c4b1 := Z38 c4
   have HLEc4 := Ya c4
   clear c4
   replace H := Z36.mp H
   obtain ⟨t282, A50, H⟩ := H
   replace H : (if 1 ≤ (l1.length : Int) then ((spec_gcMixedRank.f k (l0.drop 1) (l1.drop 1)).bind fun t285 => (if 0 < (l1.length : Int) then (if (Int.tmod (rd l1 0) 2) = 1 then (some (wrap64 ((wrap64 ((rd l1 0) * t282)) + (wrap64 ((wrap64 (t282 - 1)) - t285))))) else (some (wrap64 ((wrap64 ((rd l1 0) * t282)) + t285)))) else (none))) else (none)) = some r := H
   have A5 := Ya A50
   clear A50
   have c6b0 := eq_true (Z30 Q1 : 1 ≤ (l0.length : Int))
   by_cases c7 : 1 ≤ (l1.length : Int)
   ·rw [if_pos c7] at H
    have c7b0 := eq_true c7
    have c7b1 := Z38 c7
    have HLEc7 := Ya c7
    clear c7
    replace H := Z36.mp H
    obtain ⟨t285, A80, H⟩ := H
    replace H : (if 0 < (l1.length : Int) then (if (Int.tmod (rd l1 0) 2) = 1 then (some (wrap64 ((wrap64 ((rd l1 0) * t282)) + (wrap64 ((wrap64 (t282 - 1)) - t285))))) else (some (wrap64 ((wrap64 ((rd l1 0) * t282)) + t285)))) else (none)) = some r := H
    have A8 := Ya A80
    clear A80
    by_cases c9 : 0 < (l1.length : Int)
    ·rw [if_pos c9] at H
     have c9b0 := Z38 c9
     have c9b1 : decide (0 < l1.length) = true := Z38 (by omega)
     clear c9
     by_cases c10 : (Int.tmod (rd l1 0) 2) = 1
     ·rw [if_pos c10] at H
      have c10b0 : ((Int.tmod (rd l1 0) 2) == 1) = true := beq_iff_eq.mpr c10
      have c10b1 : ((Int.tmod (rd l1 0) 2) != 1) = false := bne_eq_false_iff_eq.mpr c10
      clear c10
      obtain rfl := Option.some.inj H
      obtain ⟨i011, hi011, _, hsz11, _⟩ := info_parts info3
      obtain ⟨A11, hcut11, hA11, hC11⟩ := print_drop_of (P := Try.prog) (Value.int .i64) 0 22 3 .i64 Try.underlying22 hi011 hsz11 A0 c0 l0 1 (by omega) (Z30 Q1) HC0.out
      have HR281 := Ya (Kd.C_of_reads (h1 := fun _ => rfl) (hA11 _ (Kd.reads_of_C HR0.out)))
      have HC281 := Ya hC11
      clear hA11 hC11 hi011 hsz11
      go_enter Try.func61, Try.ntmps61
      try go_wp2_with (first | ((with_reducible refine gate_callee (f := 77) rfl ?_); refine Yz 12 Try.func77 #[.slice A11 (l0.drop 1).length (c0 - 1)] ?_ (hargs := Q29); (with_reducible refine (spec_raProduct.calls k _ _ (l0.drop 1) t282 _ ?side1 ?side2 A5.out).mono ?_); (case side1 => exact Yc HR281.out); (case side2 => exact HC281.out); rintro e w' ⟨rfl, ⟨nd, rfl⟩⟩; refine ⟨_, rfl, ?_⟩))
      replace HB := Ya (Z4 (Z3 HB.out nd))
      have HR283 := HR281
      have HC283 := HC281
      obtain ⟨i014, hi014, _, hsz14, _⟩ := info_parts info3
      obtain ⟨A14, hcut14, hA14, hC14⟩ := print_drop_of (P := Try.prog) (Value.int .i64) 0 22 3 .i64 Try.underlying22 hi014 hsz14 A1 c1 l1 1 (by omega) (Z30 Q1) HC1.out
      have HR284 := Ya (Kd.C_of_reads (h1 := fun _ => rfl) (hA14 _ (Kd.reads_of_C HR1.out)))
      have HC284 := Ya hC14
      clear hA14 hC14 hi014 hsz14
      refine start_ (n := 6) (S := fun w' => True) (ds := []) (YA 6 0) (by kernel_rfl) rfl rfl trivial (fun hHeld => ?_)
      generalize (w.drewN nd).drew = w12 at HB HR283 HR284 hHeld ⊢
      refine Yq 0 (some 13) (YA 6 1) rfl ?_
      refine Yq 1 (some 14) (YA 6 3) rfl ?_
      refine Yq 2 (some 15) (YA 6 7) rfl ?_
      refine Yq 3 (some 16) (YA 6 15) rfl ?_
      refine one_ (i := 4) (N := some 17) (YA 6 31) rfl rfl (by kernel_rfl) (by decide) (fun K hK => ?_)
      refine goes_ Try.func61 (by kernel_rfl) rfl #[.slice A11 (l0.drop 1).length (c0 - 1), .slice A14 (l1.drop 1).length (c1 - 1)] (by rfl) rfl rfl Q19 ?_
      with_reducible refine (ih k (by omega) _ _ (l0.drop 1) _ _ (l1.drop 1) t285 _ ?side1 ?side2 ?side3 ?side4 A8.out).mono ?_
      (case side1 => exact Yc (Z22 HR283.out HB.out))
      (case side2 => exact HC283.out)
      (case side3 => exact Yc (Z22 HR284.out HB.out))
      (case side4 => exact HC284.out)
      rintro e w15 ⟨rfl, hb⟩
      refine ⟨_, rfl, ?_⟩
      replace HB := Yh hb
      (try clear hb)
      refine hK.out _ _ trivial (fun hHeld => ?_)
      clear hK K
      refine norm_ (a' := ?_) ?_ ?_
      rotate_left
      ·show Act.put _ (some 17) _ = _
       simp only [Act.put, Z0, Z1, Z2, i64_w, i32_w]
       rfl
      refine Yq 5 (some 6) (YA 6 63) rfl ?_
      refine done_ (by kernel_rfl) ?_
      have p286 : 0 ≤ (0 : Int) := (by omega)
      have q286 : 0 < (l1.length : Int) := Z30 Q1
      obtain ⟨ad286, e286, hx286_0⟩ := Kd.at_int HR1.out 0 p286 q286
      cases e286
      have qi286 : (0 < l1.length) = True := eq_true (by omega)
      (try rw [show ((0 : Int)).toNat = 0 from rfl] at hx286_0)
      (try rw [Addr.add_zero'] at hx286_0)
      try replace hx286_0 := (HB.out.cell (World.block_lt_of_cell? w _ hx286_0)).trans hx286_0
      replace p286 := eq_true p286
      replace q286 := eq_true q286
      have p287 : 0 ≤ (0 : Int) := (by omega)
      have q287 : 0 < (l1.length : Int) := Z30 Q1
      obtain ⟨ad287, e287, hx287_0⟩ := Kd.at_int HR1.out 0 p287 q287
      obtain rfl : ad286 = ad287 := (by injection e287)
      have qi287 : (0 < l1.length) = True := eq_true (by omega)
      (try rw [show ((0 : Int)).toNat = 0 from rfl] at hx287_0)
      (try rw [Addr.add_zero'] at hx287_0)
      try replace hx287_0 := (HB.out.cell (World.block_lt_of_cell? w _ hx287_0)).trans hx287_0
      replace p287 := eq_true p287
      replace q287 := eq_true q287
      try go_wp2
      go_ret
      exact ⟨Q2, Q12⟩
     ·rw [if_neg c10] at H
      have c10b0 : ((Int.tmod (rd l1 0) 2) == 1) = false := beq_eq_false_iff_ne.mpr c10
      have c10b1 : ((Int.tmod (rd l1 0) 2) != 1) = true := bne_iff_ne.mpr c10
      obtain rfl := Option.some.inj H
      obtain ⟨i016, hi016, _, hsz16, _⟩ := info_parts info3
      obtain ⟨A16, hcut16, hA16, hC16⟩ := print_drop_of (P := Try.prog) (Value.int .i64) 0 22 3 .i64 Try.underlying22 hi016 hsz16 A0 c0 l0 1 (by omega) (Z30 Q1) HC0.out
      have HR281 := Ya (Kd.C_of_reads (h1 := fun _ => rfl) (hA16 _ (Kd.reads_of_C HR0.out)))
      have HC281 := Ya hC16
      clear hA16 hC16 hi016 hsz16
      go_enter Try.func61, Try.ntmps61
      try go_wp2_with (first | ((with_reducible refine gate_callee (f := 77) rfl ?_); refine Yz 12 Try.func77 #[.slice A16 (l0.drop 1).length (c0 - 1)] ?_ (hargs := Q29); (with_reducible refine (spec_raProduct.calls k _ _ (l0.drop 1) t282 _ ?side1 ?side2 A5.out).mono ?_); (case side1 => exact Yc HR281.out); (case side2 => exact HC281.out); rintro e w' ⟨rfl, ⟨nd, rfl⟩⟩; refine ⟨_, rfl, ?_⟩))
      replace HB := Ya (Z4 (Z3 HB.out nd))
      have HR283 := HR281
      have HC283 := HC281
      obtain ⟨i019, hi019, _, hsz19, _⟩ := info_parts info3
      obtain ⟨A19, hcut19, hA19, hC19⟩ := print_drop_of (P := Try.prog) (Value.int .i64) 0 22 3 .i64 Try.underlying22 hi019 hsz19 A1 c1 l1 1 (by omega) (Z30 Q1) HC1.out
      have HR284 := Ya (Kd.C_of_reads (h1 := fun _ => rfl) (hA19 _ (Kd.reads_of_C HR1.out)))
      have HC284 := Ya hC19
      clear hA19 hC19 hi019 hsz19
      refine start_ (n := 6) (S := fun w' => True) (ds := []) (YA 6 0) (by kernel_rfl) rfl rfl trivial (fun hHeld => ?_)
      generalize (w.drewN nd).drew = w17 at HB HR283 HR284 hHeld ⊢
      refine Yq 0 (some 13) (YA 6 1) rfl ?_
      refine Yq 1 (some 14) (YA 6 3) rfl ?_
      refine Yq 2 (some 15) (YA 6 7) rfl ?_
      refine Yq 3 (some 16) (YA 6 15) rfl ?_
      refine one_ (i := 4) (N := some 17) (YA 6 31) rfl rfl (by kernel_rfl) (by decide) (fun K hK => ?_)
      refine goes_ Try.func61 (by kernel_rfl) rfl #[.slice A16 (l0.drop 1).length (c0 - 1), .slice A19 (l1.drop 1).length (c1 - 1)] (by rfl) rfl rfl Q19 ?_
      with_reducible refine (ih k (by omega) _ _ (l0.drop 1) _ _ (l1.drop 1) t285 _ ?side1 ?side2 ?side3 ?side4 A8.out).mono ?_
      (case side1 => exact Yc (Z22 HR283.out HB.out))
      (case side2 => exact HC283.out)
      (case side3 => exact Yc (Z22 HR284.out HB.out))
      (case side4 => exact HC284.out)
      rintro e w20 ⟨rfl, hb⟩
      refine ⟨_, rfl, ?_⟩
      replace HB := Yh hb
      (try clear hb)
      refine hK.out _ _ trivial (fun hHeld => ?_)
      clear hK K
      refine norm_ (a' := ?_) ?_ ?_
      rotate_left
      ·show Act.put _ (some 17) _ = _
       simp only [Act.put, Z0, Z1, Z2, i64_w, i32_w]
       rfl
      refine Yq 5 (some 6) (YA 6 63) rfl ?_
      refine done_ (by kernel_rfl) ?_
      have p286 : 0 ≤ (0 : Int) := (by omega)
      have q286 : 0 < (l1.length : Int) := Z30 Q1
      obtain ⟨ad286, e286, hx286_0⟩ := Kd.at_int HR1.out 0 p286 q286
      cases e286
      have qi286 : (0 < l1.length) = True := eq_true (by omega)
      (try rw [show ((0 : Int)).toNat = 0 from rfl] at hx286_0)
      (try rw [Addr.add_zero'] at hx286_0)
      try replace hx286_0 := (HB.out.cell (World.block_lt_of_cell? w _ hx286_0)).trans hx286_0
      replace p286 := eq_true p286
      replace q286 := eq_true q286
      have p288 : 0 ≤ (0 : Int) := (by omega)
      have q288 : 0 < (l1.length : Int) := Z30 Q1
      obtain ⟨ad288, e288, hx288_0⟩ := Kd.at_int HR1.out 0 p288 q288
      obtain rfl : ad286 = ad288 := (by injection e288)
      have qi288 : (0 < l1.length) = True := eq_true (by omega)
      (try rw [show ((0 : Int)).toNat = 0 from rfl] at hx288_0)
      (try rw [Addr.add_zero'] at hx288_0)
      try replace hx288_0 := (HB.out.cell (World.block_lt_of_cell? w _ hx288_0)).trans hx288_0
      replace p288 := eq_true p288
      replace q288 := eq_true q288
      try go_wp2
      go_ret
      exact ⟨Q2, Q12⟩
    ·rw [if_neg c9] at H
     exact absurd H (by simp)
   ·rw [if_neg c7] at H
    exact absurd H (by simp)
  ·rw [if_neg c4] at H
   exact absurd H (by simp)
def spec_l1Same.l0 : Nat → List Int → List Int → Int → Int → Option (Bool)
 | 0, _, _, _, _ => none
 | k + 1, x0, x1, x12, x13 => if x13 < x12 then (if 0 ≤ x13 then (if x13 < (x0.length : Int) then (if x13 < (x1.length : Int) then (if (rd x0 x13) = (rd x1 x13) then (spec_l1Same.l0 k x0 x1 x12 (wrap64 (x13 + 1))) else (some false)) else (none)) else (none)) else (none)) else (some true)
def spec_l1Same.f (k : Nat) (l0 : List Int) (l1 : List Int) : Option (Bool) := if (l0.length : Int) = (l1.length : Int) then (spec_l1Same.l0 k l0 l1 (l0.length : Int) 0) else (some false)
theorem spec_l1Same.mono_l : ∀ k, (∀ y0 y1 y2 y3, LeO (spec_l1Same.l0 k y0 y1 y2 y3) (spec_l1Same.l0 (k + 1) y0 y1 y2 y3))
 | 0 => fun _ _ _ _ r h => by simp [spec_l1Same.l0] at h
 | k + 1 => by
  have ih0 := spec_l1Same.mono_l k
  ·intro y0 y1 y2 y3
   unfold spec_l1Same.l0
   repeat' first
   | (with_reducible exact ih0 _ _ _ _)
   | (with_reducible exact LeO.refl _)
   | (with_reducible exact LeO.none _)
   | (with_reducible refine LeO.ite ?_ ?_)
   | (with_reducible refine LeO.bind ?_ (fun _ => ?_))
   | exact ih0 _ _ _ _
   | exact LeO.none _
   | refine LeO.ite ?_ ?_
   | refine LeO.bind ?_ (fun _ => ?_)
theorem spec_l1Same.mono : ∀ a0 a1 k, LeO (spec_l1Same.f k a0 a1) (spec_l1Same.f (k + 1) a0 a1) := by
 intro a0 a1 k
 have ih0 := spec_l1Same.mono_l k
 unfold spec_l1Same.f
 repeat' first
   | (with_reducible exact ih0 _ _ _ _)
   | (with_reducible exact LeO.refl _)
   | (with_reducible exact LeO.none _)
   | (with_reducible refine LeO.ite ?_ ?_)
   | (with_reducible refine LeO.bind ?_ (fun _ => ?_))
   | exact ih0 _ _ _ _
   | exact LeO.none _
   | refine LeO.ite ?_ ?_
   | refine LeO.bind ?_ (fun _ => ?_)
set_option maxHeartbeats 8000000 in
set_option maxRecDepth 100000 in
theorem spec_l1Same.calls (k : Nat) (A0 : Option Addr) (c0 : Nat) (l0 : List Int) (A1 : Option Addr) (c1 : Nat) (l1 : List Int) (r : Bool) (w : World) (hr0 : Kd.C (Kd.int .i64) w A0 l0.length l0) (hc0 : l0.length ≤ c0) (hr1 : Kd.C (Kd.int .i64) w A1 l1.length l1) (hc1 : l1.length ≤ c1) (h : spec_l1Same.f k l0 l1 = some r) :
  Calls Try.prog 70 #[.slice A0 l0.length c0, .slice A1 l1.length c1] w fun e w' => e = .returned (.bool r) ∧ Drawn0 w w' := by
 have HR0 := Ya hr0
 have HC0 := Ya hc0
 clear hr0 hc0
 have HR1 := Ya hr1
 have HC1 := Ya hc1
 clear hr1 hc1
 have H : (if (l0.length : Int) = (l1.length : Int) then (spec_l1Same.l0 k l0 l1 (l0.length : Int) 0) else (some false)) = some r := h
 clear h
 by_cases c3 : (l0.length : Int) = (l1.length : Int)
 ·rw [if_pos c3] at H
  have c3b0 : ((l0.length : Int) == (l1.length : Int)) = true := beq_iff_eq.mpr c3
  have c3b1 : ((l0.length : Int) != (l1.length : Int)) = false := bne_eq_false_iff_eq.mpr c3
  have c3b2 : (l0.length == l1.length) = true := by first | simpa using c3 | (simp at c3 ⊢; omega)
  clear c3
  have H' := Ya H
  clear H
  go_enter Try.func70, Try.ntmps70
  go_wp2
  repeat (go_quiet (fail); try go_wp2)
  go_loopg [13] k (fun kq v13 w' => ∃ (x13_1 : Int), v13 = .int .i64 x13_1 ∧ Aside0 (spec_l1Same.l0 kq l0 l1 (l0.length : Int) x13_1 = some r) ∧ Aside0 (kq ≤ k) ∧ Drawn0 w w')
  case atStart => exact ⟨(0), Q8, H', ⟨Nat.le_refl _⟩, Q5⟩
  case round =>
   clear H'
   try clear c1
   try clear p2
   try clear c3
   try clear c3b0
   try clear c3b1
   try clear c3b2
   obtain ⟨x13_1, rfl, HA, HK1, ⟨m1, rfl⟩⟩ := hrel
   cases gk with
   | zero => exact absurd HA.out (by simp [spec_l1Same.l0])
   | succ k1 =>
    have H := HA.out
    clear HA
    simp only [spec_l1Same.l0] at H
    by_cases c4 : x13_1 < (l0.length : Int)
    ·rw [if_pos c4] at H
     have c4b0 := Z38 c4
     clear c4
     by_cases c5 : 0 ≤ x13_1
     ·rw [if_pos c5] at H
      have c5b0 := Z38 c5
      clear c5
      by_cases c6 : x13_1 < (l0.length : Int)
      ·rw [if_pos c6] at H
       have c6b0 := Z38 c6
       clear c6
       by_cases c7 : x13_1 < (l1.length : Int)
       ·rw [if_pos c7] at H
        have c7b0 := Z38 c7
        clear c7
        by_cases c8 : (rd l0 x13_1) = (rd l1 x13_1)
        ·rw [if_pos c8] at H
         have c8b0 : ((rd l0 x13_1) == (rd l1 x13_1)) = true := beq_iff_eq.mpr c8
         have c8b1 : ((rd l0 x13_1) != (rd l1 x13_1)) = false := bne_eq_false_iff_eq.mpr c8
         clear c8
         have H' := Ya H
         clear H
         have p289 : 0 ≤ (x13_1 : Int) := Z30 Q1
         have q289 : x13_1 < (l0.length : Int) := Z30 Q1
         obtain ⟨ad289, e289, hx289_0⟩ := Kd.at_int HR0.out x13_1 p289 q289
         cases e289
         replace p289 := eq_true p289
         replace q289 := eq_true q289
         have p290 : 0 ≤ (x13_1 : Int) := Z30 Q1
         have q290 : x13_1 < (l1.length : Int) := Z30 Q1
         obtain ⟨ad290, e290, hx290_0⟩ := Kd.at_int HR1.out x13_1 p290 q290
         cases e290
         replace p290 := eq_true p290
         replace q290 := eq_true q290
         go_wp2
         repeat (go_quiet (fail); try go_wp2)
         go_roundg k1
         case measure => have := HK1.out; omega
         case rel => exact ⟨(wrap64 (x13_1 + 1)), Q8, H', ⟨Q20⟩, Q5⟩
        ·rw [if_neg c8] at H
         have c8b0 : ((rd l0 x13_1) == (rd l1 x13_1)) = false := beq_eq_false_iff_ne.mpr c8
         have c8b1 : ((rd l0 x13_1) != (rd l1 x13_1)) = true := bne_iff_ne.mpr c8
         obtain rfl := Option.some.inj H
         have p289 : 0 ≤ (x13_1 : Int) := Z30 Q1
         have q289 : x13_1 < (l0.length : Int) := Z30 Q1
         obtain ⟨ad289, e289, hx289_0⟩ := Kd.at_int HR0.out x13_1 p289 q289
         cases e289
         replace p289 := eq_true p289
         replace q289 := eq_true q289
         have p290 : 0 ≤ (x13_1 : Int) := Z30 Q1
         have q290 : x13_1 < (l1.length : Int) := Z30 Q1
         obtain ⟨ad290, e290, hx290_0⟩ := Kd.at_int HR1.out x13_1 p290 q290
         cases e290
         replace p290 := eq_true p290
         replace q290 := eq_true q290
         go_wp2
         repeat (go_quiet (fail); try go_wp2)
         go_ret
         exact ⟨Q13, Q5⟩
       ·rw [if_neg c7] at H
        exact absurd H (by simp)
      ·rw [if_neg c6] at H
       exact absurd H (by simp)
     ·rw [if_neg c5] at H
      exact absurd H (by simp)
    ·rw [if_neg c4] at H
     have c4b0 := Z37 c4
     clear c4
     obtain rfl := Option.some.inj H
     go_wp2
     repeat (go_quiet (fail); try go_wp2)
     go_ret
     exact ⟨Q13, Q5⟩
 ·rw [if_neg c3] at H
  have c3b0 : ((l0.length : Int) == (l1.length : Int)) = false := beq_eq_false_iff_ne.mpr c3
  have c3b1 : ((l0.length : Int) != (l1.length : Int)) = true := bne_iff_ne.mpr c3
  have c3b2 : (l0.length == l1.length) = false := by first | simpa using c3 | (simp at c3 ⊢; omega)
  obtain rfl := Option.some.inj H
  go_enter Try.func70, Try.ntmps70
  go_wp2
  repeat (go_quiet (fail); try go_wp2)
  go_ret
  exact ⟨Q13, Q5⟩
mutual
def spec_foSame.j0 : Nat → Bool → List Int → List Int → List Bool → List Int → List Int → List Int → List Bool → List Int → Option (Bool)
 | 0, _, _, _, _, _, _, _, _, _ => none
 | k + 1, x37, x292000, x292001, x292002, x292003, x293000, x293001, x293002, x293003 => if x37 = true then (some false) else (spec_foSame.l0 k x292002 (x292002.length : Int) 0 x293000 x293001 x293002 x293003)
def spec_foSame.l0 : Nat → List Bool → Int → Int → List Int → List Int → List Bool → List Int → Option (Bool)
 | 0, _, _, _, _, _, _, _ => none
 | k + 1, x39, x40, x41, x293000, x293001, x293002, x293003 => if x41 < x40 then (if 0 ≤ x41 then (if x41 < (x39.length : Int) then (if x41 < (x293002.length : Int) then (if ((rdOf false x39 x41) != (rdOf false x293002 x41)) = true then (some false) else (spec_foSame.l0 k x39 x40 (wrap64 (x41 + 1)) x293000 x293001 x293002 x293003)) else (none)) else (none)) else (none)) else (some true)
end
def spec_foSame.f (k : Nat) (l0_0 : List Int) (l0_1 : List Int) (l0_2 : List Bool) (l0_3 : List Int) (l1_0 : List Int) (l1_1 : List Int) (l1_2 : List Bool) (l1_3 : List Int) : Option (Bool) := (spec_l1Same.f k l0_0 l1_0).bind fun t293 => (if t293 = true then ((spec_l1Same.f k l0_1 l1_1).bind fun t294 => (if t294 = true then ((spec_l1Same.f k l0_3 l1_3).bind fun t295 => (if t295 = true then (spec_foSame.j0 k ((l0_2.length : Int) != (l1_2.length : Int)) l0_0 l0_1 l0_2 l0_3 l1_0 l1_1 l1_2 l1_3) else (spec_foSame.j0 k true l0_0 l0_1 l0_2 l0_3 l1_0 l1_1 l1_2 l1_3))) else (spec_foSame.j0 k true l0_0 l0_1 l0_2 l0_3 l1_0 l1_1 l1_2 l1_3))) else (spec_foSame.j0 k true l0_0 l0_1 l0_2 l0_3 l1_0 l1_1 l1_2 l1_3))
theorem spec_foSame.mono_l : ∀ k, (∀ y0 y1 y2 y3 y4 y5 y6 y7 y8, LeO (spec_foSame.j0 k y0 y1 y2 y3 y4 y5 y6 y7 y8) (spec_foSame.j0 (k + 1) y0 y1 y2 y3 y4 y5 y6 y7 y8)) ∧ (∀ y0 y1 y2 y3 y4 y5 y6, LeO (spec_foSame.l0 k y0 y1 y2 y3 y4 y5 y6) (spec_foSame.l0 (k + 1) y0 y1 y2 y3 y4 y5 y6))
 | 0 => ⟨fun _ _ _ _ _ _ _ _ _ r h => by simp [spec_foSame.j0] at h, fun _ _ _ _ _ _ _ r h => by simp [spec_foSame.l0] at h⟩
 | k + 1 => by
  obtain ⟨ih0, ih1⟩ := spec_foSame.mono_l k
  refine ⟨?_, ?_⟩
  ·intro y0 y1 y2 y3 y4 y5 y6 y7 y8
   unfold spec_foSame.j0
   repeat' first
   | (with_reducible exact ih0 _ _ _ _ _ _ _ _ _)
   | (with_reducible exact ih1 _ _ _ _ _ _ _)
   | (with_reducible exact spec_l1Same.mono _ _ _)
   | (with_reducible exact LeO.refl _)
   | (with_reducible exact LeO.none _)
   | (with_reducible refine LeO.ite ?_ ?_)
   | (with_reducible refine LeO.bind ?_ (fun _ => ?_))
   | exact ih0 _ _ _ _ _ _ _ _ _
   | exact ih1 _ _ _ _ _ _ _
   | exact spec_l1Same.mono _ _ _
   | exact LeO.none _
   | refine LeO.ite ?_ ?_
   | refine LeO.bind ?_ (fun _ => ?_)
  ·intro y0 y1 y2 y3 y4 y5 y6
   unfold spec_foSame.l0
   repeat' first
   | (with_reducible exact ih0 _ _ _ _ _ _ _ _ _)
   | (with_reducible exact ih1 _ _ _ _ _ _ _)
   | (with_reducible exact spec_l1Same.mono _ _ _)
   | (with_reducible exact LeO.refl _)
   | (with_reducible exact LeO.none _)
   | (with_reducible refine LeO.ite ?_ ?_)
   | (with_reducible refine LeO.bind ?_ (fun _ => ?_))
   | exact ih0 _ _ _ _ _ _ _ _ _
   | exact ih1 _ _ _ _ _ _ _
   | exact spec_l1Same.mono _ _ _
   | exact LeO.none _
   | refine LeO.ite ?_ ?_
   | refine LeO.bind ?_ (fun _ => ?_)
theorem spec_foSame.mono : ∀ a0 a1 a2 a3 a4 a5 a6 a7 k, LeO (spec_foSame.f k a0 a1 a2 a3 a4 a5 a6 a7) (spec_foSame.f (k + 1) a0 a1 a2 a3 a4 a5 a6 a7) := by
 intro a0 a1 a2 a3 a4 a5 a6 a7 k
 obtain ⟨ih0, ih1⟩ := spec_foSame.mono_l k
 unfold spec_foSame.f
 repeat' first
   | (with_reducible exact ih0 _ _ _ _ _ _ _ _ _)
   | (with_reducible exact ih1 _ _ _ _ _ _ _)
   | (with_reducible exact spec_l1Same.mono _ _ _)
   | (with_reducible exact LeO.refl _)
   | (with_reducible exact LeO.none _)
   | (with_reducible refine LeO.ite ?_ ?_)
   | (with_reducible refine LeO.bind ?_ (fun _ => ?_))
   | exact ih0 _ _ _ _ _ _ _ _ _
   | exact ih1 _ _ _ _ _ _ _
   | exact spec_l1Same.mono _ _ _
   | exact LeO.none _
   | refine LeO.ite ?_ ?_
   | refine LeO.bind ?_ (fun _ => ?_)
set_option maxHeartbeats 8000000 in
set_option maxRecDepth 100000 in
theorem spec_foSame.calls (k : Nat) (A0_0 : Option Addr) (c0_0 : Nat) (l0_0 : List Int) (A0_1 : Option Addr) (c0_1 : Nat) (l0_1 : List Int) (A0_2 : Option Addr) (c0_2 : Nat) (l0_2 : List Bool) (A0_3 : Option Addr) (c0_3 : Nat) (l0_3 : List Int) (A1_0 : Option Addr) (c1_0 : Nat) (l1_0 : List Int) (A1_1 : Option Addr) (c1_1 : Nat) (l1_1 : List Int) (A1_2 : Option Addr) (c1_2 : Nat) (l1_2 : List Bool) (A1_3 : Option Addr) (c1_3 : Nat) (l1_3 : List Int) (r : Bool) (w : World) (hr0_0 : Kd.C (Kd.int .i64) w A0_0 l0_0.length l0_0) (hc0_0 : l0_0.length ≤ c0_0) (hr0_1 : Kd.C (Kd.int .i64) w A0_1 l0_1.length l0_1) (hc0_1 : l0_1.length ≤ c0_1) (hr0_2 : Kd.C Kd.bool w A0_2 l0_2.length l0_2) (hc0_2 : l0_2.length ≤ c0_2) (hr0_3 : Kd.C (Kd.int .i64) w A0_3 l0_3.length l0_3) (hc0_3 : l0_3.length ≤ c0_3) (hr1_0 : Kd.C (Kd.int .i64) w A1_0 l1_0.length l1_0) (hc1_0 : l1_0.length ≤ c1_0) (hr1_1 : Kd.C (Kd.int .i64) w A1_1 l1_1.length l1_1) (hc1_1 : l1_1.length ≤ c1_1) (hr1_2 : Kd.C Kd.bool w A1_2 l1_2.length l1_2) (hc1_2 : l1_2.length ≤ c1_2) (hr1_3 : Kd.C (Kd.int .i64) w A1_3 l1_3.length l1_3) (hc1_3 : l1_3.length ≤ c1_3) (h : spec_foSame.f k l0_0 l0_1 l0_2 l0_3 l1_0 l1_1 l1_2 l1_3 = some r) :
  Calls Try.prog 62 #[.agg #[.slice A0_0 l0_0.length c0_0, .slice A0_1 l0_1.length c0_1, .slice A0_2 l0_2.length c0_2, .slice A0_3 l0_3.length c0_3], .agg #[.slice A1_0 l1_0.length c1_0, .slice A1_1 l1_1.length c1_1, .slice A1_2 l1_2.length c1_2, .slice A1_3 l1_3.length c1_3]] w fun e w' => e = .returned (.bool r) ∧ Below w.heap.size w w' := by
 have hu27 := Try.underlying27
 have HR0_0 := Ya hr0_0
 have HC0_0 := Ya hc0_0
 clear hr0_0 hc0_0
 have HR0_1 := Ya hr0_1
 have HC0_1 := Ya hc0_1
 clear hr0_1 hc0_1
 have HR0_2 := Ya hr0_2
 have HC0_2 := Ya hc0_2
 clear hr0_2 hc0_2
 have HR0_3 := Ya hr0_3
 have HC0_3 := Ya hc0_3
 clear hr0_3 hc0_3
 have HR1_0 := Ya hr1_0
 have HC1_0 := Ya hc1_0
 clear hr1_0 hc1_0
 have HR1_1 := Ya hr1_1
 have HC1_1 := Ya hc1_1
 clear hr1_1 hc1_1
 have HR1_2 := Ya hr1_2
 have HC1_2 := Ya hc1_2
 clear hr1_2 hc1_2
 have HR1_3 := Ya hr1_3
 have HC1_3 := Ya hc1_3
 clear hr1_3 hc1_3
 have HB := Ya (Below.refl w.heap.size w)
 have H : ((spec_l1Same.f k l0_0 l1_0).bind fun t293 => (if t293 = true then ((spec_l1Same.f k l0_1 l1_1).bind fun t294 => (if t294 = true then ((spec_l1Same.f k l0_3 l1_3).bind fun t295 => (if t295 = true then (spec_foSame.j0 k ((l0_2.length : Int) != (l1_2.length : Int)) l0_0 l0_1 l0_2 l0_3 l1_0 l1_1 l1_2 l1_3) else (spec_foSame.j0 k true l0_0 l0_1 l0_2 l0_3 l1_0 l1_1 l1_2 l1_3))) else (spec_foSame.j0 k true l0_0 l0_1 l0_2 l0_3 l1_0 l1_1 l1_2 l1_3))) else (spec_foSame.j0 k true l0_0 l0_1 l0_2 l0_3 l1_0 l1_1 l1_2 l1_3))) = some r := h
 clear h
 have HC3 := Ya H
 clear H
 go_enter Try.func62, Try.ntmps62
 go_upto_region 1 with (first | ((with_reducible refine gate_dst (N := 2) rfl ?_); (try (refine gate_guard (by rfl) ?_; dsimp only)); refine Yx 2 #[.slice A0_0 l0_0.length c0_0, .slice A0_1 l0_1.length c0_1, .slice A0_2 l0_2.length c0_2, .slice A0_3 l0_3.length c0_3] 27 ?_; intro gb291 hg w4 hbox hb; have BK291 := Ya hbox; have GE291 := Yg hg; replace HB := Yh hb; clear hb hbox hg) | ((with_reducible refine gate_dst (N := 3) rfl ?_); (try (refine gate_guard (by rfl) ?_; dsimp only)); refine Yx 3 #[.slice A1_0 l1_0.length c1_0, .slice A1_1 l1_1.length c1_1, .slice A1_2 l1_2.length c1_2, .slice A1_3 l1_3.length c1_3] 27 ?_; intro gb292 hg w5 hbox hb; have BK292 := Ya hbox; have GE292 := Yg hg; replace HB := Yh hb; have NB291_292 := Yn BK291 hg; have NB292_291 := Ym BK291 hg; replace BK291 := Yb BK291 hb; clear hb hbox hg))
 (try simp only [Act.put, Z0, Z1, Z2])
 go_cut [37] (fun v37 wc => ∃ (kq : Nat) (x37_2 : Bool), v37 = .bool x37_2 ∧ Aside0 (spec_foSame.j0 kq x37_2 l0_0 l0_1 l0_2 l0_3 l1_0 l1_1 l1_2 l1_3 = some r) ∧ Aside0 (kq ≤ k) ∧ Aside0 (wc.heap[gb291]? = some (.cells #[(.slice A0_0 l0_0.length c0_0), (.slice A0_1 l0_1.length c0_1), (.slice A0_2 l0_2.length c0_2), (.slice A0_3 l0_3.length c0_3)] 27 (0, 0))) ∧ Aside0 (wc.heap[gb292]? = some (.cells #[(.slice A1_0 l1_0.length c1_0), (.slice A1_1 l1_1.length c1_1), (.slice A1_2 l1_2.length c1_2), (.slice A1_3 l1_3.length c1_3)] 27 (0, 0))) ∧ Aside0 (Below w.heap.size w wc))
 case first =>
  have H := HC3.out
  clear HC3
  replace H := Z36.mp H
  obtain ⟨t293, A60, H⟩ := H
  replace H : (if t293 = true then ((spec_l1Same.f k l0_1 l1_1).bind fun t294 => (if t294 = true then ((spec_l1Same.f k l0_3 l1_3).bind fun t295 => (if t295 = true then (spec_foSame.j0 k ((l0_2.length : Int) != (l1_2.length : Int)) l0_0 l0_1 l0_2 l0_3 l1_0 l1_1 l1_2 l1_3) else (spec_foSame.j0 k true l0_0 l0_1 l0_2 l0_3 l1_0 l1_1 l1_2 l1_3))) else (spec_foSame.j0 k true l0_0 l0_1 l0_2 l0_3 l1_0 l1_1 l1_2 l1_3))) else (spec_foSame.j0 k true l0_0 l0_1 l0_2 l0_3 l1_0 l1_1 l1_2 l1_3)) = some r := H
  have A6 := Ya A60
  clear A60
  by_cases c7 : t293 = true
  ·subst c7
   have H1 : ((spec_l1Same.f k l0_1 l1_1).bind fun t294 => (if t294 = true then ((spec_l1Same.f k l0_3 l1_3).bind fun t295 => (if t295 = true then (spec_foSame.j0 k ((l0_2.length : Int) != (l1_2.length : Int)) l0_0 l0_1 l0_2 l0_3 l1_0 l1_1 l1_2 l1_3) else (spec_foSame.j0 k true l0_0 l0_1 l0_2 l0_3 l1_0 l1_1 l1_2 l1_3))) else (spec_foSame.j0 k true l0_0 l0_1 l0_2 l0_3 l1_0 l1_1 l1_2 l1_3))) = some r := by rw [if_pos rfl] at H; exact H
   clear H
   have H := H1
   clear H1
   replace H := Z36.mp H
   obtain ⟨t294, A80, H⟩ := H
   replace H : (if t294 = true then ((spec_l1Same.f k l0_3 l1_3).bind fun t295 => (if t295 = true then (spec_foSame.j0 k ((l0_2.length : Int) != (l1_2.length : Int)) l0_0 l0_1 l0_2 l0_3 l1_0 l1_1 l1_2 l1_3) else (spec_foSame.j0 k true l0_0 l0_1 l0_2 l0_3 l1_0 l1_1 l1_2 l1_3))) else (spec_foSame.j0 k true l0_0 l0_1 l0_2 l0_3 l1_0 l1_1 l1_2 l1_3)) = some r := H
   have A8 := Ya A80
   clear A80
   by_cases c9 : t294 = true
   ·subst c9
    have H1 : ((spec_l1Same.f k l0_3 l1_3).bind fun t295 => (if t295 = true then (spec_foSame.j0 k ((l0_2.length : Int) != (l1_2.length : Int)) l0_0 l0_1 l0_2 l0_3 l1_0 l1_1 l1_2 l1_3) else (spec_foSame.j0 k true l0_0 l0_1 l0_2 l0_3 l1_0 l1_1 l1_2 l1_3))) = some r := by rw [if_pos rfl] at H; exact H
    clear H
    have H := H1
    clear H1
    replace H := Z36.mp H
    obtain ⟨t295, A100, H⟩ := H
    replace H : (if t295 = true then (spec_foSame.j0 k ((l0_2.length : Int) != (l1_2.length : Int)) l0_0 l0_1 l0_2 l0_3 l1_0 l1_1 l1_2 l1_3) else (spec_foSame.j0 k true l0_0 l0_1 l0_2 l0_3 l1_0 l1_1 l1_2 l1_3)) = some r := H
    have A10 := Ya A100
    clear A100
    by_cases c11 : t295 = true
    ·subst c11
     have H1 : (spec_foSame.j0 k ((l0_2.length : Int) != (l1_2.length : Int)) l0_0 l0_1 l0_2 l0_3 l1_0 l1_1 l1_2 l1_3) = some r := by rw [if_pos rfl] at H; exact H
     clear H
     have H := H1
     clear H1
     have H' := Ya H
     clear H
     have hnb12 := NB291_292.out
     have hnc12 := NB292_291.out
     obtain ⟨hcz13_0, hcz13_1, hcz13_2, hcz13_3, hfz13_0, hfz13_1, hfz13_2, hfz13_3⟩ := Y4 BK291.out
     obtain ⟨hcz14_0, hcz14_1, hcz14_2, hcz14_3, hfz14_0, hfz14_1, hfz14_2, hfz14_3⟩ := Y4 BK292.out
     go_wp2_with (first | ((with_reducible refine gate_callee (f := 70) rfl ?_); refine Yz 11 Try.func70 #[.slice A0_0 l0_0.length c0_0, .slice A1_0 l1_0.length c1_0] ?_; (with_reducible refine (spec_l1Same.calls k _ _ l0_0 _ _ l1_0 true _ (Yc (Z22 HR0_0.out HB.out)) HC0_0.out (Yc (Z22 HR1_0.out HB.out)) HC1_0.out A6.out).mono ?_); rintro e w' ⟨rfl, ⟨nd, rfl⟩⟩; refine ⟨_, rfl, ?_⟩) | (go_at_call 70; (with_reducible refine (spec_l1Same.calls k _ _ l0_1 _ _ l1_1 true _ ?side1 HC0_1.out ?side3 HC1_1.out A8.out).mono ?_); (case side1 => exact Yc (Z22 HR0_1.out Q0)); (case side3 => exact Yc (Z22 HR1_1.out Q0)); rintro e w' ⟨rfl, ⟨nd, rfl⟩⟩) | (go_at_call 70; (with_reducible refine (spec_l1Same.calls k _ _ l0_3 _ _ l1_3 true _ ?side1 HC0_3.out ?side3 HC1_3.out A10.out).mono ?_); (case side1 => exact Yc (Z22 HR0_3.out Q0)); (case side3 => exact Yc (Z22 HR1_3.out Q0)); rintro e w' ⟨rfl, ⟨nd, rfl⟩⟩))
     go_meet
     case rel => exact ⟨_, (((l0_2.length : Int) != (l1_2.length : Int))), Q8, H', ⟨Q33⟩, ⟨Q28⟩, ⟨Q27⟩, ⟨Q12⟩⟩
    ·replace c11 := Bool.eq_false_iff.mpr c11
     subst c11
     have H1 : (spec_foSame.j0 k true l0_0 l0_1 l0_2 l0_3 l1_0 l1_1 l1_2 l1_3) = some r := by rw [if_neg (show ¬ (false = true) by decide)] at H; exact H
     clear H
     have H := H1
     clear H1
     have H' := Ya H
     clear H
     have hnb15 := NB291_292.out
     have hnc15 := NB292_291.out
     obtain ⟨hcz16_0, hcz16_1, hcz16_2, hcz16_3, hfz16_0, hfz16_1, hfz16_2, hfz16_3⟩ := Y4 BK291.out
     obtain ⟨hcz17_0, hcz17_1, hcz17_2, hcz17_3, hfz17_0, hfz17_1, hfz17_2, hfz17_3⟩ := Y4 BK292.out
     go_wp2_with (first | ((with_reducible refine gate_callee (f := 70) rfl ?_); refine Yz 11 Try.func70 #[.slice A0_0 l0_0.length c0_0, .slice A1_0 l1_0.length c1_0] ?_; (with_reducible refine (spec_l1Same.calls k _ _ l0_0 _ _ l1_0 true _ (Yc (Z22 HR0_0.out HB.out)) HC0_0.out (Yc (Z22 HR1_0.out HB.out)) HC1_0.out A6.out).mono ?_); rintro e w' ⟨rfl, ⟨nd, rfl⟩⟩; refine ⟨_, rfl, ?_⟩) | (go_at_call 70; (with_reducible refine (spec_l1Same.calls k _ _ l0_1 _ _ l1_1 true _ ?side1 HC0_1.out ?side3 HC1_1.out A8.out).mono ?_); (case side1 => exact Yc (Z22 HR0_1.out Q0)); (case side3 => exact Yc (Z22 HR1_1.out Q0)); rintro e w' ⟨rfl, ⟨nd, rfl⟩⟩) | (go_at_call 70; (with_reducible refine (spec_l1Same.calls k _ _ l0_3 _ _ l1_3 false _ ?side1 HC0_3.out ?side3 HC1_3.out A10.out).mono ?_); (case side1 => exact Yc (Z22 HR0_3.out Q0)); (case side3 => exact Yc (Z22 HR1_3.out Q0)); rintro e w' ⟨rfl, ⟨nd, rfl⟩⟩))
     go_meet
     case rel => exact ⟨_, (true), Q8, H', ⟨Q33⟩, ⟨Q28⟩, ⟨Q27⟩, ⟨Q12⟩⟩
   ·replace c9 := Bool.eq_false_iff.mpr c9
    subst c9
    have H1 : (spec_foSame.j0 k true l0_0 l0_1 l0_2 l0_3 l1_0 l1_1 l1_2 l1_3) = some r := by rw [if_neg (show ¬ (false = true) by decide)] at H; exact H
    clear H
    have H := H1
    clear H1
    have H' := Ya H
    clear H
    have hnb18 := NB291_292.out
    have hnc18 := NB292_291.out
    obtain ⟨hcz19_0, hcz19_1, hcz19_2, hcz19_3, hfz19_0, hfz19_1, hfz19_2, hfz19_3⟩ := Y4 BK291.out
    obtain ⟨hcz20_0, hcz20_1, hcz20_2, hcz20_3, hfz20_0, hfz20_1, hfz20_2, hfz20_3⟩ := Y4 BK292.out
    go_wp2_with (first | ((with_reducible refine gate_callee (f := 70) rfl ?_); refine Yz 11 Try.func70 #[.slice A0_0 l0_0.length c0_0, .slice A1_0 l1_0.length c1_0] ?_; (with_reducible refine (spec_l1Same.calls k _ _ l0_0 _ _ l1_0 true _ (Yc (Z22 HR0_0.out HB.out)) HC0_0.out (Yc (Z22 HR1_0.out HB.out)) HC1_0.out A6.out).mono ?_); rintro e w' ⟨rfl, ⟨nd, rfl⟩⟩; refine ⟨_, rfl, ?_⟩) | (go_at_call 70; (with_reducible refine (spec_l1Same.calls k _ _ l0_1 _ _ l1_1 false _ ?side1 HC0_1.out ?side3 HC1_1.out A8.out).mono ?_); (case side1 => exact Yc (Z22 HR0_1.out Q0)); (case side3 => exact Yc (Z22 HR1_1.out Q0)); rintro e w' ⟨rfl, ⟨nd, rfl⟩⟩))
    go_meet
    case rel => exact ⟨_, (true), Q8, H', ⟨Q33⟩, ⟨Q28⟩, ⟨Q27⟩, ⟨Q12⟩⟩
  ·replace c7 := Bool.eq_false_iff.mpr c7
   subst c7
   have H1 : (spec_foSame.j0 k true l0_0 l0_1 l0_2 l0_3 l1_0 l1_1 l1_2 l1_3) = some r := by rw [if_neg (show ¬ (false = true) by decide)] at H; exact H
   clear H
   have H := H1
   clear H1
   have H' := Ya H
   clear H
   have hnb21 := NB291_292.out
   have hnc21 := NB292_291.out
   obtain ⟨hcz22_0, hcz22_1, hcz22_2, hcz22_3, hfz22_0, hfz22_1, hfz22_2, hfz22_3⟩ := Y4 BK291.out
   obtain ⟨hcz23_0, hcz23_1, hcz23_2, hcz23_3, hfz23_0, hfz23_1, hfz23_2, hfz23_3⟩ := Y4 BK292.out
   go_wp2_with (first | ((with_reducible refine gate_callee (f := 70) rfl ?_); refine Yz 11 Try.func70 #[.slice A0_0 l0_0.length c0_0, .slice A1_0 l1_0.length c1_0] ?_; (with_reducible refine (spec_l1Same.calls k _ _ l0_0 _ _ l1_0 false _ (Yc (Z22 HR0_0.out HB.out)) HC0_0.out (Yc (Z22 HR1_0.out HB.out)) HC1_0.out A6.out).mono ?_); rintro e w' ⟨rfl, ⟨nd, rfl⟩⟩; refine ⟨_, rfl, ?_⟩))
   go_meet
   case rel => exact ⟨_, (true), Q8, H', ⟨Q33⟩, ⟨Q28⟩, ⟨Q27⟩, ⟨Q12⟩⟩
 case rest =>
  clear HC3
  try clear c1
  try clear c2
  try clear p2
  try clear c6
  try clear c7
  try clear c9
  try clear c11
  try clear c12
  try clear c15
  try clear c18
  try clear c21
  try clear hcz13_0
  try clear hcz13_1
  try clear hcz13_2
  try clear hcz13_3
  try clear hcz14_0
  try clear hcz14_1
  try clear hcz14_2
  try clear hcz14_3
  try clear hcz16_0
  try clear hcz16_1
  try clear hcz16_2
  try clear hcz16_3
  try clear hcz17_0
  try clear hcz17_1
  try clear hcz17_2
  try clear hcz17_3
  try clear hcz19_0
  try clear hcz19_1
  try clear hcz19_2
  try clear hcz19_3
  try clear hcz20_0
  try clear hcz20_1
  try clear hcz20_2
  try clear hcz20_3
  try clear hcz22_0
  try clear hcz22_1
  try clear hcz22_2
  try clear hcz22_3
  try clear hcz23_0
  try clear hcz23_1
  try clear hcz23_2
  try clear hcz23_3
  try clear hfz13_0
  try clear hfz13_1
  try clear hfz13_2
  try clear hfz13_3
  try clear hfz14_0
  try clear hfz14_1
  try clear hfz14_2
  try clear hfz14_3
  try clear hfz16_0
  try clear hfz16_1
  try clear hfz16_2
  try clear hfz16_3
  try clear hfz17_0
  try clear hfz17_1
  try clear hfz17_2
  try clear hfz17_3
  try clear hfz19_0
  try clear hfz19_1
  try clear hfz19_2
  try clear hfz19_3
  try clear hfz20_0
  try clear hfz20_1
  try clear hfz20_2
  try clear hfz20_3
  try clear hfz22_0
  try clear hfz22_1
  try clear hfz22_2
  try clear hfz22_3
  try clear hfz23_0
  try clear hfz23_1
  try clear hfz23_2
  try clear hfz23_3
  obtain ⟨kq, x37_2, rfl, HA, HJ2, BK291, BK292, HB⟩ := hcut
  cases kq with
  | zero => exact absurd HA.out (by simp [spec_foSame.j0])
  | succ kj2 =>
   have H := HA.out
   clear HA
   simp only [spec_foSame.j0] at H
   by_cases c24 : x37_2 = true
   ·subst c24
    have H1 : (some false) = some r := by rw [if_pos rfl] at H; exact H
    clear H
    have H := H1
    clear H1
    obtain rfl := Option.some.inj H
    go_wp2
    go_ret
    exact ⟨Q2, Q12⟩
   ·replace c24 := Bool.eq_false_iff.mpr c24
    subst c24
    have H1 : (spec_foSame.l0 kj2 l0_2 (l0_2.length : Int) 0 l1_0 l1_1 l1_2 l1_3) = some r := by rw [if_neg (show ¬ (false = true) by decide)] at H; exact H
    clear H
    have H := H1
    clear H1
    have H' := Ya H
    clear H
    have hnb25 := NB291_292.out
    have hnc25 := NB292_291.out
    obtain ⟨hcz26_0, hcz26_1, hcz26_2, hcz26_3, hfz26_0, hfz26_1, hfz26_2, hfz26_3⟩ := Y4 BK291.out
    go_wp2
    go_loopg [41] kj2 (fun kq v41 w' => ∃ (x41_2 : Int), v41 = .int .i64 x41_2 ∧ Aside0 (spec_foSame.l0 kq l0_2 (l0_2.length : Int) x41_2 l1_0 l1_1 l1_2 l1_3 = some r) ∧ Aside0 (kq ≤ kj2) ∧ Aside0 (w'.heap[gb291]? = some (.cells #[(.slice A0_0 l0_0.length c0_0), (.slice A0_1 l0_1.length c0_1), (.slice A0_2 l0_2.length c0_2), (.slice A0_3 l0_3.length c0_3)] 27 (0, 0))) ∧ Aside0 (w'.heap[gb292]? = some (.cells #[(.slice A1_0 l1_0.length c1_0), (.slice A1_1 l1_1.length c1_1), (.slice A1_2 l1_2.length c1_2), (.slice A1_3 l1_3.length c1_3)] 27 (0, 0))) ∧ Aside0 (Below w.heap.size w w'))
    case atStart => exact ⟨(0), Q8, H', ⟨Nat.le_refl _⟩, ⟨Q28⟩, ⟨Q27⟩, ⟨Q12⟩⟩
    case round =>
     clear H'
     try clear c1
     try clear c2
     try clear p2
     try clear c6
     try clear c7
     try clear c9
     try clear c11
     try clear c12
     try clear c15
     try clear c18
     try clear c21
     try clear c24
     try clear c25
     try clear hcz13_0
     try clear hcz13_1
     try clear hcz13_2
     try clear hcz13_3
     try clear hcz14_0
     try clear hcz14_1
     try clear hcz14_2
     try clear hcz14_3
     try clear hcz16_0
     try clear hcz16_1
     try clear hcz16_2
     try clear hcz16_3
     try clear hcz17_0
     try clear hcz17_1
     try clear hcz17_2
     try clear hcz17_3
     try clear hcz19_0
     try clear hcz19_1
     try clear hcz19_2
     try clear hcz19_3
     try clear hcz20_0
     try clear hcz20_1
     try clear hcz20_2
     try clear hcz20_3
     try clear hcz22_0
     try clear hcz22_1
     try clear hcz22_2
     try clear hcz22_3
     try clear hcz23_0
     try clear hcz23_1
     try clear hcz23_2
     try clear hcz23_3
     try clear hcz26_0
     try clear hcz26_1
     try clear hcz26_2
     try clear hcz26_3
     try clear hfz13_0
     try clear hfz13_1
     try clear hfz13_2
     try clear hfz13_3
     try clear hfz14_0
     try clear hfz14_1
     try clear hfz14_2
     try clear hfz14_3
     try clear hfz16_0
     try clear hfz16_1
     try clear hfz16_2
     try clear hfz16_3
     try clear hfz17_0
     try clear hfz17_1
     try clear hfz17_2
     try clear hfz17_3
     try clear hfz19_0
     try clear hfz19_1
     try clear hfz19_2
     try clear hfz19_3
     try clear hfz20_0
     try clear hfz20_1
     try clear hfz20_2
     try clear hfz20_3
     try clear hfz22_0
     try clear hfz22_1
     try clear hfz22_2
     try clear hfz22_3
     try clear hfz23_0
     try clear hfz23_1
     try clear hfz23_2
     try clear hfz23_3
     try clear hfz26_0
     try clear hfz26_1
     try clear hfz26_2
     try clear hfz26_3
     try clear p2
     obtain ⟨x41_2, rfl, HA, HK2, BK291, BK292, HB⟩ := hrel
     cases gk with
     | zero => exact absurd HA.out (by simp [spec_foSame.l0])
     | succ k2 =>
      have H := HA.out
      clear HA
      simp only [spec_foSame.l0] at H
      by_cases c27 : x41_2 < (l0_2.length : Int)
      ·rw [if_pos c27] at H
       have c27b0 := Z38 c27
       clear c27
       by_cases c28 : 0 ≤ x41_2
       ·rw [if_pos c28] at H
        have c28b0 := Z38 c28
        clear c28
        by_cases c29 : x41_2 < (l0_2.length : Int)
        ·rw [if_pos c29] at H
         have c29b0 := Z38 c29
         clear c29
         by_cases c30 : x41_2 < (l1_2.length : Int)
         ·rw [if_pos c30] at H
          have c30b0 := Z38 c30
          clear c30
          by_cases c31 : ((rdOf false l0_2 x41_2) != (rdOf false l1_2 x41_2)) = true
          ·rw [if_pos c31] at H
           have c31b0 : ((rdOf false l0_2 x41_2) != (rdOf false l1_2 x41_2)) = true := c31
           (try (have c31b1 : decide ((rdOf false l0_2 x41_2) = (rdOf false l1_2 x41_2)) = false := by simpa using c31))
           (try (have c31b2 : ((rdOf false l0_2 x41_2) == (rdOf false l1_2 x41_2)) = false := by simpa using c31))
           (try (have c31b3 : ¬ ((rdOf false l0_2 x41_2) = (rdOf false l1_2 x41_2)) := by simpa using c31))
           clear c31
           obtain rfl := Option.some.inj H
           have p296 : 0 ≤ (x41_2 : Int) := Z30 Q1
           have q296 : x41_2 < (l0_2.length : Int) := Z30 Q1
           obtain ⟨ad296, e296, hx296_0⟩ := Kd.at_bool HR0_2.out x41_2 p296 q296
           cases e296
           try replace hx296_0 := (HB.out.cell (World.block_lt_of_cell? w _ hx296_0)).trans hx296_0
           replace p296 := eq_true p296
           replace q296 := eq_true q296
           have hnb32 := NB292_291.out
           have hnc32 := NB291_292.out
           have hz33 := Y4 BK292.out
           have p297 : 0 ≤ (x41_2 : Int) := Z30 Q1
           have q297 : x41_2 < (l1_2.length : Int) := Z30 Q1
           obtain ⟨ad297, e297, hx297_0⟩ := Kd.at_bool HR1_2.out x41_2 p297 q297
           cases e297
           try replace hx297_0 := (HB.out.cell (World.block_lt_of_cell? w _ hx297_0)).trans hx297_0
           replace p297 := eq_true p297
           replace q297 := eq_true q297
           go_wp2
           go_ret
           exact ⟨Q2, Q12⟩
          ·rw [if_neg c31] at H
           have c31b0 : ((rdOf false l0_2 x41_2) != (rdOf false l1_2 x41_2)) = false := by simpa using c31
           (try (have c31b1 : decide ((rdOf false l0_2 x41_2) = (rdOf false l1_2 x41_2)) = true := by simpa using c31))
           (try (have c31b2 : ((rdOf false l0_2 x41_2) == (rdOf false l1_2 x41_2)) = true := by simpa using c31))
           clear c31
           have H' := Ya H
           clear H
           have p296 : 0 ≤ (x41_2 : Int) := Z30 Q1
           have q296 : x41_2 < (l0_2.length : Int) := Z30 Q1
           obtain ⟨ad296, e296, hx296_0⟩ := Kd.at_bool HR0_2.out x41_2 p296 q296
           cases e296
           try replace hx296_0 := (HB.out.cell (World.block_lt_of_cell? w _ hx296_0)).trans hx296_0
           replace p296 := eq_true p296
           replace q296 := eq_true q296
           have hnb34 := NB292_291.out
           have hnc34 := NB291_292.out
           have hz35 := Y4 BK292.out
           have p297 : 0 ≤ (x41_2 : Int) := Z30 Q1
           have q297 : x41_2 < (l1_2.length : Int) := Z30 Q1
           obtain ⟨ad297, e297, hx297_0⟩ := Kd.at_bool HR1_2.out x41_2 p297 q297
           cases e297
           try replace hx297_0 := (HB.out.cell (World.block_lt_of_cell? w _ hx297_0)).trans hx297_0
           replace p297 := eq_true p297
           replace q297 := eq_true q297
           go_wp2
           go_roundg k2
           case measure => have := HJ2.out; have := HK2.out; omega
           case rel => exact ⟨(wrap64 (x41_2 + 1)), Q8, H', ⟨by have := HJ2.out; have := HK2.out; omega⟩, ⟨Q28⟩, ⟨Q27⟩, ⟨Q12⟩⟩
         ·rw [if_neg c30] at H
          exact absurd H (by simp)
        ·rw [if_neg c29] at H
         exact absurd H (by simp)
       ·rw [if_neg c28] at H
        exact absurd H (by simp)
      ·rw [if_neg c27] at H
       have c27b0 := Z37 c27
       clear c27
       obtain rfl := Option.some.inj H
       go_wp2
       go_ret
       exact ⟨Q2, Q12⟩
def spec_foGood.j0 : Nat → Bool → List Int → List Int → List Bool → List Int → Option (Bool)
 | 0, _, _, _, _, _ => none
 | k + 1, x16, x299000, x299001, x299002, x299003 => if x16 = true then (some false) else ((spec_gcMixedRank.f k x299000 x299001).bind fun t301 => ((spec_foAt.f k x299000 t301).bind fun bt302 => (if bt302.2.2.2.2 = true then ((spec_foSame.f k x299000 x299001 x299002 x299003 bt302.1 bt302.2.1 bt302.2.2.1 bt302.2.2.2.1).bind fun t316 => (some t316)) else (some false))))
def spec_foGood.f (k : Nat) (l0_0 : List Int) (l0_1 : List Int) (l0_2 : List Bool) (l0_3 : List Int) : Option (Bool) := (spec_foBases.f k l0_0).bind fun t299 => (if t299 = true then ((spec_raAreDigits.f k l0_0 l0_1).bind fun t300 => (spec_foGood.j0 k (!t300) l0_0 l0_1 l0_2 l0_3)) else (spec_foGood.j0 k true l0_0 l0_1 l0_2 l0_3))
theorem spec_foGood.mono_l : ∀ k, (∀ y0 y1 y2 y3 y4, LeO (spec_foGood.j0 k y0 y1 y2 y3 y4) (spec_foGood.j0 (k + 1) y0 y1 y2 y3 y4))
 | 0 => fun _ _ _ _ _ r h => by simp [spec_foGood.j0] at h
 | k + 1 => by
  have ih0 := spec_foGood.mono_l k
  ·intro y0 y1 y2 y3 y4
   unfold spec_foGood.j0
   repeat' first
   | (with_reducible exact ih0 _ _ _ _ _)
   | (with_reducible exact spec_foAt.mono _ _ _)
   | (with_reducible exact spec_foBases.mono _ _)
   | (with_reducible exact spec_foSame.mono _ _ _ _ _ _ _ _ _)
   | (with_reducible exact spec_gcMixedRank.mono _ _ _)
   | (with_reducible exact spec_raAreDigits.mono _ _ _)
   | (with_reducible exact LeO.refl _)
   | (with_reducible exact LeO.none _)
   | (with_reducible refine LeO.ite ?_ ?_)
   | (with_reducible refine LeO.bind ?_ (fun _ => ?_))
   | exact ih0 _ _ _ _ _
   | exact spec_foAt.mono _ _ _
   | exact spec_foBases.mono _ _
   | exact spec_foSame.mono _ _ _ _ _ _ _ _ _
   | exact spec_gcMixedRank.mono _ _ _
   | exact spec_raAreDigits.mono _ _ _
   | exact LeO.none _
   | refine LeO.ite ?_ ?_
   | refine LeO.bind ?_ (fun _ => ?_)
theorem spec_foGood.mono : ∀ a0 a1 a2 a3 k, LeO (spec_foGood.f k a0 a1 a2 a3) (spec_foGood.f (k + 1) a0 a1 a2 a3) := by
 intro a0 a1 a2 a3 k
 have ih0 := spec_foGood.mono_l k
 unfold spec_foGood.f
 repeat' first
   | (with_reducible exact ih0 _ _ _ _ _)
   | (with_reducible exact spec_foAt.mono _ _ _)
   | (with_reducible exact spec_foBases.mono _ _)
   | (with_reducible exact spec_foSame.mono _ _ _ _ _ _ _ _ _)
   | (with_reducible exact spec_gcMixedRank.mono _ _ _)
   | (with_reducible exact spec_raAreDigits.mono _ _ _)
   | (with_reducible exact LeO.refl _)
   | (with_reducible exact LeO.none _)
   | (with_reducible refine LeO.ite ?_ ?_)
   | (with_reducible refine LeO.bind ?_ (fun _ => ?_))
   | exact ih0 _ _ _ _ _
   | exact spec_foAt.mono _ _ _
   | exact spec_foBases.mono _ _
   | exact spec_foSame.mono _ _ _ _ _ _ _ _ _
   | exact spec_gcMixedRank.mono _ _ _
   | exact spec_raAreDigits.mono _ _ _
   | exact LeO.none _
   | refine LeO.ite ?_ ?_
   | refine LeO.bind ?_ (fun _ => ?_)
def spec_foGood.T3 : Bool × List (List Nat × List Nat) := (true, [([], []), ([0], [0]), ([], []), ([2], [2]), ([], []), ([4], [4]), ([3, 5], [3, 5]), ([1, 6, 6], [1, 6]), ([7], [7]), ([8], [8]), ([8], [8]), ([], []), ([11, 9, 7, 0, 1, 2, 3, 4, 5, 6, 7, 8, 9, 11], [9, 11]), ([10, 12, 0, 1, 2, 3, 4, 5, 6, 7, 8, 9, 10, 11, 12], [10])])
def spec_foGood.B3 : List Nat := [0, 1, 0, 4, 0, 16, 60, 127, 255, 511, 511, 0, 3071, 8191]
theorem spec_foGood.tab3 : rtab .any (opsOf Try.f30 3) = spec_foGood.T3 := by kernel_rfl
theorem spec_foGood.bits3 : waitsOk spec_foGood.T3.2 spec_foGood.B3 = true := by kernel_rfl
set_option maxHeartbeats 8000000 in
set_option maxRecDepth 100000 in
theorem spec_foGood.calls (k : Nat) (A0_0 : Option Addr) (c0_0 : Nat) (l0_0 : List Int) (A0_1 : Option Addr) (c0_1 : Nat) (l0_1 : List Int) (A0_2 : Option Addr) (c0_2 : Nat) (l0_2 : List Bool) (A0_3 : Option Addr) (c0_3 : Nat) (l0_3 : List Int) (r : Bool) (w : World) (hr0_0 : Kd.C (Kd.int .i64) w A0_0 l0_0.length l0_0) (hc0_0 : l0_0.length ≤ c0_0) (hr0_1 : Kd.C (Kd.int .i64) w A0_1 l0_1.length l0_1) (hc0_1 : l0_1.length ≤ c0_1) (hr0_2 : Kd.C Kd.bool w A0_2 l0_2.length l0_2) (hc0_2 : l0_2.length ≤ c0_2) (hr0_3 : Kd.C (Kd.int .i64) w A0_3 l0_3.length l0_3) (hc0_3 : l0_3.length ≤ c0_3) (h : spec_foGood.f k l0_0 l0_1 l0_2 l0_3 = some r) :
  Calls Try.prog 30 #[.agg #[.slice A0_0 l0_0.length c0_0, .slice A0_1 l0_1.length c0_1, .slice A0_2 l0_2.length c0_2, .slice A0_3 l0_3.length c0_3]] w fun e w' => e = .returned (.bool r) ∧ Below w.heap.size w w' := by
 have hu27 := Try.underlying27
 have HR0_0 := Ya hr0_0
 have HC0_0 := Ya hc0_0
 clear hr0_0 hc0_0
 have HR0_1 := Ya hr0_1
 have HC0_1 := Ya hc0_1
 clear hr0_1 hc0_1
 have HR0_2 := Ya hr0_2
 have HC0_2 := Ya hc0_2
 clear hr0_2 hc0_2
 have HR0_3 := Ya hr0_3
 have HC0_3 := Ya hc0_3
 clear hr0_3 hc0_3
 have HB := Ya (Below.refl w.heap.size w)
 have H : ((spec_foBases.f k l0_0).bind fun t299 => (if t299 = true then ((spec_raAreDigits.f k l0_0 l0_1).bind fun t300 => (spec_foGood.j0 k (!t300) l0_0 l0_1 l0_2 l0_3)) else (spec_foGood.j0 k true l0_0 l0_1 l0_2 l0_3))) = some r := h
 clear h
 have HC2 := Ya H
 clear H
 go_enter Try.func30, Try.ntmps30
 go_upto_region 1 with (first | ((with_reducible refine gate_dst (N := 1) rfl ?_); refine Yx 1 #[.slice A0_0 l0_0.length c0_0, .slice A0_1 l0_1.length c0_1, .slice A0_2 l0_2.length c0_2, .slice A0_3 l0_3.length c0_3] 27 ?_; intro gb298 hg w3 hbox hb; have BK298 := Ya hbox; have GW298 := Yg hg; have GE298 := GW298; replace HB := Yh hb; clear hb hbox hg))
 (try simp only [Act.put, Z0, Z1, Z2])
 go_cut [16] (fun v16 wc => ∃ (kq : Nat) (x16_1 : Bool), v16 = .bool x16_1 ∧ Aside0 (spec_foGood.j0 kq x16_1 l0_0 l0_1 l0_2 l0_3 = some r) ∧ Aside0 (kq ≤ k) ∧ Aside0 (wc.heap[gb298]? = some (.cells #[(.slice A0_0 l0_0.length c0_0), (.slice A0_1 l0_1.length c0_1), (.slice A0_2 l0_2.length c0_2), (.slice A0_3 l0_3.length c0_3)] 27 (0, 0))) ∧ Aside0 (Below w.heap.size w wc))
 case first =>
  have H := HC2.out
  clear HC2
  replace H := Z36.mp H
  obtain ⟨t299, A40, H⟩ := H
  replace H : (if t299 = true then ((spec_raAreDigits.f k l0_0 l0_1).bind fun t300 => (spec_foGood.j0 k (!t300) l0_0 l0_1 l0_2 l0_3)) else (spec_foGood.j0 k true l0_0 l0_1 l0_2 l0_3)) = some r := H
  have A4 := Ya A40
  clear A40
  by_cases c5 : t299 = true
  ·subst c5
   have H1 : ((spec_raAreDigits.f k l0_0 l0_1).bind fun t300 => (spec_foGood.j0 k (!t300) l0_0 l0_1 l0_2 l0_3)) = some r := by rw [if_pos rfl] at H; exact H
   clear H
   have H := H1
   clear H1
   replace H := Z36.mp H
   obtain ⟨t300, A60, H⟩ := H
   replace H : (spec_foGood.j0 k (!t300) l0_0 l0_1 l0_2 l0_3) = some r := H
   have A6 := Ya A60
   clear A60
   have H' := Ya H
   clear H
   obtain ⟨hcz7_0, hcz7_1, hcz7_2, hcz7_3, hfz7_0, hfz7_1, hfz7_2, hfz7_3⟩ := Y4 BK298.out
   go_wp2_with (first | ((with_reducible refine gate_callee (f := 58) rfl ?_); refine Yz 7 Try.func58 #[.slice A0_0 l0_0.length c0_0] ?_; (with_reducible refine (spec_foBases.calls k _ _ l0_0 true _ (Yc (Z22 HR0_0.out HB.out)) HC0_0.out A4.out).mono ?_); rintro e w' ⟨rfl, ⟨nd, rfl⟩⟩; refine ⟨_, rfl, ?_⟩) | (go_at_call 59; (with_reducible refine (spec_raAreDigits.calls k _ _ l0_0 _ _ l0_1 t300 _ ?side1 HC0_0.out ?side3 HC0_1.out A6.out).mono ?_); (case side1 => exact Yc (Z22 HR0_0.out Q0)); (case side3 => exact Yc (Z22 HR0_1.out Q0)); rintro e w' ⟨rfl, ⟨nd, rfl⟩⟩))
   go_meet
   case rel => exact ⟨_, (!t300), Q8, H', ⟨Q33⟩, ⟨by (with_reducible repeat (first | refine Z25 ?_ _ | refine Z26 ?_ | refine Z27 ?_ _)); exact BK298.out⟩, ⟨Q12⟩⟩
  ·replace c5 := Bool.eq_false_iff.mpr c5
   subst c5
   have H1 : (spec_foGood.j0 k true l0_0 l0_1 l0_2 l0_3) = some r := by rw [if_neg (show ¬ (false = true) by decide)] at H; exact H
   clear H
   have H := H1
   clear H1
   have H' := Ya H
   clear H
   obtain ⟨hcz8_0, hcz8_1, hcz8_2, hcz8_3, hfz8_0, hfz8_1, hfz8_2, hfz8_3⟩ := Y4 BK298.out
   go_wp2_with (first | ((with_reducible refine gate_callee (f := 58) rfl ?_); refine Yz 7 Try.func58 #[.slice A0_0 l0_0.length c0_0] ?_; (with_reducible refine (spec_foBases.calls k _ _ l0_0 false _ (Yc (Z22 HR0_0.out HB.out)) HC0_0.out A4.out).mono ?_); rintro e w' ⟨rfl, ⟨nd, rfl⟩⟩; refine ⟨_, rfl, ?_⟩))
   go_meet
   case rel => exact ⟨_, (true), Q8, H', ⟨Q33⟩, ⟨by (with_reducible repeat (first | refine Z25 ?_ _ | refine Z26 ?_ | refine Z27 ?_ _)); exact BK298.out⟩, ⟨Q12⟩⟩
 case rest =>
  clear HC2
  try clear p2
  try clear c3
  try clear c5
  try clear hcz7_0
  try clear hcz7_1
  try clear hcz7_2
  try clear hcz7_3
  try clear hcz8_0
  try clear hcz8_1
  try clear hcz8_2
  try clear hcz8_3
  try clear hfz7_0
  try clear hfz7_1
  try clear hfz7_2
  try clear hfz7_3
  try clear hfz8_0
  try clear hfz8_1
  try clear hfz8_2
  try clear hfz8_3
  obtain ⟨kq, x16_1, rfl, HA, HJ1, BK298, HB⟩ := hcut
  cases kq with
  | zero => exact absurd HA.out (by simp [spec_foGood.j0])
  | succ kj1 =>
   have H := HA.out
   clear HA
   simp only [spec_foGood.j0] at H
   by_cases c9 : x16_1 = true
   ·subst c9
    have H1 : (some false) = some r := by rw [if_pos rfl] at H; exact H
    clear H
    have H := H1
    clear H1
    obtain rfl := Option.some.inj H
    go_wp2
    go_ret
    exact ⟨Q2, Q12⟩
   ·replace c9 := Bool.eq_false_iff.mpr c9
    subst c9
    have H1 : ((spec_gcMixedRank.f kj1 l0_0 l0_1).bind fun t301 => ((spec_foAt.f kj1 l0_0 t301).bind fun bt302 => (if bt302.2.2.2.2 = true then ((spec_foSame.f kj1 l0_0 l0_1 l0_2 l0_3 bt302.1 bt302.2.1 bt302.2.2.1 bt302.2.2.2.1).bind fun t316 => (some t316)) else (some false)))) = some r := by rw [if_neg (show ¬ (false = true) by decide)] at H; exact H
    clear H
    have H := H1
    clear H1
    replace H := Z36.mp H
    obtain ⟨t301, A100, H⟩ := H
    replace H : ((spec_foAt.f kj1 l0_0 t301).bind fun bt302 => (if bt302.2.2.2.2 = true then ((spec_foSame.f kj1 l0_0 l0_1 l0_2 l0_3 bt302.1 bt302.2.1 bt302.2.2.1 bt302.2.2.2.1).bind fun t316 => (some t316)) else (some false))) = some r := H
    have A10 := Ya A100
    clear A100
    replace H := Z36.mp H
    obtain ⟨⟨t302, t305, t308, t311, t314⟩, A110, H⟩ := H
    replace H : (if t314 = true then ((spec_foSame.f kj1 l0_0 l0_1 l0_2 l0_3 t302 t305 t308 t311).bind fun t316 => (some t316)) else (some false)) = some r := H
    have A11 := Ya A110
    clear A110
    by_cases c12 : t314 = true
    ·subst c12
     have H1 : ((spec_foSame.f kj1 l0_0 l0_1 l0_2 l0_3 t302 t305 t308 t311).bind fun t316 => (some t316)) = some r := by rw [if_pos rfl] at H; exact H
     clear H
     have H := H1
     clear H1
     replace H := Z36.mp H
     obtain ⟨t316, A130, H⟩ := H
     replace H : (some t316) = some r := H
     have A13 := Ya A130
     clear A130
     obtain rfl := Option.some.inj H
     try go_wp2
     replace BK298 := Ya (Z26 BK298.out)
     replace HB := Ya (Z4 HB.out)
     refine start_ (n := 14) (S := fun w' => w'.cell? ⟨gb298, 0, none⟩ = some (.slice A0_0 l0_0.length c0_0) ∧ w'.cell? ⟨gb298, 1, none⟩ = some (.slice A0_1 l0_1.length c0_1) ∧ w'.cell? ⟨gb298, 2, none⟩ = some (.slice A0_2 l0_2.length c0_2) ∧ w'.cell? ⟨gb298, 3, none⟩ = some (.slice A0_3 l0_3.length c0_3)) (ds := []) (YA 14 0) (by kernel_rfl) rfl rfl (Yz4 BK298.out) (fun hHeld => ?_); refine with_tabW spec_foGood.tab3 spec_foGood.bits3 (fun HT_ HW_ => ?_)
     generalize wc.drew = w14 at BK298 HB hHeld ⊢
     refine Yp 0 (some 18) (YA 14 1) rfl HT_.out ?_
     refine Yp 2 (some 20) (YA 14 5) rfl HT_.out ?_
     refine Yp 4 (some 22) (YA 14 21) rfl HT_.out ?_
     refine Yt 1 (some 19) (YA 14 23) rfl HT_.out HW_.out hHeld Q3 ?_
     refine Yt 3 (some 21) (YA 14 31) rfl HT_.out HW_.out hHeld Q3 ?_
     refine Yt 5 (some 23) (YA 14 63) rfl HT_.out HW_.out hHeld Q3 ?_
     refine join_ (σ := Value × Value × Value × Value × Nat) 2 (YA 14 4095) (fun s_ => [(24, .int .i64 t301), (25, .tuple #[.agg #[s_.1, s_.2.1, s_.2.2.1, s_.2.2.2.1], .bool true]), (3, .pointer (some ⟨s_.2.2.2.2, 0, none⟩)), (17, .tuple #[.agg #[s_.1, s_.2.1, s_.2.2.1, s_.2.2.2.1], .bool true]), (26, .agg #[s_.1, s_.2.1, s_.2.2.1, s_.2.2.2.1]), (27, .bool true)]) (fun s_ w' => (w'.cell? ⟨gb298, 0, none⟩ = some (.slice A0_0 l0_0.length c0_0) ∧ w'.cell? ⟨gb298, 1, none⟩ = some (.slice A0_1 l0_1.length c0_1) ∧ w'.cell? ⟨gb298, 2, none⟩ = some (.slice A0_2 l0_2.length c0_2) ∧ w'.cell? ⟨gb298, 3, none⟩ = some (.slice A0_3 l0_3.length c0_3)) ∧ (Kd.R (Kd.int .i64) 3 w' w.heap.size (fun k_ => some k_ ≠ (s_.2.1 : Value).ownBlock ∧ some k_ ≠ (s_.2.2.2.1 : Value).ownBlock) s_.1 t302) ∧ (Kd.R (Kd.int .i64) 3 w' w.heap.size (fun k_ => some k_ ≠ (s_.1 : Value).ownBlock ∧ some k_ ≠ (s_.2.2.2.1 : Value).ownBlock) s_.2.1 t305) ∧ (Kd.R Kd.bool 4 w' w.heap.size (fun _ => True) s_.2.2.1 t308) ∧ (Kd.R (Kd.int .i64) 3 w' w.heap.size (fun k_ => some k_ ≠ (s_.1 : Value).ownBlock ∧ some k_ ≠ (s_.2.1 : Value).ownBlock) s_.2.2.2.1 t311) ∧ (w'.heap[gb298]? = some (.cells #[.slice A0_0 l0_0.length c0_0, .slice A0_1 l0_1.length c0_1, .slice A0_2 l0_2.length c0_2, .slice A0_3 l0_3.length c0_3] 27 (0, 0))) ∧ (w'.heap[s_.2.2.2.2]? = some (.cells YN4 27 (0, 0))) ∧ (w.heap.size ≤ s_.2.2.2.2) ∧ (w.heap.size ≤ s_.2.2.2.2) ∧ (gb298 ≠ s_.2.2.2.2) ∧ (s_.2.2.2.2 ≠ gb298) ∧ (Below w.heap.size w w')) ?_ ?_
     rotate_left
     ·intro hCont
      refine two_ (i := 6) (j := 11) (Ni := some 24) (Nj := some 3) (YA 14 127) (YA 14 2111) rfl rfl rfl rfl (two_of HT_.out (by kernel_rfl)) (by decide) (by decide) (fun K hK => ?_) (fun K hK => ?_)
      ·skip
       refine goes_ Try.func61 (by kernel_rfl) rfl #[.slice A0_0 l0_0.length c0_0, .slice A0_1 l0_1.length c0_1] (by rfl) rfl rfl Q7 ?_
       with_reducible refine (spec_gcMixedRank.calls kj1 _ _ l0_0 _ _ l0_1 t301 _ ?side1 ?side2 ?side3 ?side4 A10.out).mono ?_
       (case side1 => exact Yc (Z22 HR0_0.out HB.out))
       (case side2 => exact HC0_0.out)
       (case side3 => exact Yc (Z22 HR0_1.out HB.out))
       (case side4 => exact HC0_1.out)
       rintro e w15 ⟨rfl, hb⟩
       refine ⟨_, rfl, ?_⟩
       replace BK298 := Yb BK298 hb
       replace HB := Yh hb
       (try clear hb)
       refine hK.out _ _ (Yz4 BK298.out) (fun hHeld => ?_)
       clear hK K
       refine norm_ (a' := ?_) ?_ ?_
       rotate_left
       ·show Act.put _ (some 24) _ = _
        simp only [Act.put, Z0, Z1, Z2, i64_w, i32_w]
        rfl
       refine two_ (i := 7) (j := 11) (Ni := some 25) (Nj := some 3) (YA 14 255) (YA 14 2175) rfl rfl rfl rfl (two_of HT_.out (by kernel_rfl)) (by decide) (by decide) (fun K hK => ?_) (fun K hK => ?_)
       ·skip
        refine goes_ Try.func60 (by kernel_rfl) rfl #[.slice A0_0 l0_0.length c0_0, .int .i64 t301] (by rfl) rfl rfl Q7 ?_
        with_reducible refine (spec_foAt.calls kj1 _ _ l0_0 t301 t302 t305 t308 t311 true _ ?side1 ?side2 A11.out).mono ?_
        (case side1 => exact Yc (Z22 HR0_0.out HB.out))
        (case side2 => exact HC0_0.out)
        rintro e w16 ⟨v303, v306, v309, v312, rfl, ho0, ho1, ho2, ho3, hb⟩
        refine ⟨_, rfl, ?_⟩
        have HO304 := Yl ho0
        have HO307 := Yl ho1
        have HO310 := Yl ho2
        have HO313 := Yl ho3
        replace BK298 := Yb BK298 hb
        replace HB := Yh hb
        (try clear hb ho0 ho1 ho2 ho3)
        refine hK.out _ _ (Yz4 BK298.out) (fun hHeld => ?_)
        clear hK K
        refine norm_ (a' := ?_) ?_ ?_
        rotate_left
        ·show Act.put _ (some 25) _ = _
         simp only [Act.put, Z0, Z1, Z2, i64_w, i32_w]
         rfl
        refine Yp 8 (some 17) (YA 14 511) rfl HT_.out ?_
        refine Yp 9 (some 26) (YA 14 1023) rfl HT_.out ?_
        refine Yp 10 (some 27) (YA 14 2047) rfl HT_.out ?_
        refine one_ (i := 11) (N := some 3) (YA 14 4095) rfl rfl (one_of HT_.out (by kernel_rfl)) (by decide) (fun K hK => ?_)
        refine Yy 3 YN4 27 ?_
        intro gb315 hg w17 hbox hb
        replace HO304 := Yw HO304 hb
        replace HO307 := Yw HO307 hb
        replace HO310 := Yw HO310 hb
        replace HO313 := Yw HO313 hb
        have BK315 := Ya hbox
        have GW315 := Yg hg
        have GE315 := GW315
        replace HB := Yh hb
        have NB298_315 := Yn BK298 hg
        have NB315_298 := Ym BK298 hg
        replace BK298 := Yb BK298 hb
        clear hb hbox hg
        refine hK.out _ _ (Yz4 BK298.out) (fun hHeld => ?_)
        clear hK K
        refine norm_ (a' := ?_) ?_ ?_
        rotate_left
        ·show Act.put _ (some 3) _ = _
         simp only [Act.put, Z0, Z1, Z2, i64_w, i32_w]
         rfl
        exact norm_ Q30 (hCont (v303, v306, v309, v312, gb315) _ ⟨hHeld, (Yr HO304.out), (Yr HO307.out), (Yr HO310.out), (Yr HO313.out), (Yk BK298.out), (Yk BK315.out), GW315.out, GE315.out, NB298_315.out, NB315_298.out, Q0⟩)
       ·skip
        refine Yy 3 YN4 27 ?_
        intro gb315 hg w16 hbox hb
        have BK315 := Ya hbox
        have GW315 := Yg hg
        have GE315 := GW315
        replace HB := Yh hb
        have NB298_315 := Yn BK298 hg
        have NB315_298 := Ym BK298 hg
        replace BK298 := Yb BK298 hb
        clear hb hbox hg
        refine hK.out _ _ (Yz4 BK298.out) (fun hHeld => ?_)
        clear hK K
        refine norm_ (a' := ?_) ?_ ?_
        rotate_left
        ·show Act.put _ (some 3) _ = _
         simp only [Act.put, Z0, Z1, Z2, i64_w, i32_w]
         rfl
        refine one_ (i := 7) (N := some 25) (YA 14 2303) rfl rfl (one_of HT_.out (by kernel_rfl)) (by decide) (fun K hK => ?_)
        refine goes_ Try.func60 (by kernel_rfl) rfl #[.slice A0_0 l0_0.length c0_0, .int .i64 t301] (by rfl) rfl rfl Q7 ?_
        with_reducible refine (spec_foAt.calls kj1 _ _ l0_0 t301 t302 t305 t308 t311 true _ ?side1 ?side2 A11.out).mono ?_
        (case side1 => exact Yc (Z22 HR0_0.out HB.out))
        (case side2 => exact HC0_0.out)
        rintro e w17 ⟨v303, v306, v309, v312, rfl, ho0, ho1, ho2, ho3, hb⟩
        refine ⟨_, rfl, ?_⟩
        have HO304 := Yl ho0
        have HO307 := Yl ho1
        have HO310 := Yl ho2
        have HO313 := Yl ho3
        replace BK298 := Yb BK298 hb
        replace BK315 := Yb BK315 hb
        replace HB := Yh hb
        (try clear hb ho0 ho1 ho2 ho3)
        refine hK.out _ _ (Yz4 BK298.out) (fun hHeld => ?_)
        clear hK K
        refine norm_ (a' := ?_) ?_ ?_
        rotate_left
        ·show Act.put _ (some 25) _ = _
         simp only [Act.put, Z0, Z1, Z2, i64_w, i32_w]
         rfl
        refine Yp 8 (some 17) (YA 14 2559) rfl HT_.out ?_
        refine Yp 9 (some 26) (YA 14 3071) rfl HT_.out ?_
        refine Yp 10 (some 27) (YA 14 4095) rfl HT_.out ?_
        exact norm_ Q30 (hCont (v303, v306, v309, v312, gb315) _ ⟨hHeld, (Yr HO304.out), (Yr HO307.out), (Yr HO310.out), (Yr HO313.out), (Yk BK298.out), (Yk BK315.out), GW315.out, GE315.out, NB298_315.out, NB315_298.out, Q0⟩)
      ·skip
       refine Yy 3 YN4 27 ?_
       intro gb315 hg w15 hbox hb
       have BK315 := Ya hbox
       have GW315 := Yg hg
       have GE315 := GW315
       replace HB := Yh hb
       have NB298_315 := Yn BK298 hg
       have NB315_298 := Ym BK298 hg
       replace BK298 := Yb BK298 hb
       clear hb hbox hg
       refine hK.out _ _ (Yz4 BK298.out) (fun hHeld => ?_)
       clear hK K
       refine norm_ (a' := ?_) ?_ ?_
       rotate_left
       ·show Act.put _ (some 3) _ = _
        simp only [Act.put, Z0, Z1, Z2, i64_w, i32_w]
        rfl
       refine one_ (i := 6) (N := some 24) (YA 14 2175) rfl rfl (one_of HT_.out (by kernel_rfl)) (by decide) (fun K hK => ?_)
       refine goes_ Try.func61 (by kernel_rfl) rfl #[.slice A0_0 l0_0.length c0_0, .slice A0_1 l0_1.length c0_1] (by rfl) rfl rfl Q7 ?_
       with_reducible refine (spec_gcMixedRank.calls kj1 _ _ l0_0 _ _ l0_1 t301 _ ?side1 ?side2 ?side3 ?side4 A10.out).mono ?_
       (case side1 => exact Yc (Z22 HR0_0.out HB.out))
       (case side2 => exact HC0_0.out)
       (case side3 => exact Yc (Z22 HR0_1.out HB.out))
       (case side4 => exact HC0_1.out)
       rintro e w16 ⟨rfl, hb⟩
       refine ⟨_, rfl, ?_⟩
       replace BK298 := Yb BK298 hb
       replace BK315 := Yb BK315 hb
       replace HB := Yh hb
       (try clear hb)
       refine hK.out _ _ (Yz4 BK298.out) (fun hHeld => ?_)
       clear hK K
       refine norm_ (a' := ?_) ?_ ?_
       rotate_left
       ·show Act.put _ (some 24) _ = _
        simp only [Act.put, Z0, Z1, Z2, i64_w, i32_w]
        rfl
       refine one_ (i := 7) (N := some 25) (YA 14 2303) rfl rfl (one_of HT_.out (by kernel_rfl)) (by decide) (fun K hK => ?_)
       refine goes_ Try.func60 (by kernel_rfl) rfl #[.slice A0_0 l0_0.length c0_0, .int .i64 t301] (by rfl) rfl rfl Q7 ?_
       with_reducible refine (spec_foAt.calls kj1 _ _ l0_0 t301 t302 t305 t308 t311 true _ ?side1 ?side2 A11.out).mono ?_
       (case side1 => exact Yc (Z22 HR0_0.out HB.out))
       (case side2 => exact HC0_0.out)
       rintro e w17 ⟨v303, v306, v309, v312, rfl, ho0, ho1, ho2, ho3, hb⟩
       refine ⟨_, rfl, ?_⟩
       have HO304 := Yl ho0
       have HO307 := Yl ho1
       have HO310 := Yl ho2
       have HO313 := Yl ho3
       replace BK298 := Yb BK298 hb
       replace BK315 := Yb BK315 hb
       replace HB := Yh hb
       (try clear hb ho0 ho1 ho2 ho3)
       refine hK.out _ _ (Yz4 BK298.out) (fun hHeld => ?_)
       clear hK K
       refine norm_ (a' := ?_) ?_ ?_
       rotate_left
       ·show Act.put _ (some 25) _ = _
        simp only [Act.put, Z0, Z1, Z2, i64_w, i32_w]
        rfl
       refine Yp 8 (some 17) (YA 14 2559) rfl HT_.out ?_
       refine Yp 9 (some 26) (YA 14 3071) rfl HT_.out ?_
       refine Yp 10 (some 27) (YA 14 4095) rfl HT_.out ?_
       exact norm_ Q30 (hCont (v303, v306, v309, v312, gb315) _ ⟨hHeld, (Yr HO304.out), (Yr HO307.out), (Yr HO310.out), (Yr HO313.out), (Yk BK298.out), (Yk BK315.out), GW315.out, GE315.out, NB298_315.out, NB315_298.out, Q0⟩)
     rintro ⟨v303, v306, v309, v312, gb315⟩ w18 ⟨hS_, h0_, h1_, h2_, h3_, h4_, h5_, h6_, h7_, h8_, h9_, h10_⟩
     have HO304 : Aside0 (Kd.R (Kd.int .i64) 3 w18 w.heap.size (fun k_ => some k_ ≠ (v306 : Value).ownBlock ∧ some k_ ≠ (v312 : Value).ownBlock) v303 t302) := ⟨h0_⟩
     have HO307 : Aside0 (Kd.R (Kd.int .i64) 3 w18 w.heap.size (fun k_ => some k_ ≠ (v303 : Value).ownBlock ∧ some k_ ≠ (v312 : Value).ownBlock) v306 t305) := ⟨h1_⟩
     have HO310 : Aside0 (Kd.R Kd.bool 4 w18 w.heap.size (fun _ => True) v309 t308) := ⟨h2_⟩
     have HO313 : Aside0 (Kd.R (Kd.int .i64) 3 w18 w.heap.size (fun k_ => some k_ ≠ (v303 : Value).ownBlock ∧ some k_ ≠ (v306 : Value).ownBlock) v312 t311) := ⟨h3_⟩
     replace BK298 : Aside0 (w18.heap[gb298]? = some (.cells #[.slice A0_0 l0_0.length c0_0, .slice A0_1 l0_1.length c0_1, .slice A0_2 l0_2.length c0_2, .slice A0_3 l0_3.length c0_3] 27 (0, 0))) := ⟨h4_⟩
     have BK315 : Aside0 (w18.heap[gb315]? = some (.cells YN4 27 (0, 0))) := ⟨h5_⟩
     have GW315 : Aside0 (w.heap.size ≤ gb315) := ⟨h6_⟩
     have GE315 : Aside0 (w.heap.size ≤ gb315) := ⟨h7_⟩
     have NB298_315 : Aside0 (gb298 ≠ gb315) := ⟨h8_⟩
     have NB315_298 : Aside0 (gb315 ≠ gb298) := ⟨h9_⟩
     replace HB : Aside0 (Below w.heap.size w w18) := ⟨h10_⟩
     clear h0_ h1_ h2_ h3_ h4_ h5_ h6_ h7_ h8_ h9_ h10_
     have hHeld : w18.cell? ⟨gb298, 0, none⟩ = some (.slice A0_0 l0_0.length c0_0) ∧ w18.cell? ⟨gb298, 1, none⟩ = some (.slice A0_1 l0_1.length c0_1) ∧ w18.cell? ⟨gb298, 2, none⟩ = some (.slice A0_2 l0_2.length c0_2) ∧ w18.cell? ⟨gb298, 3, none⟩ = some (.slice A0_3 l0_3.length c0_3) := hS_
     obtain ⟨Ao19, co19, eo19⟩ := Z19 HO304.out
     (first | subst eo19 | (injection eo19 with f1_ f2_ f3_; have f4_ := f1_.symm; have f5_ := f3_.symm; clear f1_ f2_ f3_; subst f4_; subst f5_))
     obtain ⟨Ao21, co21, eo21⟩ := Z19 HO307.out
     (first | subst eo21 | (injection eo21 with f1_ f2_ f3_; have f4_ := f1_.symm; have f5_ := f3_.symm; clear f1_ f2_ f3_; subst f4_; subst f5_))
     obtain ⟨Ao23, co23, eo23⟩ := Z19 HO310.out
     (first | subst eo23 | (injection eo23 with f1_ f2_ f3_; have f4_ := f1_.symm; have f5_ := f3_.symm; clear f1_ f2_ f3_; subst f4_; subst f5_))
     obtain ⟨Ao25, co25, eo25⟩ := Z19 HO313.out
     (first | subst eo25 | (injection eo25 with f1_ f2_ f3_; have f4_ := f1_.symm; have f5_ := f3_.symm; clear f1_ f2_ f3_; subst f4_; subst f5_))
     refine norm_ (a' := ?_) ?_ ?_
     rotate_left
     ·simp only [putAll, Act.put, Z0, Z1, Z2]
      rfl
     refine one_ (i := 12) (N := none) (YA 14 8191) rfl rfl (one_of HT_.out (by kernel_rfl)) (by decide) (fun K hK => ?_)
     have hs20 : w18.cell? ⟨gb315, 0, none⟩ = some (.slice none 0 0) := (Z23 BK315.out 0).trans rfl
     have hfs20 := Z24 BK315.out 0
     have hns20_0 := NB298_315.out
     have hms20_0 := NB315_298.out
     have hs22 : w18.cell? ⟨gb315, 1, none⟩ = some (.slice none 0 0) := (Z23 BK315.out 1).trans rfl
     have hfs22 := Z24 BK315.out 1
     have hns22_0 := NB298_315.out
     have hms22_0 := NB315_298.out
     have hs24 : w18.cell? ⟨gb315, 2, none⟩ = some (.slice none 0 0) := (Z23 BK315.out 2).trans rfl
     have hfs24 := Z24 BK315.out 2
     have hns24_0 := NB298_315.out
     have hms24_0 := NB315_298.out
     have hs26 : w18.cell? ⟨gb315, 3, none⟩ = some (.slice none 0 0) := (Z23 BK315.out 3).trans rfl
     have hfs26 := Z24 BK315.out 3
     have hns26_0 := NB298_315.out
     have hms26_0 := NB315_298.out
     refine skip_ (w1 := ?_) (by rfl) rfl ?_ ?_
     rotate_left
     ·go_simp
      rfl
     refine hK.out _ _ ⟨((cell_far (p := ⟨gb315, _, none⟩) NB298_315.out _).trans (((cell_far (p := ⟨gb315, _, none⟩) NB298_315.out _).trans (((cell_far (p := ⟨gb315, _, none⟩) NB298_315.out _).trans (((cell_far (p := ⟨gb315, _, none⟩) NB298_315.out _).trans (hHeld.1)))))))), ((cell_far (p := ⟨gb315, _, none⟩) NB298_315.out _).trans (((cell_far (p := ⟨gb315, _, none⟩) NB298_315.out _).trans (((cell_far (p := ⟨gb315, _, none⟩) NB298_315.out _).trans (((cell_far (p := ⟨gb315, _, none⟩) NB298_315.out _).trans (hHeld.2.1)))))))), ((cell_far (p := ⟨gb315, _, none⟩) NB298_315.out _).trans (((cell_far (p := ⟨gb315, _, none⟩) NB298_315.out _).trans (((cell_far (p := ⟨gb315, _, none⟩) NB298_315.out _).trans (((cell_far (p := ⟨gb315, _, none⟩) NB298_315.out _).trans (hHeld.2.2.1)))))))), ((cell_far (p := ⟨gb315, _, none⟩) NB298_315.out _).trans (((cell_far (p := ⟨gb315, _, none⟩) NB298_315.out _).trans (((cell_far (p := ⟨gb315, _, none⟩) NB298_315.out _).trans (((cell_far (p := ⟨gb315, _, none⟩) NB298_315.out _).trans (hHeld.2.2.2))))))))⟩ (fun hHeld => ?_)
     clear hK K
     refine Yp 13 (some 4) (YA 14 16383) rfl HT_.out ?_
     refine done_ (done_of HT_.out (by kernel_rfl)) ?_
     have hnb27 := NB298_315.out
     have hnc27 := NB315_298.out
     have hz28 := Y4 BK298.out
     have hz29 := Y4 BK315.out
     try go_wp2_with (first | (go_at_call 62; (with_reducible refine (spec_foSame.calls kj1 _ _ l0_0 _ _ l0_1 _ _ l0_2 _ _ l0_3 _ _ t302 _ _ t305 _ _ t308 _ _ t311 t316 _ ?side1 HC0_0.out ?side3 HC0_1.out ?side5 HC0_2.out ?side7 HC0_3.out ?side9 ((Kd.R_reads' HO304.out).2.1) ?side11 ((Kd.R_reads' HO307.out).2.1) ?side13 ((Kd.R_reads' HO310.out).2.1) ?side15 ((Kd.R_reads' HO313.out).2.1) A13.out).mono ?_); (case side1 => exact Z22 HR0_0.out Q0); (case side3 => exact Z22 HR0_1.out Q0); (case side5 => exact Z22 HR0_2.out Q0); (case side7 => exact Z22 HR0_3.out Q0); (case side9 => refine (Kd.R_reads' (e := 3) (base := w.heap.size) (ok := fun k_ => (some k_ ≠ (.slice Ao21 t305.length co21 : Value).ownBlock ∧ some k_ ≠ (.slice Ao25 t311.length co25 : Value).ownBlock)) (n := t302.length) (c := co19) ?_).2.2; exact (Yj (Yf4 HO304.out BK315.out) (fun _ h_ => h_.1))); (case side11 => refine (Kd.R_reads' (e := 3) (base := w.heap.size) (ok := fun k_ => (some k_ ≠ (.slice Ao19 t302.length co19 : Value).ownBlock ∧ some k_ ≠ (.slice Ao25 t311.length co25 : Value).ownBlock)) (n := t305.length) (c := co21) ?_).2.2; exact (Yj (Yf4 HO307.out BK315.out) (fun _ h_ => h_.1))); (case side13 => refine (Kd.R_reads' (e := 4) (base := w.heap.size) (ok := fun k_ => True) (n := t308.length) (c := co23) ?_).2.2; exact (Yj (Yf4 HO310.out BK315.out) (fun _ h_ => h_.1))); (case side15 => refine (Kd.R_reads' (e := 3) (base := w.heap.size) (ok := fun k_ => (some k_ ≠ (.slice Ao19 t302.length co19 : Value).ownBlock ∧ some k_ ≠ (.slice Ao21 t305.length co21 : Value).ownBlock)) (n := t311.length) (c := co25) ?_).2.2; exact (Yj (Yf4 HO313.out BK315.out) (fun _ h_ => h_.1))); rintro e w30 ⟨rfl, hb⟩; replace HO304 := Ya (Z14 (Yj (Yf4 HO304.out BK315.out) (fun _ h_ => h_.1)) hb); replace HO307 := Ya (Z14 (Yj (Yf4 HO307.out BK315.out) (fun _ h_ => h_.1)) hb); replace HO310 := Ya (Z14 (Yj (Yf4 HO310.out BK315.out) (fun _ h_ => h_.1)) hb); replace HO313 := Ya (Z14 (Yj (Yf4 HO313.out BK315.out) (fun _ h_ => h_.1)) hb); replace BK298 := Yb ⟨Yo4 BK298.out NB298_315.out⟩ hb; replace BK315 := Yb ⟨Yv4 BK315.out⟩ hb; replace HB := Yh hb; (try clear hb)))
     go_ret
     exact ⟨Q2, Q12⟩
    ·replace c12 := Bool.eq_false_iff.mpr c12
     subst c12
     have H1 : (some false) = some r := by rw [if_neg (show ¬ (false = true) by decide)] at H; exact H
     clear H
     have H := H1
     clear H1
     obtain rfl := Option.some.inj H
     try go_wp2
     replace BK298 := Ya (Z26 BK298.out)
     replace HB := Ya (Z4 HB.out)
     refine start_ (n := 14) (S := fun w' => w'.cell? ⟨gb298, 0, none⟩ = some (.slice A0_0 l0_0.length c0_0) ∧ w'.cell? ⟨gb298, 1, none⟩ = some (.slice A0_1 l0_1.length c0_1) ∧ w'.cell? ⟨gb298, 2, none⟩ = some (.slice A0_2 l0_2.length c0_2) ∧ w'.cell? ⟨gb298, 3, none⟩ = some (.slice A0_3 l0_3.length c0_3)) (ds := []) (YA 14 0) (by kernel_rfl) rfl rfl (Yz4 BK298.out) (fun hHeld => ?_); refine with_tabW spec_foGood.tab3 spec_foGood.bits3 (fun HT_ HW_ => ?_)
     generalize wc.drew = w31 at BK298 HB hHeld ⊢
     refine Yp 0 (some 18) (YA 14 1) rfl HT_.out ?_
     refine Yp 2 (some 20) (YA 14 5) rfl HT_.out ?_
     refine Yp 4 (some 22) (YA 14 21) rfl HT_.out ?_
     refine Yt 1 (some 19) (YA 14 23) rfl HT_.out HW_.out hHeld Q3 ?_
     refine Yt 3 (some 21) (YA 14 31) rfl HT_.out HW_.out hHeld Q3 ?_
     refine Yt 5 (some 23) (YA 14 63) rfl HT_.out HW_.out hHeld Q3 ?_
     refine join_ (σ := Value × Value × Value × Value × Nat) 2 (YA 14 4095) (fun s_ => [(24, .int .i64 t301), (25, .tuple #[.agg #[s_.1, s_.2.1, s_.2.2.1, s_.2.2.2.1], .bool false]), (3, .pointer (some ⟨s_.2.2.2.2, 0, none⟩)), (17, .tuple #[.agg #[s_.1, s_.2.1, s_.2.2.1, s_.2.2.2.1], .bool false]), (26, .agg #[s_.1, s_.2.1, s_.2.2.1, s_.2.2.2.1]), (27, .bool false)]) (fun s_ w' => (w'.cell? ⟨gb298, 0, none⟩ = some (.slice A0_0 l0_0.length c0_0) ∧ w'.cell? ⟨gb298, 1, none⟩ = some (.slice A0_1 l0_1.length c0_1) ∧ w'.cell? ⟨gb298, 2, none⟩ = some (.slice A0_2 l0_2.length c0_2) ∧ w'.cell? ⟨gb298, 3, none⟩ = some (.slice A0_3 l0_3.length c0_3)) ∧ (Kd.R (Kd.int .i64) 3 w' w.heap.size (fun k_ => some k_ ≠ (s_.2.1 : Value).ownBlock ∧ some k_ ≠ (s_.2.2.2.1 : Value).ownBlock) s_.1 t302) ∧ (Kd.R (Kd.int .i64) 3 w' w.heap.size (fun k_ => some k_ ≠ (s_.1 : Value).ownBlock ∧ some k_ ≠ (s_.2.2.2.1 : Value).ownBlock) s_.2.1 t305) ∧ (Kd.R Kd.bool 4 w' w.heap.size (fun _ => True) s_.2.2.1 t308) ∧ (Kd.R (Kd.int .i64) 3 w' w.heap.size (fun k_ => some k_ ≠ (s_.1 : Value).ownBlock ∧ some k_ ≠ (s_.2.1 : Value).ownBlock) s_.2.2.2.1 t311) ∧ (w'.heap[gb298]? = some (.cells #[.slice A0_0 l0_0.length c0_0, .slice A0_1 l0_1.length c0_1, .slice A0_2 l0_2.length c0_2, .slice A0_3 l0_3.length c0_3] 27 (0, 0))) ∧ (w'.heap[s_.2.2.2.2]? = some (.cells YN4 27 (0, 0))) ∧ (w.heap.size ≤ s_.2.2.2.2) ∧ (w.heap.size ≤ s_.2.2.2.2) ∧ (gb298 ≠ s_.2.2.2.2) ∧ (s_.2.2.2.2 ≠ gb298) ∧ (Below w.heap.size w w')) ?_ ?_
     rotate_left
     ·intro hCont
      refine two_ (i := 6) (j := 11) (Ni := some 24) (Nj := some 3) (YA 14 127) (YA 14 2111) rfl rfl rfl rfl (two_of HT_.out (by kernel_rfl)) (by decide) (by decide) (fun K hK => ?_) (fun K hK => ?_)
      ·skip
       refine goes_ Try.func61 (by kernel_rfl) rfl #[.slice A0_0 l0_0.length c0_0, .slice A0_1 l0_1.length c0_1] (by rfl) rfl rfl Q7 ?_
       with_reducible refine (spec_gcMixedRank.calls kj1 _ _ l0_0 _ _ l0_1 t301 _ ?side1 ?side2 ?side3 ?side4 A10.out).mono ?_
       (case side1 => exact Yc (Z22 HR0_0.out HB.out))
       (case side2 => exact HC0_0.out)
       (case side3 => exact Yc (Z22 HR0_1.out HB.out))
       (case side4 => exact HC0_1.out)
       rintro e w32 ⟨rfl, hb⟩
       refine ⟨_, rfl, ?_⟩
       replace BK298 := Yb BK298 hb
       replace HB := Yh hb
       (try clear hb)
       refine hK.out _ _ (Yz4 BK298.out) (fun hHeld => ?_)
       clear hK K
       refine norm_ (a' := ?_) ?_ ?_
       rotate_left
       ·show Act.put _ (some 24) _ = _
        simp only [Act.put, Z0, Z1, Z2, i64_w, i32_w]
        rfl
       refine two_ (i := 7) (j := 11) (Ni := some 25) (Nj := some 3) (YA 14 255) (YA 14 2175) rfl rfl rfl rfl (two_of HT_.out (by kernel_rfl)) (by decide) (by decide) (fun K hK => ?_) (fun K hK => ?_)
       ·skip
        refine goes_ Try.func60 (by kernel_rfl) rfl #[.slice A0_0 l0_0.length c0_0, .int .i64 t301] (by rfl) rfl rfl Q7 ?_
        with_reducible refine (spec_foAt.calls kj1 _ _ l0_0 t301 t302 t305 t308 t311 false _ ?side1 ?side2 A11.out).mono ?_
        (case side1 => exact Yc (Z22 HR0_0.out HB.out))
        (case side2 => exact HC0_0.out)
        rintro e w33 ⟨v303, v306, v309, v312, rfl, ho0, ho1, ho2, ho3, hb⟩
        refine ⟨_, rfl, ?_⟩
        have HO304 := Yl ho0
        have HO307 := Yl ho1
        have HO310 := Yl ho2
        have HO313 := Yl ho3
        replace BK298 := Yb BK298 hb
        replace HB := Yh hb
        (try clear hb ho0 ho1 ho2 ho3)
        refine hK.out _ _ (Yz4 BK298.out) (fun hHeld => ?_)
        clear hK K
        refine norm_ (a' := ?_) ?_ ?_
        rotate_left
        ·show Act.put _ (some 25) _ = _
         simp only [Act.put, Z0, Z1, Z2, i64_w, i32_w]
         rfl
        refine Yp 8 (some 17) (YA 14 511) rfl HT_.out ?_
        refine Yp 9 (some 26) (YA 14 1023) rfl HT_.out ?_
        refine Yp 10 (some 27) (YA 14 2047) rfl HT_.out ?_
        refine one_ (i := 11) (N := some 3) (YA 14 4095) rfl rfl (one_of HT_.out (by kernel_rfl)) (by decide) (fun K hK => ?_)
        refine Yy 3 YN4 27 ?_
        intro gb315 hg w34 hbox hb
        replace HO304 := Yw HO304 hb
        replace HO307 := Yw HO307 hb
        replace HO310 := Yw HO310 hb
        replace HO313 := Yw HO313 hb
        have BK315 := Ya hbox
        have GW315 := Yg hg
        have GE315 := GW315
        replace HB := Yh hb
        have NB298_315 := Yn BK298 hg
        have NB315_298 := Ym BK298 hg
        replace BK298 := Yb BK298 hb
        clear hb hbox hg
        refine hK.out _ _ (Yz4 BK298.out) (fun hHeld => ?_)
        clear hK K
        refine norm_ (a' := ?_) ?_ ?_
        rotate_left
        ·show Act.put _ (some 3) _ = _
         simp only [Act.put, Z0, Z1, Z2, i64_w, i32_w]
         rfl
        exact norm_ Q30 (hCont (v303, v306, v309, v312, gb315) _ ⟨hHeld, (Yr HO304.out), (Yr HO307.out), (Yr HO310.out), (Yr HO313.out), (Yk BK298.out), (Yk BK315.out), GW315.out, GE315.out, NB298_315.out, NB315_298.out, Q0⟩)
       ·skip
        refine Yy 3 YN4 27 ?_
        intro gb315 hg w33 hbox hb
        have BK315 := Ya hbox
        have GW315 := Yg hg
        have GE315 := GW315
        replace HB := Yh hb
        have NB298_315 := Yn BK298 hg
        have NB315_298 := Ym BK298 hg
        replace BK298 := Yb BK298 hb
        clear hb hbox hg
        refine hK.out _ _ (Yz4 BK298.out) (fun hHeld => ?_)
        clear hK K
        refine norm_ (a' := ?_) ?_ ?_
        rotate_left
        ·show Act.put _ (some 3) _ = _
         simp only [Act.put, Z0, Z1, Z2, i64_w, i32_w]
         rfl
        refine one_ (i := 7) (N := some 25) (YA 14 2303) rfl rfl (one_of HT_.out (by kernel_rfl)) (by decide) (fun K hK => ?_)
        refine goes_ Try.func60 (by kernel_rfl) rfl #[.slice A0_0 l0_0.length c0_0, .int .i64 t301] (by rfl) rfl rfl Q7 ?_
        with_reducible refine (spec_foAt.calls kj1 _ _ l0_0 t301 t302 t305 t308 t311 false _ ?side1 ?side2 A11.out).mono ?_
        (case side1 => exact Yc (Z22 HR0_0.out HB.out))
        (case side2 => exact HC0_0.out)
        rintro e w34 ⟨v303, v306, v309, v312, rfl, ho0, ho1, ho2, ho3, hb⟩
        refine ⟨_, rfl, ?_⟩
        have HO304 := Yl ho0
        have HO307 := Yl ho1
        have HO310 := Yl ho2
        have HO313 := Yl ho3
        replace BK298 := Yb BK298 hb
        replace BK315 := Yb BK315 hb
        replace HB := Yh hb
        (try clear hb ho0 ho1 ho2 ho3)
        refine hK.out _ _ (Yz4 BK298.out) (fun hHeld => ?_)
        clear hK K
        refine norm_ (a' := ?_) ?_ ?_
        rotate_left
        ·show Act.put _ (some 25) _ = _
         simp only [Act.put, Z0, Z1, Z2, i64_w, i32_w]
         rfl
        refine Yp 8 (some 17) (YA 14 2559) rfl HT_.out ?_
        refine Yp 9 (some 26) (YA 14 3071) rfl HT_.out ?_
        refine Yp 10 (some 27) (YA 14 4095) rfl HT_.out ?_
        exact norm_ Q30 (hCont (v303, v306, v309, v312, gb315) _ ⟨hHeld, (Yr HO304.out), (Yr HO307.out), (Yr HO310.out), (Yr HO313.out), (Yk BK298.out), (Yk BK315.out), GW315.out, GE315.out, NB298_315.out, NB315_298.out, Q0⟩)
      ·skip
       refine Yy 3 YN4 27 ?_
       intro gb315 hg w32 hbox hb
       have BK315 := Ya hbox
       have GW315 := Yg hg
       have GE315 := GW315
       replace HB := Yh hb
       have NB298_315 := Yn BK298 hg
       have NB315_298 := Ym BK298 hg
       replace BK298 := Yb BK298 hb
       clear hb hbox hg
       refine hK.out _ _ (Yz4 BK298.out) (fun hHeld => ?_)
       clear hK K
       refine norm_ (a' := ?_) ?_ ?_
       rotate_left
       ·show Act.put _ (some 3) _ = _
        simp only [Act.put, Z0, Z1, Z2, i64_w, i32_w]
        rfl
       refine one_ (i := 6) (N := some 24) (YA 14 2175) rfl rfl (one_of HT_.out (by kernel_rfl)) (by decide) (fun K hK => ?_)
       refine goes_ Try.func61 (by kernel_rfl) rfl #[.slice A0_0 l0_0.length c0_0, .slice A0_1 l0_1.length c0_1] (by rfl) rfl rfl Q7 ?_
       with_reducible refine (spec_gcMixedRank.calls kj1 _ _ l0_0 _ _ l0_1 t301 _ ?side1 ?side2 ?side3 ?side4 A10.out).mono ?_
       (case side1 => exact Yc (Z22 HR0_0.out HB.out))
       (case side2 => exact HC0_0.out)
       (case side3 => exact Yc (Z22 HR0_1.out HB.out))
       (case side4 => exact HC0_1.out)
       rintro e w33 ⟨rfl, hb⟩
       refine ⟨_, rfl, ?_⟩
       replace BK298 := Yb BK298 hb
       replace BK315 := Yb BK315 hb
       replace HB := Yh hb
       (try clear hb)
       refine hK.out _ _ (Yz4 BK298.out) (fun hHeld => ?_)
       clear hK K
       refine norm_ (a' := ?_) ?_ ?_
       rotate_left
       ·show Act.put _ (some 24) _ = _
        simp only [Act.put, Z0, Z1, Z2, i64_w, i32_w]
        rfl
       refine one_ (i := 7) (N := some 25) (YA 14 2303) rfl rfl (one_of HT_.out (by kernel_rfl)) (by decide) (fun K hK => ?_)
       refine goes_ Try.func60 (by kernel_rfl) rfl #[.slice A0_0 l0_0.length c0_0, .int .i64 t301] (by rfl) rfl rfl Q7 ?_
       with_reducible refine (spec_foAt.calls kj1 _ _ l0_0 t301 t302 t305 t308 t311 false _ ?side1 ?side2 A11.out).mono ?_
       (case side1 => exact Yc (Z22 HR0_0.out HB.out))
       (case side2 => exact HC0_0.out)
       rintro e w34 ⟨v303, v306, v309, v312, rfl, ho0, ho1, ho2, ho3, hb⟩
       refine ⟨_, rfl, ?_⟩
       have HO304 := Yl ho0
       have HO307 := Yl ho1
       have HO310 := Yl ho2
       have HO313 := Yl ho3
       replace BK298 := Yb BK298 hb
       replace BK315 := Yb BK315 hb
       replace HB := Yh hb
       (try clear hb ho0 ho1 ho2 ho3)
       refine hK.out _ _ (Yz4 BK298.out) (fun hHeld => ?_)
       clear hK K
       refine norm_ (a' := ?_) ?_ ?_
       rotate_left
       ·show Act.put _ (some 25) _ = _
        simp only [Act.put, Z0, Z1, Z2, i64_w, i32_w]
        rfl
       refine Yp 8 (some 17) (YA 14 2559) rfl HT_.out ?_
       refine Yp 9 (some 26) (YA 14 3071) rfl HT_.out ?_
       refine Yp 10 (some 27) (YA 14 4095) rfl HT_.out ?_
       exact norm_ Q30 (hCont (v303, v306, v309, v312, gb315) _ ⟨hHeld, (Yr HO304.out), (Yr HO307.out), (Yr HO310.out), (Yr HO313.out), (Yk BK298.out), (Yk BK315.out), GW315.out, GE315.out, NB298_315.out, NB315_298.out, Q0⟩)
     rintro ⟨v303, v306, v309, v312, gb315⟩ w35 ⟨hS_, h0_, h1_, h2_, h3_, h4_, h5_, h6_, h7_, h8_, h9_, h10_⟩
     have HO304 : Aside0 (Kd.R (Kd.int .i64) 3 w35 w.heap.size (fun k_ => some k_ ≠ (v306 : Value).ownBlock ∧ some k_ ≠ (v312 : Value).ownBlock) v303 t302) := ⟨h0_⟩
     have HO307 : Aside0 (Kd.R (Kd.int .i64) 3 w35 w.heap.size (fun k_ => some k_ ≠ (v303 : Value).ownBlock ∧ some k_ ≠ (v312 : Value).ownBlock) v306 t305) := ⟨h1_⟩
     have HO310 : Aside0 (Kd.R Kd.bool 4 w35 w.heap.size (fun _ => True) v309 t308) := ⟨h2_⟩
     have HO313 : Aside0 (Kd.R (Kd.int .i64) 3 w35 w.heap.size (fun k_ => some k_ ≠ (v303 : Value).ownBlock ∧ some k_ ≠ (v306 : Value).ownBlock) v312 t311) := ⟨h3_⟩
     replace BK298 : Aside0 (w35.heap[gb298]? = some (.cells #[.slice A0_0 l0_0.length c0_0, .slice A0_1 l0_1.length c0_1, .slice A0_2 l0_2.length c0_2, .slice A0_3 l0_3.length c0_3] 27 (0, 0))) := ⟨h4_⟩
     have BK315 : Aside0 (w35.heap[gb315]? = some (.cells YN4 27 (0, 0))) := ⟨h5_⟩
     have GW315 : Aside0 (w.heap.size ≤ gb315) := ⟨h6_⟩
     have GE315 : Aside0 (w.heap.size ≤ gb315) := ⟨h7_⟩
     have NB298_315 : Aside0 (gb298 ≠ gb315) := ⟨h8_⟩
     have NB315_298 : Aside0 (gb315 ≠ gb298) := ⟨h9_⟩
     replace HB : Aside0 (Below w.heap.size w w35) := ⟨h10_⟩
     clear h0_ h1_ h2_ h3_ h4_ h5_ h6_ h7_ h8_ h9_ h10_
     have hHeld : w35.cell? ⟨gb298, 0, none⟩ = some (.slice A0_0 l0_0.length c0_0) ∧ w35.cell? ⟨gb298, 1, none⟩ = some (.slice A0_1 l0_1.length c0_1) ∧ w35.cell? ⟨gb298, 2, none⟩ = some (.slice A0_2 l0_2.length c0_2) ∧ w35.cell? ⟨gb298, 3, none⟩ = some (.slice A0_3 l0_3.length c0_3) := hS_
     obtain ⟨Ao36, co36, eo36⟩ := Z19 HO304.out
     (first | subst eo36 | (injection eo36 with f1_ f2_ f3_; have f4_ := f1_.symm; have f5_ := f3_.symm; clear f1_ f2_ f3_; subst f4_; subst f5_))
     obtain ⟨Ao38, co38, eo38⟩ := Z19 HO307.out
     (first | subst eo38 | (injection eo38 with f1_ f2_ f3_; have f4_ := f1_.symm; have f5_ := f3_.symm; clear f1_ f2_ f3_; subst f4_; subst f5_))
     obtain ⟨Ao40, co40, eo40⟩ := Z19 HO310.out
     (first | subst eo40 | (injection eo40 with f1_ f2_ f3_; have f4_ := f1_.symm; have f5_ := f3_.symm; clear f1_ f2_ f3_; subst f4_; subst f5_))
     obtain ⟨Ao42, co42, eo42⟩ := Z19 HO313.out
     (first | subst eo42 | (injection eo42 with f1_ f2_ f3_; have f4_ := f1_.symm; have f5_ := f3_.symm; clear f1_ f2_ f3_; subst f4_; subst f5_))
     refine norm_ (a' := ?_) ?_ ?_
     rotate_left
     ·simp only [putAll, Act.put, Z0, Z1, Z2]
      rfl
     refine one_ (i := 12) (N := none) (YA 14 8191) rfl rfl (one_of HT_.out (by kernel_rfl)) (by decide) (fun K hK => ?_)
     have hs37 : w35.cell? ⟨gb315, 0, none⟩ = some (.slice none 0 0) := (Z23 BK315.out 0).trans rfl
     have hfs37 := Z24 BK315.out 0
     have hns37_0 := NB298_315.out
     have hms37_0 := NB315_298.out
     have hs39 : w35.cell? ⟨gb315, 1, none⟩ = some (.slice none 0 0) := (Z23 BK315.out 1).trans rfl
     have hfs39 := Z24 BK315.out 1
     have hns39_0 := NB298_315.out
     have hms39_0 := NB315_298.out
     have hs41 : w35.cell? ⟨gb315, 2, none⟩ = some (.slice none 0 0) := (Z23 BK315.out 2).trans rfl
     have hfs41 := Z24 BK315.out 2
     have hns41_0 := NB298_315.out
     have hms41_0 := NB315_298.out
     have hs43 : w35.cell? ⟨gb315, 3, none⟩ = some (.slice none 0 0) := (Z23 BK315.out 3).trans rfl
     have hfs43 := Z24 BK315.out 3
     have hns43_0 := NB298_315.out
     have hms43_0 := NB315_298.out
     refine skip_ (w1 := ?_) (by rfl) rfl ?_ ?_
     rotate_left
     ·go_simp
      rfl
     refine hK.out _ _ ⟨((cell_far (p := ⟨gb315, _, none⟩) NB298_315.out _).trans (((cell_far (p := ⟨gb315, _, none⟩) NB298_315.out _).trans (((cell_far (p := ⟨gb315, _, none⟩) NB298_315.out _).trans (((cell_far (p := ⟨gb315, _, none⟩) NB298_315.out _).trans (hHeld.1)))))))), ((cell_far (p := ⟨gb315, _, none⟩) NB298_315.out _).trans (((cell_far (p := ⟨gb315, _, none⟩) NB298_315.out _).trans (((cell_far (p := ⟨gb315, _, none⟩) NB298_315.out _).trans (((cell_far (p := ⟨gb315, _, none⟩) NB298_315.out _).trans (hHeld.2.1)))))))), ((cell_far (p := ⟨gb315, _, none⟩) NB298_315.out _).trans (((cell_far (p := ⟨gb315, _, none⟩) NB298_315.out _).trans (((cell_far (p := ⟨gb315, _, none⟩) NB298_315.out _).trans (((cell_far (p := ⟨gb315, _, none⟩) NB298_315.out _).trans (hHeld.2.2.1)))))))), ((cell_far (p := ⟨gb315, _, none⟩) NB298_315.out _).trans (((cell_far (p := ⟨gb315, _, none⟩) NB298_315.out _).trans (((cell_far (p := ⟨gb315, _, none⟩) NB298_315.out _).trans (((cell_far (p := ⟨gb315, _, none⟩) NB298_315.out _).trans (hHeld.2.2.2))))))))⟩ (fun hHeld => ?_)
     clear hK K
     refine Yp 13 (some 4) (YA 14 16383) rfl HT_.out ?_
     refine done_ (done_of HT_.out (by kernel_rfl)) ?_
     try go_wp2
     go_ret
     exact ⟨Q2, Q12⟩
end Go.Proofs.Ytpfakdhfffehaaa.MFnExactStepSwapper
