import Derived.Test.YtpfakdhfffehaaaMFnExactSwapperRankx0
import Derived.Test.YtpfakdhfffehaaaMFnExactSwapperRankx2
import Derived.Test.YtpfakdhfffehaaaMFnExactSwapperRankx3
namespace Go.Proofs.Ytpfakdhfffehaaa.MFnExactSwapperRank
open Go.RowKit Go.Proofs.YtpfakdhfffehaaaW.PrintWords Go.Proofs.YtpfakdhfffehaaaW.PrintLast Go.Proofs.YtpfakdhfffehaaaW.PrintMore
attribute [local go_sem] max2_int min2_int max_two min_two max_three min_three max_four min_four   
set_option linter.unusedVariables false
set_option linter.unusedSimpArgs false
def spec_foAt.l0 : Nat → Int → List Int → List Int → List Bool → List Int → Option (List Int × List Int × List Bool × List Int × Bool)
 | 0, _, _, _, _, _ => none
 | k + 1, x1, x235000, x235001, x235002, x235003 => if x1 > 0 then ((spec_foStep.f x235000 x235001 x235002 x235003).bind fun bt235 => (if bt235.2.2.2.2 < 0 then (some (([] : List Int), ([] : List Int), ([] : List Bool), ([] : List Int), false)) else (spec_foAt.l0 k (wrap64 (x1 - 1)) bt235.1 bt235.2.1 bt235.2.2.1 bt235.2.2.2.1))) else (some (x235000, x235001, x235002, x235003, true))
def spec_foAt.f (k : Nat) (l0 : List Int) (a1 : Int) : Option (List Int × List Int × List Bool × List Int × Bool) := (spec_foStart.f k l0).bind fun bt222 => (spec_foAt.l0 k a1 bt222.1 bt222.2.1 bt222.2.2.1 bt222.2.2.2)
theorem spec_foAt.mono_l : ∀ k, (∀ y0 y1 y2 y3 y4, LeO (spec_foAt.l0 k y0 y1 y2 y3 y4) (spec_foAt.l0 (k + 1) y0 y1 y2 y3 y4))
 | 0 => fun _ _ _ _ _ r h => by simp [spec_foAt.l0] at h
 | k + 1 => by
  have ih0 := spec_foAt.mono_l k
  ·intro y0 y1 y2 y3 y4
   unfold spec_foAt.l0
   repeat' first
   | (with_reducible exact ih0 _ _ _ _ _)
   | (with_reducible exact spec_foStart.mono _ _)
   | (with_reducible exact LeO.refl _)
   | (with_reducible exact LeO.none _)
   | (with_reducible refine LeO.ite ?_ ?_)
   | (with_reducible refine LeO.bind ?_ (fun _ => ?_))
   | exact ih0 _ _ _ _ _
   | exact spec_foStart.mono _ _
   | exact LeO.none _
   | refine LeO.ite ?_ ?_
   | refine LeO.bind ?_ (fun _ => ?_)
theorem spec_foAt.mono : ∀ a0 a1 k, LeO (spec_foAt.f k a0 a1) (spec_foAt.f (k + 1) a0 a1) := by
 intro a0 a1 k
 have ih0 := spec_foAt.mono_l k
 unfold spec_foAt.f
 repeat' first
   | (with_reducible exact ih0 _ _ _ _ _)
   | (with_reducible exact spec_foStart.mono _ _)
   | (with_reducible exact LeO.refl _)
   | (with_reducible exact LeO.none _)
   | (with_reducible refine LeO.ite ?_ ?_)
   | (with_reducible refine LeO.bind ?_ (fun _ => ?_))
   | exact ih0 _ _ _ _ _
   | exact spec_foStart.mono _ _
   | exact LeO.none _
   | refine LeO.ite ?_ ?_
   | refine LeO.bind ?_ (fun _ => ?_)
set_option maxHeartbeats 8000000 in
set_option maxRecDepth 100000 in
theorem spec_foAt.calls (k : Nat) (A0 : Option Addr) (c0 : Nat) (l0 : List Int) (a1 : Int) (r1 : List Int) (r2 : List Int) (r3 : List Bool) (r4 : List Int) (r5 : Bool) (w : World) (hr0 : Kd.C (Kd.int .i64) w A0 l0.length l0) (hc0 : l0.length ≤ c0) (h : spec_foAt.f k l0 a1 = some (r1, r2, r3, r4, r5)) :
  Calls Try.prog 60 #[.slice A0 l0.length c0, .int .i64 a1] w fun e w' => ∃ v0_ v1_ v2_ v3_ : Value, e = .returned (.tuple #[.agg #[v0_, v1_, v2_, v3_], .bool r5]) ∧ Kd.R (Kd.int .i64) 3 w' w.heap.size (fun k_ => some k_ ≠ (v1_ : Value).ownBlock ∧ some k_ ≠ (v3_ : Value).ownBlock) v0_ r1 ∧ Kd.R (Kd.int .i64) 3 w' w.heap.size (fun k_ => some k_ ≠ (v0_ : Value).ownBlock ∧ some k_ ≠ (v3_ : Value).ownBlock) v1_ r2 ∧ Kd.R Kd.bool 4 w' w.heap.size (fun _ => True) v2_ r3 ∧ Kd.R (Kd.int .i64) 3 w' w.heap.size (fun k_ => some k_ ≠ (v0_ : Value).ownBlock ∧ some k_ ≠ (v1_ : Value).ownBlock) v3_ r4 ∧ Below w.heap.size w w' := by
 have hu27 := Try.underlying27
 have HR0 := Ya hr0
 have HC0 := Ya hc0
 clear hr0 hc0
 have HB := Ya (Below.refl w.heap.size w)
 have H : ((spec_foStart.f k l0).bind fun bt222 => (spec_foAt.l0 k a1 bt222.1 bt222.2.1 bt222.2.2.1 bt222.2.2.2)) = some (r1, r2, r3, r4, r5) := h
 clear h
 replace H := Z33.mp H
 obtain ⟨⟨t222, t225, t228, t231⟩, A30, H⟩ := H
 replace H : (spec_foAt.l0 k a1 t222 t225 t228 t231) = some (r1, r2, r3, r4, r5) := H
 have A3 := Ya A30
 clear A30
 have H' := Ya H
 clear H
 go_enter Try.func60, Try.ntmps60
 go_wp2_with (first | ((with_reducible refine gate_dst (N := 4) rfl ?_); refine Yx 4 #[.slice none 0 0, .slice none 0 0, .slice none 0 0, .slice none 0 0] 27 ?_; intro gb221 hg w4 hbox hb; have BK221 := Ya hbox; have GE221 := Yg hg; replace HB := Yh hb; clear hb hbox hg) | ((with_reducible refine gate_callee (f := 78) rfl ?_); refine Yz 10 Try.func78 #[.slice A0 l0.length c0] ?_; (with_reducible refine (spec_foStart.calls k _ _ l0 t222 t225 t228 t231 _ (Yc (Z19 HR0.out HB.out)) HC0.out A3.out).mono ?_); rintro e w5 ⟨v223, v226, v229, v232, rfl, ho0, ho1, ho2, ho3, hb⟩; refine ⟨_, rfl, ?_⟩; have HO224 := Yl ho0; have HO227 := Yl ho1; have HO230 := Yl ho2; have HO233 := Yl ho3; replace BK221 := Yb BK221 hb; replace HB := Yh hb; (try clear hb ho0 ho1 ho2 ho3)) | ((with_reducible refine gate_dst (N := 6) rfl ?_); refine Yx 6 #[.slice none 0 0, .slice none 0 0, .slice none 0 0, .slice none 0 0] 27 ?_; intro gb234 hg w6 hbox hb; replace HO224 := Yw HO224 hb; replace HO227 := Yw HO227 hb; replace HO230 := Yw HO230 hb; replace HO233 := Yw HO233 hb; have BK234 := Ya hbox; have GE234 := Yg hg; replace HB := Yh hb; have NB221_234 := Yn BK221 hg; have NB234_221 := Ym BK221 hg; replace BK221 := Yb BK221 hb; clear hb hbox hg; obtain ⟨Ao7, co7, rfl⟩ := Z18 HO224.out; have hnb8 := NB234_221.out; have hnc8 := NB221_234.out; obtain ⟨hcz9_0, hcz9_1, hcz9_2, hcz9_3, hfz9_0, hfz9_1, hfz9_2, hfz9_3⟩ := Y4 BK234.out; obtain ⟨Ao10, co10, rfl⟩ := Z18 HO227.out; obtain ⟨Ao11, co11, rfl⟩ := Z18 HO230.out; obtain ⟨Ao12, co12, rfl⟩ := Z18 HO233.out))
 go_loopg [1] k (fun kq v1 w' => ∃ (x1_1 : Int) (x235000_1 : List Int) (x235001_1 : List Int) (x235002_1 : List Bool) (x235003_1 : List Int) (u235000 : Value) (u235001 : Value) (u235002 : Value) (u235003 : Value), v1 = .int .i64 x1_1 ∧ Aside0 (spec_foAt.l0 kq x1_1 x235000_1 x235001_1 x235002_1 x235003_1 = some (r1, r2, r3, r4, r5)) ∧ Aside0 (kq ≤ k) ∧ Aside0 (Kd.R (Kd.int .i64) 3 w' w.heap.size (fun k_ => some k_ ≠ (u235001 : Value).ownBlock ∧ some k_ ≠ (u235003 : Value).ownBlock) u235000 x235000_1) ∧ Aside0 (Kd.R (Kd.int .i64) 3 w' w.heap.size (fun k_ => some k_ ≠ (u235000 : Value).ownBlock ∧ some k_ ≠ (u235003 : Value).ownBlock) u235001 x235001_1) ∧ Aside0 (Kd.R Kd.bool 4 w' w.heap.size (fun _ => True) u235002 x235002_1) ∧ Aside0 (Kd.R (Kd.int .i64) 3 w' w.heap.size (fun k_ => some k_ ≠ (u235000 : Value).ownBlock ∧ some k_ ≠ (u235001 : Value).ownBlock) u235003 x235003_1) ∧ Aside0 (w'.heap[gb221]? = some (.cells #[(.slice none 0 0), (.slice none 0 0), (.slice none 0 0), (.slice none 0 0)] 27 (0, 0))) ∧ Aside0 (w'.heap[gb234]? = some (.cells #[u235000, u235001, u235002, u235003] 27 (0, 0))) ∧ Aside0 (Below w.heap.size w w'))
 case atStart => exact ⟨(a1), (t222), (t225), (t228), (t231), (.slice Ao7 t222.length co7), (.slice Ao10 t225.length co10), (.slice Ao11 t228.length co11), (.slice Ao12 t231.length co12), Q7, H', ⟨Nat.le_refl _⟩, ⟨by (with_reducible repeat (first | apply Z8 | apply Z9 | apply Z10)); exact Z11 (Yf4 HO224.out BK234.out) (fun _ hk => ⟨hk.1.1, hk.1.2⟩)⟩, ⟨by (with_reducible repeat (first | apply Z8 | apply Z9 | apply Z10)); exact Z11 (Yf4 HO227.out BK234.out) (fun _ hk => ⟨hk.1.1, hk.1.2⟩)⟩, ⟨by (with_reducible repeat (first | apply Z8 | apply Z9 | apply Z10)); exact Z11 (Yf4 HO230.out BK234.out) (fun _ hk => trivial)⟩, ⟨by (with_reducible repeat (first | apply Z8 | apply Z9 | apply Z10)); exact Z11 (Yf4 HO233.out BK234.out) (fun _ hk => ⟨hk.1.1, hk.1.2⟩)⟩, ⟨by (with_reducible repeat (first | refine Z22 ?_ _ | refine Z23 ?_ | refine Z24 ?_ _)); refine blk_far ?_ NB221_234.out _; (with_reducible repeat (first | refine Z22 ?_ _ | refine Z23 ?_ | refine Z24 ?_ _)); refine blk_far ?_ NB221_234.out _; (with_reducible repeat (first | refine Z22 ?_ _ | refine Z23 ?_ | refine Z24 ?_ _)); refine blk_far ?_ NB221_234.out _; (with_reducible repeat (first | refine Z22 ?_ _ | refine Z23 ?_ | refine Z24 ?_ _)); refine blk_far ?_ NB221_234.out _; (with_reducible repeat (first | refine Z22 ?_ _ | refine Z23 ?_ | refine Z24 ?_ _)); exact BK221.out⟩, ⟨by (with_reducible repeat (first | refine Z22 ?_ _ | refine Z23 ?_ | refine Z24 ?_ _)); refine Z26 (cs := #[.slice Ao7 t222.length co7, .slice Ao10 t225.length co10, .slice Ao11 t228.length co11, .slice none 0 0]) ?_ 3 _ rfl; (with_reducible repeat (first | refine Z22 ?_ _ | refine Z23 ?_ | refine Z24 ?_ _)); refine Z26 (cs := #[.slice Ao7 t222.length co7, .slice Ao10 t225.length co10, .slice none 0 0, .slice none 0 0]) ?_ 2 _ rfl; (with_reducible repeat (first | refine Z22 ?_ _ | refine Z23 ?_ | refine Z24 ?_ _)); refine Z26 (cs := #[.slice Ao7 t222.length co7, .slice none 0 0, .slice none 0 0, .slice none 0 0]) ?_ 1 _ rfl; (with_reducible repeat (first | refine Z22 ?_ _ | refine Z23 ?_ | refine Z24 ?_ _)); refine Z26 (cs := #[.slice none 0 0, .slice none 0 0, .slice none 0 0, .slice none 0 0]) ?_ 0 _ rfl; (with_reducible repeat (first | refine Z22 ?_ _ | refine Z23 ?_ | refine Z24 ?_ _)); exact BK234.out⟩, ⟨Q12⟩⟩
 case round =>
  clear H'
  try clear p2
  try clear c6
  try clear c7
  try clear c8
  try clear hcz9_0
  try clear hcz9_1
  try clear hcz9_2
  try clear hcz9_3
  try clear hfz9_0
  try clear hfz9_1
  try clear hfz9_2
  try clear hfz9_3
  obtain ⟨x1_1, x235000_1, x235001_1, x235002_1, x235003_1, u235000, u235001, u235002, u235003, rfl, HA, HK1, HO_235000, HO_235001, HO_235002, HO_235003, BK221, BK234, HB⟩ := hrel
  cases gk with
  | zero => exact absurd HA.out (by simp [spec_foAt.l0])
  | succ k1 =>
   have H := HA.out
   clear HA
   simp only [spec_foAt.l0] at H
   by_cases c13 : x1_1 > 0
   ·rw [if_pos c13] at H
    have c13b0 : decide (0 < x1_1) = true := Z35 c13
    clear c13
    replace H := Z33.mp H
    obtain ⟨⟨t235, t238, t241, t244, t247⟩, A140, H⟩ := H
    replace H : (if t247 < 0 then (some (([] : List Int), ([] : List Int), ([] : List Bool), ([] : List Int), false)) else (spec_foAt.l0 k1 (wrap64 (x1_1 - 1)) t235 t238 t241 t244)) = some (r1, r2, r3, r4, r5) := H
    have A14 := Ya A140
    clear A140
    by_cases c15 : t247 < 0
    ·rw [if_pos c15] at H
     have c15b0 : decide (t247 < 0) = true := Z35 c15
     clear c15
     simp only [Option.some.injEq, Prod.mk.injEq] at H
     obtain ⟨rfl, rfl, rfl, rfl, rfl⟩ := H
     have hnb16 := NB234_221.out
     have hnc16 := NB221_234.out
     have hz17 := Y4 BK234.out
     obtain ⟨Ao18, co18, rfl⟩ := Z18 HO_235000.out
     obtain ⟨Ao19, co19, rfl⟩ := Z18 HO_235001.out
     obtain ⟨Ao20, co20, rfl⟩ := Z18 HO_235002.out
     obtain ⟨Ao21, co21, rfl⟩ := Z18 HO_235003.out
     go_wp2_with (first | ((with_reducible refine gate_callee (f := 31) rfl ?_); refine Yz 17 Try.func31 #[.agg #[.slice Ao18 x235000_1.length co18, .slice Ao19 x235001_1.length co19, .slice Ao20 x235002_1.length co20, .slice Ao21 x235003_1.length co21]] ?_; (with_reducible refine (spec_foStep.calls _ _ x235000_1 _ _ x235001_1 _ _ x235002_1 _ _ x235003_1 t235 t238 t241 t244 t247 _ (Yc (Kd.R_reads' HO_235000.out).2.2) ((Kd.R_reads' HO_235000.out).2.1) (Yc (Kd.R_reads' HO_235001.out).2.2) ((Kd.R_reads' HO_235001.out).2.1) (Yc (Kd.R_reads' HO_235002.out).2.2) ((Kd.R_reads' HO_235002.out).2.1) (Yc (Kd.R_reads' HO_235003.out).2.2) ((Kd.R_reads' HO_235003.out).2.1) A14.out).mono ?_); rintro e w22 ⟨v236, v239, v242, v245, rfl, ho0, ho1, ho2, ho3, hb⟩; refine ⟨_, rfl, ?_⟩; have HO237 := Yl (Kd.R_new' (Kd.R_new' (Kd.R_new' ho0 (Z17 (Yr HO_235000.out))) (Z17 (Yr HO_235001.out))) (Z17 (Yr HO_235003.out))); have HO240 := Yl (Kd.R_new' (Kd.R_new' (Kd.R_new' ho1 (Z17 (Yr HO_235000.out))) (Z17 (Yr HO_235001.out))) (Z17 (Yr HO_235003.out))); have HO243 := Yl (Kd.R_new' ho2 (Z17 (Yr HO_235002.out))); replace HO_235002 := Ya (Kd.R_elder' (Yr HO_235002.out) (Kd.R_base ho2) hb); have HO246 := Yl (Kd.R_new' (Kd.R_new' (Kd.R_new' ho3 (Z17 (Yr HO_235000.out))) (Z17 (Yr HO_235001.out))) (Z17 (Yr HO_235003.out))); replace HO_235000 := Ya (Z11 (Z15 (Z15 (Z15 (Z16 (Yr HO_235000.out) hb) (Kd.R_base ho0)) (Kd.R_base ho1)) (Kd.R_base ho3)) (fun _ h_ => h_.1)); replace HO_235001 := Ya (Z11 (Z15 (Z15 (Z15 (Z16 (Yr HO_235001.out) hb) (Kd.R_base ho0)) (Kd.R_base ho1)) (Kd.R_base ho3)) (fun _ h_ => h_.1)); replace HO_235003 := Ya (Z11 (Z15 (Z15 (Z15 (Z16 (Yr HO_235003.out) hb) (Kd.R_base ho0)) (Kd.R_base ho1)) (Kd.R_base ho3)) (fun _ h_ => h_.1)); replace BK221 := Yb BK221 hb; replace BK234 := Yb BK234 hb; replace HB := Yh hb; (try clear hb ho0 ho1 ho2 ho3)) | ((with_reducible refine gate_dst (N := 7) rfl ?_); refine Yx 7 #[.slice none 0 0, .slice none 0 0, .slice none 0 0, .slice none 0 0] 27 ?_; intro gb248 hg w23 hbox hb; replace HO_235000 := Yw HO_235000 hb; replace HO_235001 := Yw HO_235001 hb; replace HO_235002 := Yw HO_235002 hb; replace HO_235003 := Yw HO_235003 hb; replace HO237 := Yw HO237 hb; replace HO240 := Yw HO240 hb; replace HO243 := Yw HO243 hb; replace HO246 := Yw HO246 hb; have BK248 := Ya hbox; have GE248 := Yg hg; replace HB := Yh hb; have NB221_248 := Yn BK221 hg; have NB248_221 := Ym BK221 hg; replace BK221 := Yb BK221 hb; have NB234_248 := Yn BK234 hg; have NB248_234 := Ym BK234 hg; replace BK234 := Yb BK234 hb; clear hb hbox hg; obtain ⟨Ao24, co24, rfl⟩ := Z18 HO237.out; have hnb25 := NB248_221.out; have hnc25 := NB221_248.out; have hnb26 := NB248_234.out; have hnc26 := NB234_248.out; have hz27 := Y4 BK248.out; obtain ⟨Ao28, co28, rfl⟩ := Z18 HO240.out; obtain ⟨Ao29, co29, rfl⟩ := Z18 HO243.out; obtain ⟨Ao30, co30, rfl⟩ := Z18 HO246.out; have hz31 := Y4 BK221.out))
     refine bodyPost_ret (results_ct rfl _ _ gb221 27 #[.slice none 0 0, .slice none 0 0, .slice none 0 0, .slice none 0 0] (0, 0) _ rfl (by (with_reducible repeat (first | refine Z22 ?_ _ | refine Z23 ?_ | refine Z24 ?_ _)); refine Z26 (cs := #[.slice none 0 0, .slice none 0 0, .slice none 0 0, .slice none 0 0]) ?_ 3 _ rfl; (with_reducible repeat (first | refine Z22 ?_ _ | refine Z23 ?_ | refine Z24 ?_ _)); refine Z26 (cs := #[.slice none 0 0, .slice none 0 0, .slice none 0 0, .slice none 0 0]) ?_ 2 _ rfl; (with_reducible repeat (first | refine Z22 ?_ _ | refine Z23 ?_ | refine Z24 ?_ _)); refine Z26 (cs := #[.slice none 0 0, .slice none 0 0, .slice none 0 0, .slice none 0 0]) ?_ 1 _ rfl; (with_reducible repeat (first | refine Z22 ?_ _ | refine Z23 ?_ | refine Z24 ?_ _)); refine Z26 (cs := #[.slice none 0 0, .slice none 0 0, .slice none 0 0, .slice none 0 0]) ?_ 0 _ rfl; (with_reducible repeat (first | refine Z22 ?_ _ | refine Z23 ?_ | refine Z24 ?_ _)); refine blk_far ?_ NB221_248.out _; (with_reducible repeat (first | refine Z22 ?_ _ | refine Z23 ?_ | refine Z24 ?_ _)); refine blk_far ?_ NB221_248.out _; (with_reducible repeat (first | refine Z22 ?_ _ | refine Z23 ?_ | refine Z24 ?_ _)); refine blk_far ?_ NB221_248.out _; (with_reducible repeat (first | refine Z22 ?_ _ | refine Z23 ?_ | refine Z24 ?_ _)); refine blk_far ?_ NB221_248.out _; (with_reducible repeat (first | refine Z22 ?_ _ | refine Z23 ?_ | refine Z24 ?_ _)); exact BK221.out) Try.underlying27 rfl (by kernel_rfl)) rfl ?_
     exact ⟨_, _, _, _, Q2, Q8, Q8, Q8, Q8, Q12⟩
    ·rw [if_neg c15] at H
     have c15b0 : decide (t247 < 0) = false := Z34 c15
     clear c15
     have H' := Ya H
     clear H
     have hnb32 := NB234_221.out
     have hnc32 := NB221_234.out
     have hz33 := Y4 BK234.out
     obtain ⟨Ao34, co34, rfl⟩ := Z18 HO_235000.out
     obtain ⟨Ao35, co35, rfl⟩ := Z18 HO_235001.out
     obtain ⟨Ao36, co36, rfl⟩ := Z18 HO_235002.out
     obtain ⟨Ao37, co37, rfl⟩ := Z18 HO_235003.out
     go_wp2_with (first | ((with_reducible refine gate_callee (f := 31) rfl ?_); refine Yz 17 Try.func31 #[.agg #[.slice Ao34 x235000_1.length co34, .slice Ao35 x235001_1.length co35, .slice Ao36 x235002_1.length co36, .slice Ao37 x235003_1.length co37]] ?_; (with_reducible refine (spec_foStep.calls _ _ x235000_1 _ _ x235001_1 _ _ x235002_1 _ _ x235003_1 t235 t238 t241 t244 t247 _ (Yc (Kd.R_reads' HO_235000.out).2.2) ((Kd.R_reads' HO_235000.out).2.1) (Yc (Kd.R_reads' HO_235001.out).2.2) ((Kd.R_reads' HO_235001.out).2.1) (Yc (Kd.R_reads' HO_235002.out).2.2) ((Kd.R_reads' HO_235002.out).2.1) (Yc (Kd.R_reads' HO_235003.out).2.2) ((Kd.R_reads' HO_235003.out).2.1) A14.out).mono ?_); rintro e w38 ⟨v236, v239, v242, v245, rfl, ho0, ho1, ho2, ho3, hb⟩; refine ⟨_, rfl, ?_⟩; have HO237 := Yl (Kd.R_new' (Kd.R_new' (Kd.R_new' ho0 (Z17 (Yr HO_235000.out))) (Z17 (Yr HO_235001.out))) (Z17 (Yr HO_235003.out))); have HO240 := Yl (Kd.R_new' (Kd.R_new' (Kd.R_new' ho1 (Z17 (Yr HO_235000.out))) (Z17 (Yr HO_235001.out))) (Z17 (Yr HO_235003.out))); have HO243 := Yl (Kd.R_new' ho2 (Z17 (Yr HO_235002.out))); replace HO_235002 := Ya (Kd.R_elder' (Yr HO_235002.out) (Kd.R_base ho2) hb); have HO246 := Yl (Kd.R_new' (Kd.R_new' (Kd.R_new' ho3 (Z17 (Yr HO_235000.out))) (Z17 (Yr HO_235001.out))) (Z17 (Yr HO_235003.out))); replace HO_235000 := Ya (Z11 (Z15 (Z15 (Z15 (Z16 (Yr HO_235000.out) hb) (Kd.R_base ho0)) (Kd.R_base ho1)) (Kd.R_base ho3)) (fun _ h_ => h_.1)); replace HO_235001 := Ya (Z11 (Z15 (Z15 (Z15 (Z16 (Yr HO_235001.out) hb) (Kd.R_base ho0)) (Kd.R_base ho1)) (Kd.R_base ho3)) (fun _ h_ => h_.1)); replace HO_235003 := Ya (Z11 (Z15 (Z15 (Z15 (Z16 (Yr HO_235003.out) hb) (Kd.R_base ho0)) (Kd.R_base ho1)) (Kd.R_base ho3)) (fun _ h_ => h_.1)); replace BK221 := Yb BK221 hb; replace BK234 := Yb BK234 hb; replace HB := Yh hb; (try clear hb ho0 ho1 ho2 ho3)) | ((with_reducible refine gate_dst (N := 7) rfl ?_); refine Yx 7 #[.slice none 0 0, .slice none 0 0, .slice none 0 0, .slice none 0 0] 27 ?_; intro gb248 hg w39 hbox hb; replace HO_235000 := Yw HO_235000 hb; replace HO_235001 := Yw HO_235001 hb; replace HO_235002 := Yw HO_235002 hb; replace HO_235003 := Yw HO_235003 hb; replace HO237 := Yw HO237 hb; replace HO240 := Yw HO240 hb; replace HO243 := Yw HO243 hb; replace HO246 := Yw HO246 hb; have BK248 := Ya hbox; have GE248 := Yg hg; replace HB := Yh hb; have NB221_248 := Yn BK221 hg; have NB248_221 := Ym BK221 hg; replace BK221 := Yb BK221 hb; have NB234_248 := Yn BK234 hg; have NB248_234 := Ym BK234 hg; replace BK234 := Yb BK234 hb; clear hb hbox hg; obtain ⟨Ao40, co40, rfl⟩ := Z18 HO237.out; have hnb41 := NB248_221.out; have hnc41 := NB221_248.out; have hnb42 := NB248_234.out; have hnc42 := NB234_248.out; have hz43 := Y4 BK248.out; obtain ⟨Ao44, co44, rfl⟩ := Z18 HO240.out; obtain ⟨Ao45, co45, rfl⟩ := Z18 HO243.out; obtain ⟨Ao46, co46, rfl⟩ := Z18 HO246.out; have hz47 := Y4 BK234.out))
     go_roundg k1
     case measure => have := HK1.out; omega
     case rel => exact ⟨(wrap64 (x1_1 - 1)), (t235), (t238), (t241), (t244), (.slice Ao40 t235.length co40), (.slice Ao44 t238.length co44), (.slice Ao45 t241.length co45), (.slice Ao46 t244.length co46), Q7, H', ⟨Q24⟩, ⟨by (with_reducible repeat (first | apply Z8 | apply Z9 | apply Z10)); exact Z11 (Z12 (p := ⟨gb234, 3, none⟩) (Z12 (p := ⟨gb234, 2, none⟩) (Z12 (p := ⟨gb234, 1, none⟩) (Z12 (p := ⟨gb234, 0, none⟩) (Z12 (p := ⟨gb248, 3, none⟩) (Z12 (p := ⟨gb248, 2, none⟩) (Z12 (p := ⟨gb248, 1, none⟩) (Z12 (p := ⟨gb248, 0, none⟩) (Z14 (Z14 HO237.out BK248.out (by decide)) BK234.out (by decide)) (fun _ hk => hk.1.2) (.slice Ao40 t235.length co40)) (fun _ hk => hk.1.2) (.slice Ao44 t238.length co44)) (fun _ hk => hk.1.2) (.slice Ao45 t241.length co45)) (fun _ hk => hk.1.2) (.slice Ao46 t244.length co46)) (fun _ hk => hk.2) (.slice Ao40 t235.length co40)) (fun _ hk => hk.2) (.slice Ao44 t238.length co44)) (fun _ hk => hk.2) (.slice Ao45 t241.length co45)) (fun _ hk => hk.2) (.slice Ao46 t244.length co46)) (fun _ hk => ⟨hk.1.1.1.1.1.1, hk.1.1.1.1.1.2⟩)⟩, ⟨by (with_reducible repeat (first | apply Z8 | apply Z9 | apply Z10)); exact Z11 (Z12 (p := ⟨gb234, 3, none⟩) (Z12 (p := ⟨gb234, 2, none⟩) (Z12 (p := ⟨gb234, 1, none⟩) (Z12 (p := ⟨gb234, 0, none⟩) (Z12 (p := ⟨gb248, 3, none⟩) (Z12 (p := ⟨gb248, 2, none⟩) (Z12 (p := ⟨gb248, 1, none⟩) (Z12 (p := ⟨gb248, 0, none⟩) (Z14 (Z14 HO240.out BK248.out (by decide)) BK234.out (by decide)) (fun _ hk => hk.1.2) (.slice Ao40 t235.length co40)) (fun _ hk => hk.1.2) (.slice Ao44 t238.length co44)) (fun _ hk => hk.1.2) (.slice Ao45 t241.length co45)) (fun _ hk => hk.1.2) (.slice Ao46 t244.length co46)) (fun _ hk => hk.2) (.slice Ao40 t235.length co40)) (fun _ hk => hk.2) (.slice Ao44 t238.length co44)) (fun _ hk => hk.2) (.slice Ao45 t241.length co45)) (fun _ hk => hk.2) (.slice Ao46 t244.length co46)) (fun _ hk => ⟨hk.1.1.1.1.1.1, hk.1.1.1.1.1.2⟩)⟩, ⟨by (with_reducible repeat (first | apply Z8 | apply Z9 | apply Z10)); exact Z11 (Z12 (p := ⟨gb234, 3, none⟩) (Z12 (p := ⟨gb234, 2, none⟩) (Z12 (p := ⟨gb234, 1, none⟩) (Z12 (p := ⟨gb234, 0, none⟩) (Z12 (p := ⟨gb248, 3, none⟩) (Z12 (p := ⟨gb248, 2, none⟩) (Z12 (p := ⟨gb248, 1, none⟩) (Z12 (p := ⟨gb248, 0, none⟩) (Z14 (Z14 HO243.out BK248.out (by decide)) BK234.out (by decide)) (fun _ hk => hk.1.2) (.slice Ao40 t235.length co40)) (fun _ hk => hk.1.2) (.slice Ao44 t238.length co44)) (fun _ hk => hk.1.2) (.slice Ao45 t241.length co45)) (fun _ hk => hk.1.2) (.slice Ao46 t244.length co46)) (fun _ hk => hk.2) (.slice Ao40 t235.length co40)) (fun _ hk => hk.2) (.slice Ao44 t238.length co44)) (fun _ hk => hk.2) (.slice Ao45 t241.length co45)) (fun _ hk => hk.2) (.slice Ao46 t244.length co46)) (fun _ hk => trivial)⟩, ⟨by (with_reducible repeat (first | apply Z8 | apply Z9 | apply Z10)); exact Z11 (Z12 (p := ⟨gb234, 3, none⟩) (Z12 (p := ⟨gb234, 2, none⟩) (Z12 (p := ⟨gb234, 1, none⟩) (Z12 (p := ⟨gb234, 0, none⟩) (Z12 (p := ⟨gb248, 3, none⟩) (Z12 (p := ⟨gb248, 2, none⟩) (Z12 (p := ⟨gb248, 1, none⟩) (Z12 (p := ⟨gb248, 0, none⟩) (Z14 (Z14 HO246.out BK248.out (by decide)) BK234.out (by decide)) (fun _ hk => hk.1.2) (.slice Ao40 t235.length co40)) (fun _ hk => hk.1.2) (.slice Ao44 t238.length co44)) (fun _ hk => hk.1.2) (.slice Ao45 t241.length co45)) (fun _ hk => hk.1.2) (.slice Ao46 t244.length co46)) (fun _ hk => hk.2) (.slice Ao40 t235.length co40)) (fun _ hk => hk.2) (.slice Ao44 t238.length co44)) (fun _ hk => hk.2) (.slice Ao45 t241.length co45)) (fun _ hk => hk.2) (.slice Ao46 t244.length co46)) (fun _ hk => ⟨hk.1.1.1.1.1.1, hk.1.1.1.1.1.2⟩)⟩, ⟨by (with_reducible repeat (first | refine Z22 ?_ _ | refine Z23 ?_ | refine Z24 ?_ _)); refine blk_far ?_ NB221_234.out _; (with_reducible repeat (first | refine Z22 ?_ _ | refine Z23 ?_ | refine Z24 ?_ _)); refine blk_far ?_ NB221_234.out _; (with_reducible repeat (first | refine Z22 ?_ _ | refine Z23 ?_ | refine Z24 ?_ _)); refine blk_far ?_ NB221_234.out _; (with_reducible repeat (first | refine Z22 ?_ _ | refine Z23 ?_ | refine Z24 ?_ _)); refine blk_far ?_ NB221_234.out _; (with_reducible repeat (first | refine Z22 ?_ _ | refine Z23 ?_ | refine Z24 ?_ _)); refine blk_far ?_ NB221_248.out _; (with_reducible repeat (first | refine Z22 ?_ _ | refine Z23 ?_ | refine Z24 ?_ _)); refine blk_far ?_ NB221_248.out _; (with_reducible repeat (first | refine Z22 ?_ _ | refine Z23 ?_ | refine Z24 ?_ _)); refine blk_far ?_ NB221_248.out _; (with_reducible repeat (first | refine Z22 ?_ _ | refine Z23 ?_ | refine Z24 ?_ _)); refine blk_far ?_ NB221_248.out _; (with_reducible repeat (first | refine Z22 ?_ _ | refine Z23 ?_ | refine Z24 ?_ _)); exact BK221.out⟩, ⟨by (with_reducible repeat (first | refine Z22 ?_ _ | refine Z23 ?_ | refine Z24 ?_ _)); refine Z26 (cs := #[.slice Ao40 t235.length co40, .slice Ao44 t238.length co44, .slice Ao45 t241.length co45, .slice Ao37 x235003_1.length co37]) ?_ 3 _ rfl; (with_reducible repeat (first | refine Z22 ?_ _ | refine Z23 ?_ | refine Z24 ?_ _)); refine Z26 (cs := #[.slice Ao40 t235.length co40, .slice Ao44 t238.length co44, .slice Ao36 x235002_1.length co36, .slice Ao37 x235003_1.length co37]) ?_ 2 _ rfl; (with_reducible repeat (first | refine Z22 ?_ _ | refine Z23 ?_ | refine Z24 ?_ _)); refine Z26 (cs := #[.slice Ao40 t235.length co40, .slice Ao35 x235001_1.length co35, .slice Ao36 x235002_1.length co36, .slice Ao37 x235003_1.length co37]) ?_ 1 _ rfl; (with_reducible repeat (first | refine Z22 ?_ _ | refine Z23 ?_ | refine Z24 ?_ _)); refine Z26 (cs := #[.slice Ao34 x235000_1.length co34, .slice Ao35 x235001_1.length co35, .slice Ao36 x235002_1.length co36, .slice Ao37 x235003_1.length co37]) ?_ 0 _ rfl; (with_reducible repeat (first | refine Z22 ?_ _ | refine Z23 ?_ | refine Z24 ?_ _)); refine blk_far ?_ NB234_248.out _; (with_reducible repeat (first | refine Z22 ?_ _ | refine Z23 ?_ | refine Z24 ?_ _)); refine blk_far ?_ NB234_248.out _; (with_reducible repeat (first | refine Z22 ?_ _ | refine Z23 ?_ | refine Z24 ?_ _)); refine blk_far ?_ NB234_248.out _; (with_reducible repeat (first | refine Z22 ?_ _ | refine Z23 ?_ | refine Z24 ?_ _)); refine blk_far ?_ NB234_248.out _; (with_reducible repeat (first | refine Z22 ?_ _ | refine Z23 ?_ | refine Z24 ?_ _)); exact BK234.out⟩, ⟨Q12⟩⟩
   ·rw [if_neg c13] at H
    have c13b0 : decide (0 < x1_1) = false := Z34 c13
    clear c13
    simp only [Option.some.injEq, Prod.mk.injEq] at H
    obtain ⟨rfl, rfl, rfl, rfl, rfl⟩ := H
    have hnb48 := NB234_221.out
    have hnc48 := NB221_234.out
    have hz49 := Y4 BK234.out
    obtain ⟨Ao50, co50, rfl⟩ := Z18 HO_235000.out
    have hz51 := Y4 BK221.out
    obtain ⟨Ao52, co52, rfl⟩ := Z18 HO_235001.out
    obtain ⟨Ao53, co53, rfl⟩ := Z18 HO_235002.out
    obtain ⟨Ao54, co54, rfl⟩ := Z18 HO_235003.out
    go_wp2
    refine bodyPost_ret (results_ct rfl _ _ gb221 27 #[.slice Ao50 x235000_1.length co50, .slice Ao52 x235001_1.length co52, .slice Ao53 x235002_1.length co53, .slice Ao54 x235003_1.length co54] (0, 0) _ rfl (Yk (Yv4 BK221.out)) Try.underlying27 rfl (by kernel_rfl)) rfl ?_
    exact ⟨_, _, _, _, Q2, by (with_reducible repeat (first | apply Z8 | apply Z9 | apply Z10)); exact Z11 (Yf4 HO_235000.out BK221.out) (fun _ hk => ⟨hk.1.1, hk.1.2⟩), by (with_reducible repeat (first | apply Z8 | apply Z9 | apply Z10)); exact Z11 (Yf4 HO_235001.out BK221.out) (fun _ hk => ⟨hk.1.1, hk.1.2⟩), by (with_reducible repeat (first | apply Z8 | apply Z9 | apply Z10)); exact Z11 (Yf4 HO_235002.out BK221.out) (fun _ hk => trivial), by (with_reducible repeat (first | apply Z8 | apply Z9 | apply Z10)); exact Z11 (Yf4 HO_235003.out BK221.out) (fun _ hk => ⟨hk.1.1, hk.1.2⟩), Q12⟩
def spec_gcMixedRank.f : Nat → List Int → List Int → Option (Int)
 | 0, _, _ => none
 | k + 1, l0, l1 => if (l0.length : Int) = 0 then (some 0) else (if 1 ≤ (l0.length : Int) then ((spec_raProduct.f k (l0.drop 1)).bind fun t250 => (if 1 ≤ (l1.length : Int) then ((spec_gcMixedRank.f k (l0.drop 1) (l1.drop 1)).bind fun t253 => (if 0 < (l1.length : Int) then (if (Int.tmod (rd l1 0) 2) = 1 then (some (wrap64 ((wrap64 ((rd l1 0) * t250)) + (wrap64 ((wrap64 (t250 - 1)) - t253))))) else (some (wrap64 ((wrap64 ((rd l1 0) * t250)) + t253)))) else (none))) else (none))) else (none))
theorem spec_gcMixedRank.mono_l : ∀ k, (∀ y0 y1, LeO (spec_gcMixedRank.f k y0 y1) (spec_gcMixedRank.f (k + 1) y0 y1))
 | 0 => fun _ _ r h => by simp [spec_gcMixedRank.f] at h
 | k + 1 => by
  have ih0 := spec_gcMixedRank.mono_l k
  ·intro y0 y1
   unfold spec_gcMixedRank.f
   repeat' first
   | (with_reducible exact ih0 _ _)
   | (with_reducible exact spec_raProduct.mono _ _)
   | (with_reducible exact LeO.refl _)
   | (with_reducible exact LeO.none _)
   | (with_reducible refine LeO.ite ?_ ?_)
   | (with_reducible refine LeO.bind ?_ (fun _ => ?_))
   | exact ih0 _ _
   | exact spec_raProduct.mono _ _
   | exact LeO.none _
   | refine LeO.ite ?_ ?_
   | refine LeO.bind ?_ (fun _ => ?_)
theorem spec_gcMixedRank.mono : ∀ a0 a1 k, LeO (spec_gcMixedRank.f k a0 a1) (spec_gcMixedRank.f (k + 1) a0 a1) := by
 intro a0 a1 k
 have ih0 := spec_gcMixedRank.mono_l k
 exact ih0 a0 a1
set_option maxHeartbeats 8000000 in
set_option maxRecDepth 100000 in
theorem spec_gcMixedRank.calls (k : Nat) : ∀ (A0 : Option Addr) (c0 : Nat) (l0 : List Int) (A1 : Option Addr) (c1 : Nat) (l1 : List Int) (r : Int) (w : World) (hr0 : Kd.C (Kd.int .i64) w A0 l0.length l0) (hc0 : l0.length ≤ c0) (hr1 : Kd.C (Kd.int .i64) w A1 l1.length l1) (hc1 : l1.length ≤ c1) (h : spec_gcMixedRank.f k l0 l1 = some r),
  Calls Try.prog 61 #[.slice A0 l0.length c0, .slice A1 l1.length c1] w fun e w' => e = .returned (.int .i64 r) ∧ Below w.heap.size w w' := by
 induction k using Nat.strongRecOn with
 | _ k ih =>
 intro A0 c0 l0 A1 c1 l1 r w hr0 hc0 hr1 hc1 h
 cases k with
 | zero => exact absurd h (by simp [spec_gcMixedRank.f])
 | succ k =>
 simp only [spec_gcMixedRank.f] at h
 have HR0 := Ya hr0
 have HC0 := Ya hc0
 clear hr0 hc0
 have HR1 := Ya hr1
 have HC1 := Ya hc1
 clear hr1 hc1
 have HB := Ya (Below.refl w.heap.size w)
 have H : (if (l0.length : Int) = 0 then (some 0) else (if 1 ≤ (l0.length : Int) then ((spec_raProduct.f k (l0.drop 1)).bind fun t250 => (if 1 ≤ (l1.length : Int) then ((spec_gcMixedRank.f k (l0.drop 1) (l1.drop 1)).bind fun t253 => (if 0 < (l1.length : Int) then (if (Int.tmod (rd l1 0) 2) = 1 then (some (wrap64 ((wrap64 ((rd l1 0) * t250)) + (wrap64 ((wrap64 (t250 - 1)) - t253))))) else (some (wrap64 ((wrap64 ((rd l1 0) * t250)) + t253)))) else (none))) else (none))) else (none))) = some r := h
 clear h
 by_cases c3 : (l0.length : Int) = 0
 ·rw [if_pos c3] at H
  have c3b0 : ((l0.length : Int) == 0) = true := beq_iff_eq.mpr c3
  have c3b1 : ((l0.length : Int) != 0) = false := bne_eq_false_iff_eq.mpr c3
  clear c3
  obtain rfl := Option.some.inj H
  go_enter Try.func61, Try.ntmps61
  go_wp2
  go_ret
  exact ⟨Q2, Q12⟩
 ·rw [if_neg c3] at H
  have c3b0 : ((l0.length : Int) == 0) = false := beq_eq_false_iff_ne.mpr c3
  have c3b1 : ((l0.length : Int) != 0) = true := bne_iff_ne.mpr c3
  have c3b2 : ¬ (l0 = []) := fun h_ => c3 (by rw [h_]; rfl)
  by_cases c4 : 1 ≤ (l0.length : Int)
  ·rw [if_pos c4] at H
   have c4b0 := eq_true c4
   have c4b1 : decide (1 ≤ (l0.length : Int)) = true := Z35 c4
   have HLEc4 := Ya c4
   clear c4
   replace H := Z33.mp H
   obtain ⟨t250, A50, H⟩ := H
   replace H : (if 1 ≤ (l1.length : Int) then ((spec_gcMixedRank.f k (l0.drop 1) (l1.drop 1)).bind fun t253 => (if 0 < (l1.length : Int) then (if (Int.tmod (rd l1 0) 2) = 1 then (some (wrap64 ((wrap64 ((rd l1 0) * t250)) + (wrap64 ((wrap64 (t250 - 1)) - t253))))) else (some (wrap64 ((wrap64 ((rd l1 0) * t250)) + t253)))) else (none))) else (none)) = some r := H
   have A5 := Ya A50
   clear A50
   have c6b0 := eq_true (Z27 Q1 : 1 ≤ (l0.length : Int))
   by_cases c7 : 1 ≤ (l1.length : Int)
   ·rw [if_pos c7] at H
    have c7b0 := eq_true c7
    have c7b1 : decide (1 ≤ (l1.length : Int)) = true := Z35 c7
    have HLEc7 := Ya c7
    clear c7
    replace H := Z33.mp H
    obtain ⟨t253, A80, H⟩ := H
    replace H : (if 0 < (l1.length : Int) then (if (Int.tmod (rd l1 0) 2) = 1 then (some (wrap64 ((wrap64 ((rd l1 0) * t250)) + (wrap64 ((wrap64 (t250 - 1)) - t253))))) else (some (wrap64 ((wrap64 ((rd l1 0) * t250)) + t253)))) else (none)) = some r := H
    have A8 := Ya A80
    clear A80
    by_cases c9 : 0 < (l1.length : Int)
    ·rw [if_pos c9] at H
     have c9b0 : decide (0 < (l1.length : Int)) = true := Z35 c9
     have c9b1 : decide (0 < l1.length) = true := Z35 (by omega)
     clear c9
     by_cases c10 : (Int.tmod (rd l1 0) 2) = 1
     ·rw [if_pos c10] at H
      have c10b0 : ((Int.tmod (rd l1 0) 2) == 1) = true := beq_iff_eq.mpr c10
      have c10b1 : ((Int.tmod (rd l1 0) 2) != 1) = false := bne_eq_false_iff_eq.mpr c10
      clear c10
      obtain rfl := Option.some.inj H
      obtain ⟨i011, hi011, _, hsz11, _⟩ := info_parts info3
      obtain ⟨A11, hcut11, hA11, hC11⟩ := print_drop_of (P := Try.prog) (Value.int .i64) 0 22 3 .i64 Try.underlying22 hi011 hsz11 A0 c0 l0 1 (by omega) (Z27 Q1) HC0.out
      have HR249 := Ya (Kd.C_of_reads (h1 := fun _ => rfl) (hA11 _ (Kd.reads_of_C HR0.out)))
      have HC249 := Ya hC11
      clear hA11 hC11 hi011 hsz11
      go_enter Try.func61, Try.ntmps61
      try go_wp2_with (first | ((with_reducible refine gate_callee (f := 77) rfl ?_); refine Yz 12 Try.func77 #[.slice A11 (l0.drop 1).length (c0 - 1)] ?_ (hargs := Q31); (with_reducible refine (spec_raProduct.calls k _ _ (l0.drop 1) t250 _ ?side1 ?side2 A5.out).mono ?_); (case side1 => exact Yc HR249.out); (case side2 => exact HC249.out); rintro e w' ⟨rfl, ⟨nd, rfl⟩⟩; refine ⟨_, rfl, ?_⟩))
      replace HB := Ya (Z4 (Z3 HB.out nd))
      have HR251 := HR249
      have HC251 := HC249
      obtain ⟨i014, hi014, _, hsz14, _⟩ := info_parts info3
      obtain ⟨A14, hcut14, hA14, hC14⟩ := print_drop_of (P := Try.prog) (Value.int .i64) 0 22 3 .i64 Try.underlying22 hi014 hsz14 A1 c1 l1 1 (by omega) (Z27 Q1) HC1.out
      have HR252 := Ya (Kd.C_of_reads (h1 := fun _ => rfl) (hA14 _ (Kd.reads_of_C HR1.out)))
      have HC252 := Ya hC14
      clear hA14 hC14 hi014 hsz14
      refine start_ (n := 6) (S := fun w' => True) (ds := []) (YA 6 0) (by kernel_rfl) rfl rfl trivial (fun hHeld => ?_)
      generalize (w.drewN nd).drew = w12 at HB HR251 HR252 hHeld ⊢
      refine Yq 0 (some 13) (YA 6 1) rfl ?_
      refine Yq 1 (some 14) (YA 6 3) rfl ?_
      refine Yq 2 (some 15) (YA 6 7) rfl ?_
      refine Yq 3 (some 16) (YA 6 15) rfl ?_
      refine one_ (i := 4) (N := some 17) (YA 6 31) rfl rfl (by kernel_rfl) (by decide) (fun K hK => ?_)
      refine goes_ Try.func61 (by kernel_rfl) rfl #[.slice A11 (l0.drop 1).length (c0 - 1), .slice A14 (l1.drop 1).length (c1 - 1)] (by rfl) rfl rfl Q20 ?_
      with_reducible refine (ih k (by omega) _ _ (l0.drop 1) _ _ (l1.drop 1) t253 _ ?side1 ?side2 ?side3 ?side4 A8.out).mono ?_
      (case side1 => exact Yc (Z19 HR251.out HB.out))
      (case side2 => exact HC251.out)
      (case side3 => exact Yc (Z19 HR252.out HB.out))
      (case side4 => exact HC252.out)
      rintro e w15 ⟨rfl, hb⟩
      refine ⟨_, rfl, ?_⟩
      replace HB := Yh hb
      (try clear hb)
      refine hK.out _ _ trivial (fun hHeld => ?_)
      clear hK K
      refine norm_ (a' := ?_) ?_ ?_
      rotate_left
      ·show Act.put _ (some 17) _ = _
       simp only [Act.put, Z0, Z1, Z2, i64_w, i32_w]
       rfl
      refine Yq 5 (some 6) (YA 6 63) rfl ?_
      refine done_ (by kernel_rfl) ?_
      have p254 : 0 ≤ (0 : Int) := (by omega)
      have q254 : 0 < (l1.length : Int) := Z27 Q1
      obtain ⟨ad254, e254, hx254_0⟩ := Kd.at_int HR1.out 0 p254 q254
      cases e254
      have qi254 : (0 < l1.length) = True := eq_true (by omega)
      (try rw [show ((0 : Int)).toNat = 0 from rfl] at hx254_0)
      (try rw [Addr.add_zero'] at hx254_0)
      try replace hx254_0 := (HB.out.cell (World.block_lt_of_cell? w _ hx254_0)).trans hx254_0
      replace p254 := eq_true p254
      replace q254 := eq_true q254
      have p255 : 0 ≤ (0 : Int) := (by omega)
      have q255 : 0 < (l1.length : Int) := Z27 Q1
      obtain ⟨ad255, e255, hx255_0⟩ := Kd.at_int HR1.out 0 p255 q255
      obtain rfl : ad254 = ad255 := (by injection e255)
      have qi255 : (0 < l1.length) = True := eq_true (by omega)
      (try rw [show ((0 : Int)).toNat = 0 from rfl] at hx255_0)
      (try rw [Addr.add_zero'] at hx255_0)
      try replace hx255_0 := (HB.out.cell (World.block_lt_of_cell? w _ hx255_0)).trans hx255_0
      replace p255 := eq_true p255
      replace q255 := eq_true q255
      try go_wp2
      go_ret
      exact ⟨Q2, Q12⟩
     ·rw [if_neg c10] at H
      have c10b0 : ((Int.tmod (rd l1 0) 2) == 1) = false := beq_eq_false_iff_ne.mpr c10
      have c10b1 : ((Int.tmod (rd l1 0) 2) != 1) = true := bne_iff_ne.mpr c10
      obtain rfl := Option.some.inj H
      obtain ⟨i016, hi016, _, hsz16, _⟩ := info_parts info3
      obtain ⟨A16, hcut16, hA16, hC16⟩ := print_drop_of (P := Try.prog) (Value.int .i64) 0 22 3 .i64 Try.underlying22 hi016 hsz16 A0 c0 l0 1 (by omega) (Z27 Q1) HC0.out
      have HR249 := Ya (Kd.C_of_reads (h1 := fun _ => rfl) (hA16 _ (Kd.reads_of_C HR0.out)))
      have HC249 := Ya hC16
      clear hA16 hC16 hi016 hsz16
      go_enter Try.func61, Try.ntmps61
      try go_wp2_with (first | ((with_reducible refine gate_callee (f := 77) rfl ?_); refine Yz 12 Try.func77 #[.slice A16 (l0.drop 1).length (c0 - 1)] ?_ (hargs := Q31); (with_reducible refine (spec_raProduct.calls k _ _ (l0.drop 1) t250 _ ?side1 ?side2 A5.out).mono ?_); (case side1 => exact Yc HR249.out); (case side2 => exact HC249.out); rintro e w' ⟨rfl, ⟨nd, rfl⟩⟩; refine ⟨_, rfl, ?_⟩))
      replace HB := Ya (Z4 (Z3 HB.out nd))
      have HR251 := HR249
      have HC251 := HC249
      obtain ⟨i019, hi019, _, hsz19, _⟩ := info_parts info3
      obtain ⟨A19, hcut19, hA19, hC19⟩ := print_drop_of (P := Try.prog) (Value.int .i64) 0 22 3 .i64 Try.underlying22 hi019 hsz19 A1 c1 l1 1 (by omega) (Z27 Q1) HC1.out
      have HR252 := Ya (Kd.C_of_reads (h1 := fun _ => rfl) (hA19 _ (Kd.reads_of_C HR1.out)))
      have HC252 := Ya hC19
      clear hA19 hC19 hi019 hsz19
      refine start_ (n := 6) (S := fun w' => True) (ds := []) (YA 6 0) (by kernel_rfl) rfl rfl trivial (fun hHeld => ?_)
      generalize (w.drewN nd).drew = w17 at HB HR251 HR252 hHeld ⊢
      refine Yq 0 (some 13) (YA 6 1) rfl ?_
      refine Yq 1 (some 14) (YA 6 3) rfl ?_
      refine Yq 2 (some 15) (YA 6 7) rfl ?_
      refine Yq 3 (some 16) (YA 6 15) rfl ?_
      refine one_ (i := 4) (N := some 17) (YA 6 31) rfl rfl (by kernel_rfl) (by decide) (fun K hK => ?_)
      refine goes_ Try.func61 (by kernel_rfl) rfl #[.slice A16 (l0.drop 1).length (c0 - 1), .slice A19 (l1.drop 1).length (c1 - 1)] (by rfl) rfl rfl Q20 ?_
      with_reducible refine (ih k (by omega) _ _ (l0.drop 1) _ _ (l1.drop 1) t253 _ ?side1 ?side2 ?side3 ?side4 A8.out).mono ?_
      (case side1 => exact Yc (Z19 HR251.out HB.out))
      (case side2 => exact HC251.out)
      (case side3 => exact Yc (Z19 HR252.out HB.out))
      (case side4 => exact HC252.out)
      rintro e w20 ⟨rfl, hb⟩
      refine ⟨_, rfl, ?_⟩
      replace HB := Yh hb
      (try clear hb)
      refine hK.out _ _ trivial (fun hHeld => ?_)
      clear hK K
      refine norm_ (a' := ?_) ?_ ?_
      rotate_left
      ·show Act.put _ (some 17) _ = _
       simp only [Act.put, Z0, Z1, Z2, i64_w, i32_w]
       rfl
      refine Yq 5 (some 6) (YA 6 63) rfl ?_
      refine done_ (by kernel_rfl) ?_
      have p254 : 0 ≤ (0 : Int) := (by omega)
      have q254 : 0 < (l1.length : Int) := Z27 Q1
      obtain ⟨ad254, e254, hx254_0⟩ := Kd.at_int HR1.out 0 p254 q254
      cases e254
      have qi254 : (0 < l1.length) = True := eq_true (by omega)
      (try rw [show ((0 : Int)).toNat = 0 from rfl] at hx254_0)
      (try rw [Addr.add_zero'] at hx254_0)
      try replace hx254_0 := (HB.out.cell (World.block_lt_of_cell? w _ hx254_0)).trans hx254_0
      replace p254 := eq_true p254
      replace q254 := eq_true q254
      have p256 : 0 ≤ (0 : Int) := (by omega)
      have q256 : 0 < (l1.length : Int) := Z27 Q1
      obtain ⟨ad256, e256, hx256_0⟩ := Kd.at_int HR1.out 0 p256 q256
      obtain rfl : ad254 = ad256 := (by injection e256)
      have qi256 : (0 < l1.length) = True := eq_true (by omega)
      (try rw [show ((0 : Int)).toNat = 0 from rfl] at hx256_0)
      (try rw [Addr.add_zero'] at hx256_0)
      try replace hx256_0 := (HB.out.cell (World.block_lt_of_cell? w _ hx256_0)).trans hx256_0
      replace p256 := eq_true p256
      replace q256 := eq_true q256
      try go_wp2
      go_ret
      exact ⟨Q2, Q12⟩
    ·rw [if_neg c9] at H
     exact absurd H (by simp)
   ·rw [if_neg c7] at H
    exact absurd H (by simp)
  ·rw [if_neg c4] at H
   exact absurd H (by simp)
def spec_l1Same.l0 : Nat → List Int → List Int → Int → Int → Option (Bool)
 | 0, _, _, _, _ => none
 | k + 1, x0, x1, x12, x13 => if x13 < x12 then (if 0 ≤ x13 then (if x13 < (x0.length : Int) then (if x13 < (x1.length : Int) then (if (rd x0 x13) = (rd x1 x13) then (spec_l1Same.l0 k x0 x1 x12 (wrap64 (x13 + 1))) else (some false)) else (none)) else (none)) else (none)) else (some true)
def spec_l1Same.f (k : Nat) (l0 : List Int) (l1 : List Int) : Option (Bool) := if (l0.length : Int) = (l1.length : Int) then (spec_l1Same.l0 k l0 l1 (l0.length : Int) 0) else (some false)
theorem spec_l1Same.mono_l : ∀ k, (∀ y0 y1 y2 y3, LeO (spec_l1Same.l0 k y0 y1 y2 y3) (spec_l1Same.l0 (k + 1) y0 y1 y2 y3))
 | 0 => fun _ _ _ _ r h => by simp [spec_l1Same.l0] at h
 | k + 1 => by
  have ih0 := spec_l1Same.mono_l k
  ·intro y0 y1 y2 y3
   unfold spec_l1Same.l0
   repeat' first
   | (with_reducible exact ih0 _ _ _ _)
   | (with_reducible exact LeO.refl _)
   | (with_reducible exact LeO.none _)
   | (with_reducible refine LeO.ite ?_ ?_)
   | (with_reducible refine LeO.bind ?_ (fun _ => ?_))
   | exact ih0 _ _ _ _
   | exact LeO.none _
   | refine LeO.ite ?_ ?_
   | refine LeO.bind ?_ (fun _ => ?_)
theorem spec_l1Same.mono : ∀ a0 a1 k, LeO (spec_l1Same.f k a0 a1) (spec_l1Same.f (k + 1) a0 a1) := by
 intro a0 a1 k
 have ih0 := spec_l1Same.mono_l k
 unfold spec_l1Same.f
 repeat' first
   | (with_reducible exact ih0 _ _ _ _)
   | (with_reducible exact LeO.refl _)
   | (with_reducible exact LeO.none _)
   | (with_reducible refine LeO.ite ?_ ?_)
   | (with_reducible refine LeO.bind ?_ (fun _ => ?_))
   | exact ih0 _ _ _ _
   | exact LeO.none _
   | refine LeO.ite ?_ ?_
   | refine LeO.bind ?_ (fun _ => ?_)
set_option maxHeartbeats 8000000 in
set_option maxRecDepth 100000 in
theorem spec_l1Same.calls (k : Nat) (A0 : Option Addr) (c0 : Nat) (l0 : List Int) (A1 : Option Addr) (c1 : Nat) (l1 : List Int) (r : Bool) (w : World) (hr0 : Kd.C (Kd.int .i64) w A0 l0.length l0) (hc0 : l0.length ≤ c0) (hr1 : Kd.C (Kd.int .i64) w A1 l1.length l1) (hc1 : l1.length ≤ c1) (h : spec_l1Same.f k l0 l1 = some r) :
  Calls Try.prog 70 #[.slice A0 l0.length c0, .slice A1 l1.length c1] w fun e w' => e = .returned (.bool r) ∧ Drawn0 w w' := by
 have HR0 := Ya hr0
 have HC0 := Ya hc0
 clear hr0 hc0
 have HR1 := Ya hr1
 have HC1 := Ya hc1
 clear hr1 hc1
 have H : (if (l0.length : Int) = (l1.length : Int) then (spec_l1Same.l0 k l0 l1 (l0.length : Int) 0) else (some false)) = some r := h
 clear h
 by_cases c3 : (l0.length : Int) = (l1.length : Int)
 ·rw [if_pos c3] at H
  have c3b0 : ((l0.length : Int) == (l1.length : Int)) = true := beq_iff_eq.mpr c3
  have c3b1 : ((l0.length : Int) != (l1.length : Int)) = false := bne_eq_false_iff_eq.mpr c3
  have c3b2 : (l0.length == l1.length) = true := by first | simpa using c3 | (simp at c3 ⊢; omega)
  clear c3
  have H' := Ya H
  clear H
  go_enter Try.func70, Try.ntmps70
  go_wp2
  repeat (go_quiet (fail); try go_wp2)
  go_loopg [13] k (fun kq v13 w' => ∃ (x13_1 : Int), v13 = .int .i64 x13_1 ∧ Aside0 (spec_l1Same.l0 kq l0 l1 (l0.length : Int) x13_1 = some r) ∧ Aside0 (kq ≤ k) ∧ Drawn0 w w')
  case atStart => exact ⟨(0), Q7, H', ⟨Nat.le_refl _⟩, Q5⟩
  case round =>
   clear H'
   try clear c1
   try clear p2
   try clear c3
   try clear c3b0
   try clear c3b1
   try clear c3b2
   obtain ⟨x13_1, rfl, HA, HK1, ⟨m1, rfl⟩⟩ := hrel
   cases gk with
   | zero => exact absurd HA.out (by simp [spec_l1Same.l0])
   | succ k1 =>
    have H := HA.out
    clear HA
    simp only [spec_l1Same.l0] at H
    by_cases c4 : x13_1 < (l0.length : Int)
    ·rw [if_pos c4] at H
     have c4b0 : decide (x13_1 < (l0.length : Int)) = true := Z35 c4
     clear c4
     by_cases c5 : 0 ≤ x13_1
     ·rw [if_pos c5] at H
      have c5b0 : decide (0 ≤ x13_1) = true := Z35 c5
      clear c5
      by_cases c6 : x13_1 < (l0.length : Int)
      ·rw [if_pos c6] at H
       have c6b0 : decide (x13_1 < (l0.length : Int)) = true := Z35 c6
       clear c6
       by_cases c7 : x13_1 < (l1.length : Int)
       ·rw [if_pos c7] at H
        have c7b0 : decide (x13_1 < (l1.length : Int)) = true := Z35 c7
        clear c7
        by_cases c8 : (rd l0 x13_1) = (rd l1 x13_1)
        ·rw [if_pos c8] at H
         have c8b0 : ((rd l0 x13_1) == (rd l1 x13_1)) = true := beq_iff_eq.mpr c8
         have c8b1 : ((rd l0 x13_1) != (rd l1 x13_1)) = false := bne_eq_false_iff_eq.mpr c8
         clear c8
         have H' := Ya H
         clear H
         have p257 : 0 ≤ (x13_1 : Int) := Z27 Q1
         have q257 : x13_1 < (l0.length : Int) := Z27 Q1
         obtain ⟨ad257, e257, hx257_0⟩ := Kd.at_int HR0.out x13_1 p257 q257
         cases e257
         replace p257 := eq_true p257
         replace q257 := eq_true q257
         have p258 : 0 ≤ (x13_1 : Int) := Z27 Q1
         have q258 : x13_1 < (l1.length : Int) := Z27 Q1
         obtain ⟨ad258, e258, hx258_0⟩ := Kd.at_int HR1.out x13_1 p258 q258
         cases e258
         replace p258 := eq_true p258
         replace q258 := eq_true q258
         go_wp2
         repeat (go_quiet (fail); try go_wp2)
         go_roundg k1
         case measure => have := HK1.out; omega
         case rel => exact ⟨(wrap64 (x13_1 + 1)), Q7, H', ⟨Q24⟩, Q5⟩
        ·rw [if_neg c8] at H
         have c8b0 : ((rd l0 x13_1) == (rd l1 x13_1)) = false := beq_eq_false_iff_ne.mpr c8
         have c8b1 : ((rd l0 x13_1) != (rd l1 x13_1)) = true := bne_iff_ne.mpr c8
         obtain rfl := Option.some.inj H
         have p257 : 0 ≤ (x13_1 : Int) := Z27 Q1
         have q257 : x13_1 < (l0.length : Int) := Z27 Q1
         obtain ⟨ad257, e257, hx257_0⟩ := Kd.at_int HR0.out x13_1 p257 q257
         cases e257
         replace p257 := eq_true p257
         replace q257 := eq_true q257
         have p258 : 0 ≤ (x13_1 : Int) := Z27 Q1
         have q258 : x13_1 < (l1.length : Int) := Z27 Q1
         obtain ⟨ad258, e258, hx258_0⟩ := Kd.at_int HR1.out x13_1 p258 q258
         cases e258
         replace p258 := eq_true p258
         replace q258 := eq_true q258
         go_wp2
         repeat (go_quiet (fail); try go_wp2)
         go_ret
         exact ⟨Q13, Q5⟩
       ·rw [if_neg c7] at H
        exact absurd H (by simp)
      ·rw [if_neg c6] at H
       exact absurd H (by simp)
     ·rw [if_neg c5] at H
      exact absurd H (by simp)
    ·rw [if_neg c4] at H
     have c4b0 : decide (x13_1 < (l0.length : Int)) = false := Z34 c4
     clear c4
     obtain rfl := Option.some.inj H
     go_wp2
     repeat (go_quiet (fail); try go_wp2)
     go_ret
     exact ⟨Q13, Q5⟩
 ·rw [if_neg c3] at H
  have c3b0 : ((l0.length : Int) == (l1.length : Int)) = false := beq_eq_false_iff_ne.mpr c3
  have c3b1 : ((l0.length : Int) != (l1.length : Int)) = true := bne_iff_ne.mpr c3
  have c3b2 : (l0.length == l1.length) = false := by first | simpa using c3 | (simp at c3 ⊢; omega)
  obtain rfl := Option.some.inj H
  go_enter Try.func70, Try.ntmps70
  go_wp2
  repeat (go_quiet (fail); try go_wp2)
  go_ret
  exact ⟨Q13, Q5⟩
mutual
def spec_foSame.j0 : Nat → Bool → List Int → List Int → List Bool → List Int → List Int → List Int → List Bool → List Int → Option (Bool)
 | 0, _, _, _, _, _, _, _, _, _ => none
 | k + 1, x37, x260000, x260001, x260002, x260003, x261000, x261001, x261002, x261003 => if x37 = true then (some false) else (spec_foSame.l0 k x260002 (x260002.length : Int) 0 x261000 x261001 x261002 x261003)
def spec_foSame.l0 : Nat → List Bool → Int → Int → List Int → List Int → List Bool → List Int → Option (Bool)
 | 0, _, _, _, _, _, _, _ => none
 | k + 1, x39, x40, x41, x261000, x261001, x261002, x261003 => if x41 < x40 then (if 0 ≤ x41 then (if x41 < (x39.length : Int) then (if x41 < (x261002.length : Int) then (if ((rdOf false x39 x41) != (rdOf false x261002 x41)) = true then (some false) else (spec_foSame.l0 k x39 x40 (wrap64 (x41 + 1)) x261000 x261001 x261002 x261003)) else (none)) else (none)) else (none)) else (some true)
end
def spec_foSame.f (k : Nat) (l0_0 : List Int) (l0_1 : List Int) (l0_2 : List Bool) (l0_3 : List Int) (l1_0 : List Int) (l1_1 : List Int) (l1_2 : List Bool) (l1_3 : List Int) : Option (Bool) := (spec_l1Same.f k l0_0 l1_0).bind fun t261 => (if t261 = true then ((spec_l1Same.f k l0_1 l1_1).bind fun t262 => (if t262 = true then ((spec_l1Same.f k l0_3 l1_3).bind fun t263 => (if t263 = true then (spec_foSame.j0 k ((l0_2.length : Int) != (l1_2.length : Int)) l0_0 l0_1 l0_2 l0_3 l1_0 l1_1 l1_2 l1_3) else (spec_foSame.j0 k true l0_0 l0_1 l0_2 l0_3 l1_0 l1_1 l1_2 l1_3))) else (spec_foSame.j0 k true l0_0 l0_1 l0_2 l0_3 l1_0 l1_1 l1_2 l1_3))) else (spec_foSame.j0 k true l0_0 l0_1 l0_2 l0_3 l1_0 l1_1 l1_2 l1_3))
theorem spec_foSame.mono_l : ∀ k, (∀ y0 y1 y2 y3 y4 y5 y6 y7 y8, LeO (spec_foSame.j0 k y0 y1 y2 y3 y4 y5 y6 y7 y8) (spec_foSame.j0 (k + 1) y0 y1 y2 y3 y4 y5 y6 y7 y8)) ∧ (∀ y0 y1 y2 y3 y4 y5 y6, LeO (spec_foSame.l0 k y0 y1 y2 y3 y4 y5 y6) (spec_foSame.l0 (k + 1) y0 y1 y2 y3 y4 y5 y6))
 | 0 => ⟨fun _ _ _ _ _ _ _ _ _ r h => by simp [spec_foSame.j0] at h, fun _ _ _ _ _ _ _ r h => by simp [spec_foSame.l0] at h⟩
 | k + 1 => by
  obtain ⟨ih0, ih1⟩ := spec_foSame.mono_l k
  refine ⟨?_, ?_⟩
  ·intro y0 y1 y2 y3 y4 y5 y6 y7 y8
   unfold spec_foSame.j0
   repeat' first
   | (with_reducible exact ih0 _ _ _ _ _ _ _ _ _)
   | (with_reducible exact ih1 _ _ _ _ _ _ _)
   | (with_reducible exact spec_l1Same.mono _ _ _)
   | (with_reducible exact LeO.refl _)
   | (with_reducible exact LeO.none _)
   | (with_reducible refine LeO.ite ?_ ?_)
   | (with_reducible refine LeO.bind ?_ (fun _ => ?_))
   | exact ih0 _ _ _ _ _ _ _ _ _
   | exact ih1 _ _ _ _ _ _ _
   | exact spec_l1Same.mono _ _ _
   | exact LeO.none _
   | refine LeO.ite ?_ ?_
   | refine LeO.bind ?_ (fun _ => ?_)
  ·intro y0 y1 y2 y3 y4 y5 y6
   unfold spec_foSame.l0
   repeat' first
   | (with_reducible exact ih0 _ _ _ _ _ _ _ _ _)
   | (with_reducible exact ih1 _ _ _ _ _ _ _)
   | (with_reducible exact spec_l1Same.mono _ _ _)
   | (with_reducible exact LeO.refl _)
   | (with_reducible exact LeO.none _)
   | (with_reducible refine LeO.ite ?_ ?_)
   | (with_reducible refine LeO.bind ?_ (fun _ => ?_))
   | exact ih0 _ _ _ _ _ _ _ _ _
   | exact ih1 _ _ _ _ _ _ _
   | exact spec_l1Same.mono _ _ _
   | exact LeO.none _
   | refine LeO.ite ?_ ?_
   | refine LeO.bind ?_ (fun _ => ?_)
theorem spec_foSame.mono : ∀ a0 a1 a2 a3 a4 a5 a6 a7 k, LeO (spec_foSame.f k a0 a1 a2 a3 a4 a5 a6 a7) (spec_foSame.f (k + 1) a0 a1 a2 a3 a4 a5 a6 a7) := by
 intro a0 a1 a2 a3 a4 a5 a6 a7 k
 obtain ⟨ih0, ih1⟩ := spec_foSame.mono_l k
 unfold spec_foSame.f
 repeat' first
   | (with_reducible exact ih0 _ _ _ _ _ _ _ _ _)
   | (with_reducible exact ih1 _ _ _ _ _ _ _)
   | (with_reducible exact spec_l1Same.mono _ _ _)
   | (with_reducible exact LeO.refl _)
   | (with_reducible exact LeO.none _)
   | (with_reducible refine LeO.ite ?_ ?_)
   | (with_reducible refine LeO.bind ?_ (fun _ => ?_))
   | exact ih0 _ _ _ _ _ _ _ _ _
   | exact ih1 _ _ _ _ _ _ _
   | exact spec_l1Same.mono _ _ _
   | exact LeO.none _
   | refine LeO.ite ?_ ?_
   | refine LeO.bind ?_ (fun _ => ?_)
set_option maxHeartbeats 8000000 in
set_option maxRecDepth 100000 in
theorem spec_foSame.calls (k : Nat) (A0_0 : Option Addr) (c0_0 : Nat) (l0_0 : List Int) (A0_1 : Option Addr) (c0_1 : Nat) (l0_1 : List Int) (A0_2 : Option Addr) (c0_2 : Nat) (l0_2 : List Bool) (A0_3 : Option Addr) (c0_3 : Nat) (l0_3 : List Int) (A1_0 : Option Addr) (c1_0 : Nat) (l1_0 : List Int) (A1_1 : Option Addr) (c1_1 : Nat) (l1_1 : List Int) (A1_2 : Option Addr) (c1_2 : Nat) (l1_2 : List Bool) (A1_3 : Option Addr) (c1_3 : Nat) (l1_3 : List Int) (r : Bool) (w : World) (hr0_0 : Kd.C (Kd.int .i64) w A0_0 l0_0.length l0_0) (hc0_0 : l0_0.length ≤ c0_0) (hr0_1 : Kd.C (Kd.int .i64) w A0_1 l0_1.length l0_1) (hc0_1 : l0_1.length ≤ c0_1) (hr0_2 : Kd.C Kd.bool w A0_2 l0_2.length l0_2) (hc0_2 : l0_2.length ≤ c0_2) (hr0_3 : Kd.C (Kd.int .i64) w A0_3 l0_3.length l0_3) (hc0_3 : l0_3.length ≤ c0_3) (hr1_0 : Kd.C (Kd.int .i64) w A1_0 l1_0.length l1_0) (hc1_0 : l1_0.length ≤ c1_0) (hr1_1 : Kd.C (Kd.int .i64) w A1_1 l1_1.length l1_1) (hc1_1 : l1_1.length ≤ c1_1) (hr1_2 : Kd.C Kd.bool w A1_2 l1_2.length l1_2) (hc1_2 : l1_2.length ≤ c1_2) (hr1_3 : Kd.C (Kd.int .i64) w A1_3 l1_3.length l1_3) (hc1_3 : l1_3.length ≤ c1_3) (h : spec_foSame.f k l0_0 l0_1 l0_2 l0_3 l1_0 l1_1 l1_2 l1_3 = some r) :
  Calls Try.prog 62 #[.agg #[.slice A0_0 l0_0.length c0_0, .slice A0_1 l0_1.length c0_1, .slice A0_2 l0_2.length c0_2, .slice A0_3 l0_3.length c0_3], .agg #[.slice A1_0 l1_0.length c1_0, .slice A1_1 l1_1.length c1_1, .slice A1_2 l1_2.length c1_2, .slice A1_3 l1_3.length c1_3]] w fun e w' => e = .returned (.bool r) ∧ Below w.heap.size w w' := by
 have hu27 := Try.underlying27
 have HR0_0 := Ya hr0_0
 have HC0_0 := Ya hc0_0
 clear hr0_0 hc0_0
 have HR0_1 := Ya hr0_1
 have HC0_1 := Ya hc0_1
 clear hr0_1 hc0_1
 have HR0_2 := Ya hr0_2
 have HC0_2 := Ya hc0_2
 clear hr0_2 hc0_2
 have HR0_3 := Ya hr0_3
 have HC0_3 := Ya hc0_3
 clear hr0_3 hc0_3
 have HR1_0 := Ya hr1_0
 have HC1_0 := Ya hc1_0
 clear hr1_0 hc1_0
 have HR1_1 := Ya hr1_1
 have HC1_1 := Ya hc1_1
 clear hr1_1 hc1_1
 have HR1_2 := Ya hr1_2
 have HC1_2 := Ya hc1_2
 clear hr1_2 hc1_2
 have HR1_3 := Ya hr1_3
 have HC1_3 := Ya hc1_3
 clear hr1_3 hc1_3
 have HB := Ya (Below.refl w.heap.size w)
 have H : ((spec_l1Same.f k l0_0 l1_0).bind fun t261 => (if t261 = true then ((spec_l1Same.f k l0_1 l1_1).bind fun t262 => (if t262 = true then ((spec_l1Same.f k l0_3 l1_3).bind fun t263 => (if t263 = true then (spec_foSame.j0 k ((l0_2.length : Int) != (l1_2.length : Int)) l0_0 l0_1 l0_2 l0_3 l1_0 l1_1 l1_2 l1_3) else (spec_foSame.j0 k true l0_0 l0_1 l0_2 l0_3 l1_0 l1_1 l1_2 l1_3))) else (spec_foSame.j0 k true l0_0 l0_1 l0_2 l0_3 l1_0 l1_1 l1_2 l1_3))) else (spec_foSame.j0 k true l0_0 l0_1 l0_2 l0_3 l1_0 l1_1 l1_2 l1_3))) = some r := h
 clear h
 have HC3 := Ya H
 clear H
 go_enter Try.func62, Try.ntmps62
 go_upto_region 1 with (first | ((with_reducible refine gate_dst (N := 2) rfl ?_); (try (refine gate_guard (by rfl) ?_; dsimp only)); refine Yx 2 #[.slice A0_0 l0_0.length c0_0, .slice A0_1 l0_1.length c0_1, .slice A0_2 l0_2.length c0_2, .slice A0_3 l0_3.length c0_3] 27 ?_; intro gb259 hg w4 hbox hb; have BK259 := Ya hbox; have GE259 := Yg hg; replace HB := Yh hb; clear hb hbox hg) | ((with_reducible refine gate_dst (N := 3) rfl ?_); (try (refine gate_guard (by rfl) ?_; dsimp only)); refine Yx 3 #[.slice A1_0 l1_0.length c1_0, .slice A1_1 l1_1.length c1_1, .slice A1_2 l1_2.length c1_2, .slice A1_3 l1_3.length c1_3] 27 ?_; intro gb260 hg w5 hbox hb; have BK260 := Ya hbox; have GE260 := Yg hg; replace HB := Yh hb; have NB259_260 := Yn BK259 hg; have NB260_259 := Ym BK259 hg; replace BK259 := Yb BK259 hb; clear hb hbox hg))
 (try simp only [Act.put, Z0, Z1, Z2])
 go_cut [37] (fun v37 wc => ∃ (kq : Nat) (x37_2 : Bool), v37 = .bool x37_2 ∧ Aside0 (spec_foSame.j0 kq x37_2 l0_0 l0_1 l0_2 l0_3 l1_0 l1_1 l1_2 l1_3 = some r) ∧ Aside0 (kq ≤ k) ∧ Aside0 (wc.heap[gb259]? = some (.cells #[(.slice A0_0 l0_0.length c0_0), (.slice A0_1 l0_1.length c0_1), (.slice A0_2 l0_2.length c0_2), (.slice A0_3 l0_3.length c0_3)] 27 (0, 0))) ∧ Aside0 (wc.heap[gb260]? = some (.cells #[(.slice A1_0 l1_0.length c1_0), (.slice A1_1 l1_1.length c1_1), (.slice A1_2 l1_2.length c1_2), (.slice A1_3 l1_3.length c1_3)] 27 (0, 0))) ∧ Aside0 (Below w.heap.size w wc))
 case first =>
  have H := HC3.out
  clear HC3
  replace H := Z33.mp H
  obtain ⟨t261, A60, H⟩ := H
  replace H : (if t261 = true then ((spec_l1Same.f k l0_1 l1_1).bind fun t262 => (if t262 = true then ((spec_l1Same.f k l0_3 l1_3).bind fun t263 => (if t263 = true then (spec_foSame.j0 k ((l0_2.length : Int) != (l1_2.length : Int)) l0_0 l0_1 l0_2 l0_3 l1_0 l1_1 l1_2 l1_3) else (spec_foSame.j0 k true l0_0 l0_1 l0_2 l0_3 l1_0 l1_1 l1_2 l1_3))) else (spec_foSame.j0 k true l0_0 l0_1 l0_2 l0_3 l1_0 l1_1 l1_2 l1_3))) else (spec_foSame.j0 k true l0_0 l0_1 l0_2 l0_3 l1_0 l1_1 l1_2 l1_3)) = some r := H
  have A6 := Ya A60
  clear A60
  by_cases c7 : t261 = true
  ·subst c7
   have H1 : ((spec_l1Same.f k l0_1 l1_1).bind fun t262 => (if t262 = true then ((spec_l1Same.f k l0_3 l1_3).bind fun t263 => (if t263 = true then (spec_foSame.j0 k ((l0_2.length : Int) != (l1_2.length : Int)) l0_0 l0_1 l0_2 l0_3 l1_0 l1_1 l1_2 l1_3) else (spec_foSame.j0 k true l0_0 l0_1 l0_2 l0_3 l1_0 l1_1 l1_2 l1_3))) else (spec_foSame.j0 k true l0_0 l0_1 l0_2 l0_3 l1_0 l1_1 l1_2 l1_3))) = some r := by rw [if_pos rfl] at H; exact H
   clear H
   have H := H1
   clear H1
   replace H := Z33.mp H
   obtain ⟨t262, A80, H⟩ := H
   replace H : (if t262 = true then ((spec_l1Same.f k l0_3 l1_3).bind fun t263 => (if t263 = true then (spec_foSame.j0 k ((l0_2.length : Int) != (l1_2.length : Int)) l0_0 l0_1 l0_2 l0_3 l1_0 l1_1 l1_2 l1_3) else (spec_foSame.j0 k true l0_0 l0_1 l0_2 l0_3 l1_0 l1_1 l1_2 l1_3))) else (spec_foSame.j0 k true l0_0 l0_1 l0_2 l0_3 l1_0 l1_1 l1_2 l1_3)) = some r := H
   have A8 := Ya A80
   clear A80
   by_cases c9 : t262 = true
   ·subst c9
    have H1 : ((spec_l1Same.f k l0_3 l1_3).bind fun t263 => (if t263 = true then (spec_foSame.j0 k ((l0_2.length : Int) != (l1_2.length : Int)) l0_0 l0_1 l0_2 l0_3 l1_0 l1_1 l1_2 l1_3) else (spec_foSame.j0 k true l0_0 l0_1 l0_2 l0_3 l1_0 l1_1 l1_2 l1_3))) = some r := by rw [if_pos rfl] at H; exact H
    clear H
    have H := H1
    clear H1
    replace H := Z33.mp H
    obtain ⟨t263, A100, H⟩ := H
    replace H : (if t263 = true then (spec_foSame.j0 k ((l0_2.length : Int) != (l1_2.length : Int)) l0_0 l0_1 l0_2 l0_3 l1_0 l1_1 l1_2 l1_3) else (spec_foSame.j0 k true l0_0 l0_1 l0_2 l0_3 l1_0 l1_1 l1_2 l1_3)) = some r := H
    have A10 := Ya A100
    clear A100
    by_cases c11 : t263 = true
    ·subst c11
     have H1 : (spec_foSame.j0 k ((l0_2.length : Int) != (l1_2.length : Int)) l0_0 l0_1 l0_2 l0_3 l1_0 l1_1 l1_2 l1_3) = some r := by rw [if_pos rfl] at H; exact H
     clear H
     have H := H1
     clear H1
     have H' := Ya H
     clear H
     have hnb12 := NB259_260.out
     have hnc12 := NB260_259.out
     obtain ⟨hcz13_0, hcz13_1, hcz13_2, hcz13_3, hfz13_0, hfz13_1, hfz13_2, hfz13_3⟩ := Y4 BK259.out
     obtain ⟨hcz14_0, hcz14_1, hcz14_2, hcz14_3, hfz14_0, hfz14_1, hfz14_2, hfz14_3⟩ := Y4 BK260.out
     go_wp2_with (first | ((with_reducible refine gate_callee (f := 70) rfl ?_); refine Yz 11 Try.func70 #[.slice A0_0 l0_0.length c0_0, .slice A1_0 l1_0.length c1_0] ?_; (with_reducible refine (spec_l1Same.calls k _ _ l0_0 _ _ l1_0 true _ (Yc (Z19 HR0_0.out HB.out)) HC0_0.out (Yc (Z19 HR1_0.out HB.out)) HC1_0.out A6.out).mono ?_); rintro e w' ⟨rfl, ⟨nd, rfl⟩⟩; refine ⟨_, rfl, ?_⟩) | (go_at_call 70; (with_reducible refine (spec_l1Same.calls k _ _ l0_1 _ _ l1_1 true _ ?side1 HC0_1.out ?side3 HC1_1.out A8.out).mono ?_); (case side1 => exact Yc (Z19 HR0_1.out Q0)); (case side3 => exact Yc (Z19 HR1_1.out Q0)); rintro e w' ⟨rfl, ⟨nd, rfl⟩⟩) | (go_at_call 70; (with_reducible refine (spec_l1Same.calls k _ _ l0_3 _ _ l1_3 true _ ?side1 HC0_3.out ?side3 HC1_3.out A10.out).mono ?_); (case side1 => exact Yc (Z19 HR0_3.out Q0)); (case side3 => exact Yc (Z19 HR1_3.out Q0)); rintro e w' ⟨rfl, ⟨nd, rfl⟩⟩))
     go_meet
     case rel => exact ⟨_, (((l0_2.length : Int) != (l1_2.length : Int))), Q7, H', ⟨Q34⟩, ⟨Q30⟩, ⟨Q29⟩, ⟨Q12⟩⟩
    ·replace c11 := Bool.eq_false_iff.mpr c11
     subst c11
     have H1 : (spec_foSame.j0 k true l0_0 l0_1 l0_2 l0_3 l1_0 l1_1 l1_2 l1_3) = some r := by rw [if_neg (show ¬ (false = true) by decide)] at H; exact H
     clear H
     have H := H1
     clear H1
     have H' := Ya H
     clear H
     have hnb15 := NB259_260.out
     have hnc15 := NB260_259.out
     obtain ⟨hcz16_0, hcz16_1, hcz16_2, hcz16_3, hfz16_0, hfz16_1, hfz16_2, hfz16_3⟩ := Y4 BK259.out
     obtain ⟨hcz17_0, hcz17_1, hcz17_2, hcz17_3, hfz17_0, hfz17_1, hfz17_2, hfz17_3⟩ := Y4 BK260.out
     go_wp2_with (first | ((with_reducible refine gate_callee (f := 70) rfl ?_); refine Yz 11 Try.func70 #[.slice A0_0 l0_0.length c0_0, .slice A1_0 l1_0.length c1_0] ?_; (with_reducible refine (spec_l1Same.calls k _ _ l0_0 _ _ l1_0 true _ (Yc (Z19 HR0_0.out HB.out)) HC0_0.out (Yc (Z19 HR1_0.out HB.out)) HC1_0.out A6.out).mono ?_); rintro e w' ⟨rfl, ⟨nd, rfl⟩⟩; refine ⟨_, rfl, ?_⟩) | (go_at_call 70; (with_reducible refine (spec_l1Same.calls k _ _ l0_1 _ _ l1_1 true _ ?side1 HC0_1.out ?side3 HC1_1.out A8.out).mono ?_); (case side1 => exact Yc (Z19 HR0_1.out Q0)); (case side3 => exact Yc (Z19 HR1_1.out Q0)); rintro e w' ⟨rfl, ⟨nd, rfl⟩⟩) | (go_at_call 70; (with_reducible refine (spec_l1Same.calls k _ _ l0_3 _ _ l1_3 false _ ?side1 HC0_3.out ?side3 HC1_3.out A10.out).mono ?_); (case side1 => exact Yc (Z19 HR0_3.out Q0)); (case side3 => exact Yc (Z19 HR1_3.out Q0)); rintro e w' ⟨rfl, ⟨nd, rfl⟩⟩))
     go_meet
     case rel => exact ⟨_, (true), Q7, H', ⟨Q34⟩, ⟨Q30⟩, ⟨Q29⟩, ⟨Q12⟩⟩
   ·replace c9 := Bool.eq_false_iff.mpr c9
    subst c9
    have H1 : (spec_foSame.j0 k true l0_0 l0_1 l0_2 l0_3 l1_0 l1_1 l1_2 l1_3) = some r := by rw [if_neg (show ¬ (false = true) by decide)] at H; exact H
    clear H
    have H := H1
    clear H1
    have H' := Ya H
    clear H
    have hnb18 := NB259_260.out
    have hnc18 := NB260_259.out
    obtain ⟨hcz19_0, hcz19_1, hcz19_2, hcz19_3, hfz19_0, hfz19_1, hfz19_2, hfz19_3⟩ := Y4 BK259.out
    obtain ⟨hcz20_0, hcz20_1, hcz20_2, hcz20_3, hfz20_0, hfz20_1, hfz20_2, hfz20_3⟩ := Y4 BK260.out
    go_wp2_with (first | ((with_reducible refine gate_callee (f := 70) rfl ?_); refine Yz 11 Try.func70 #[.slice A0_0 l0_0.length c0_0, .slice A1_0 l1_0.length c1_0] ?_; (with_reducible refine (spec_l1Same.calls k _ _ l0_0 _ _ l1_0 true _ (Yc (Z19 HR0_0.out HB.out)) HC0_0.out (Yc (Z19 HR1_0.out HB.out)) HC1_0.out A6.out).mono ?_); rintro e w' ⟨rfl, ⟨nd, rfl⟩⟩; refine ⟨_, rfl, ?_⟩) | (go_at_call 70; (with_reducible refine (spec_l1Same.calls k _ _ l0_1 _ _ l1_1 false _ ?side1 HC0_1.out ?side3 HC1_1.out A8.out).mono ?_); (case side1 => exact Yc (Z19 HR0_1.out Q0)); (case side3 => exact Yc (Z19 HR1_1.out Q0)); rintro e w' ⟨rfl, ⟨nd, rfl⟩⟩))
    go_meet
    case rel => exact ⟨_, (true), Q7, H', ⟨Q34⟩, ⟨Q30⟩, ⟨Q29⟩, ⟨Q12⟩⟩
  ·replace c7 := Bool.eq_false_iff.mpr c7
   subst c7
   have H1 : (spec_foSame.j0 k true l0_0 l0_1 l0_2 l0_3 l1_0 l1_1 l1_2 l1_3) = some r := by rw [if_neg (show ¬ (false = true) by decide)] at H; exact H
   clear H
   have H := H1
   clear H1
   have H' := Ya H
   clear H
   have hnb21 := NB259_260.out
   have hnc21 := NB260_259.out
   obtain ⟨hcz22_0, hcz22_1, hcz22_2, hcz22_3, hfz22_0, hfz22_1, hfz22_2, hfz22_3⟩ := Y4 BK259.out
   obtain ⟨hcz23_0, hcz23_1, hcz23_2, hcz23_3, hfz23_0, hfz23_1, hfz23_2, hfz23_3⟩ := Y4 BK260.out
   go_wp2_with (first | ((with_reducible refine gate_callee (f := 70) rfl ?_); refine Yz 11 Try.func70 #[.slice A0_0 l0_0.length c0_0, .slice A1_0 l1_0.length c1_0] ?_; (with_reducible refine (spec_l1Same.calls k _ _ l0_0 _ _ l1_0 false _ (Yc (Z19 HR0_0.out HB.out)) HC0_0.out (Yc (Z19 HR1_0.out HB.out)) HC1_0.out A6.out).mono ?_); rintro e w' ⟨rfl, ⟨nd, rfl⟩⟩; refine ⟨_, rfl, ?_⟩))
   go_meet
   case rel => exact ⟨_, (true), Q7, H', ⟨Q34⟩, ⟨Q30⟩, ⟨Q29⟩, ⟨Q12⟩⟩
 case rest =>
  clear HC3
  try clear c1
  try clear c2
  try clear p2
  try clear c6
  try clear c7
  try clear c9
  try clear c11
  try clear c12
  try clear c15
  try clear c18
  try clear c21
  try clear hcz13_0
  try clear hcz13_1
  try clear hcz13_2
  try clear hcz13_3
  try clear hcz14_0
  try clear hcz14_1
  try clear hcz14_2
  try clear hcz14_3
  try clear hcz16_0
  try clear hcz16_1
  try clear hcz16_2
  try clear hcz16_3
  try clear hcz17_0
  try clear hcz17_1
  try clear hcz17_2
  try clear hcz17_3
  try clear hcz19_0
  try clear hcz19_1
  try clear hcz19_2
  try clear hcz19_3
  try clear hcz20_0
  try clear hcz20_1
  try clear hcz20_2
  try clear hcz20_3
  try clear hcz22_0
  try clear hcz22_1
  try clear hcz22_2
  try clear hcz22_3
  try clear hcz23_0
  try clear hcz23_1
  try clear hcz23_2
  try clear hcz23_3
  try clear hfz13_0
  try clear hfz13_1
  try clear hfz13_2
  try clear hfz13_3
  try clear hfz14_0
  try clear hfz14_1
  try clear hfz14_2
  try clear hfz14_3
  try clear hfz16_0
  try clear hfz16_1
  try clear hfz16_2
  try clear hfz16_3
  try clear hfz17_0
  try clear hfz17_1
  try clear hfz17_2
  try clear hfz17_3
  try clear hfz19_0
  try clear hfz19_1
  try clear hfz19_2
  try clear hfz19_3
  try clear hfz20_0
  try clear hfz20_1
  try clear hfz20_2
  try clear hfz20_3
  try clear hfz22_0
  try clear hfz22_1
  try clear hfz22_2
  try clear hfz22_3
  try clear hfz23_0
  try clear hfz23_1
  try clear hfz23_2
  try clear hfz23_3
  obtain ⟨kq, x37_2, rfl, HA, HJ2, BK259, BK260, HB⟩ := hcut
  cases kq with
  | zero => exact absurd HA.out (by simp [spec_foSame.j0])
  | succ kj2 =>
   have H := HA.out
   clear HA
   simp only [spec_foSame.j0] at H
   by_cases c24 : x37_2 = true
   ·subst c24
    have H1 : (some false) = some r := by rw [if_pos rfl] at H; exact H
    clear H
    have H := H1
    clear H1
    obtain rfl := Option.some.inj H
    go_wp2
    go_ret
    exact ⟨Q2, Q12⟩
   ·replace c24 := Bool.eq_false_iff.mpr c24
    subst c24
    have H1 : (spec_foSame.l0 kj2 l0_2 (l0_2.length : Int) 0 l1_0 l1_1 l1_2 l1_3) = some r := by rw [if_neg (show ¬ (false = true) by decide)] at H; exact H
    clear H
    have H := H1
    clear H1
    have H' := Ya H
    clear H
    have hnb25 := NB259_260.out
    have hnc25 := NB260_259.out
    obtain ⟨hcz26_0, hcz26_1, hcz26_2, hcz26_3, hfz26_0, hfz26_1, hfz26_2, hfz26_3⟩ := Y4 BK259.out
    go_wp2
    go_loopg [41] kj2 (fun kq v41 w' => ∃ (x41_2 : Int), v41 = .int .i64 x41_2 ∧ Aside0 (spec_foSame.l0 kq l0_2 (l0_2.length : Int) x41_2 l1_0 l1_1 l1_2 l1_3 = some r) ∧ Aside0 (kq ≤ kj2) ∧ Aside0 (w'.heap[gb259]? = some (.cells #[(.slice A0_0 l0_0.length c0_0), (.slice A0_1 l0_1.length c0_1), (.slice A0_2 l0_2.length c0_2), (.slice A0_3 l0_3.length c0_3)] 27 (0, 0))) ∧ Aside0 (w'.heap[gb260]? = some (.cells #[(.slice A1_0 l1_0.length c1_0), (.slice A1_1 l1_1.length c1_1), (.slice A1_2 l1_2.length c1_2), (.slice A1_3 l1_3.length c1_3)] 27 (0, 0))) ∧ Aside0 (Below w.heap.size w w'))
    case atStart => exact ⟨(0), Q7, H', ⟨Nat.le_refl _⟩, ⟨Q30⟩, ⟨Q29⟩, ⟨Q12⟩⟩
    case round =>
     clear H'
     try clear c1
     try clear c2
     try clear p2
     try clear c6
     try clear c7
     try clear c9
     try clear c11
     try clear c12
     try clear c15
     try clear c18
     try clear c21
     try clear c24
     try clear c25
     try clear hcz13_0
     try clear hcz13_1
     try clear hcz13_2
     try clear hcz13_3
     try clear hcz14_0
     try clear hcz14_1
     try clear hcz14_2
     try clear hcz14_3
     try clear hcz16_0
     try clear hcz16_1
     try clear hcz16_2
     try clear hcz16_3
     try clear hcz17_0
     try clear hcz17_1
     try clear hcz17_2
     try clear hcz17_3
     try clear hcz19_0
     try clear hcz19_1
     try clear hcz19_2
     try clear hcz19_3
     try clear hcz20_0
     try clear hcz20_1
     try clear hcz20_2
     try clear hcz20_3
     try clear hcz22_0
     try clear hcz22_1
     try clear hcz22_2
     try clear hcz22_3
     try clear hcz23_0
     try clear hcz23_1
     try clear hcz23_2
     try clear hcz23_3
     try clear hcz26_0
     try clear hcz26_1
     try clear hcz26_2
     try clear hcz26_3
     try clear hfz13_0
     try clear hfz13_1
     try clear hfz13_2
     try clear hfz13_3
     try clear hfz14_0
     try clear hfz14_1
     try clear hfz14_2
     try clear hfz14_3
     try clear hfz16_0
     try clear hfz16_1
     try clear hfz16_2
     try clear hfz16_3
     try clear hfz17_0
     try clear hfz17_1
     try clear hfz17_2
     try clear hfz17_3
     try clear hfz19_0
     try clear hfz19_1
     try clear hfz19_2
     try clear hfz19_3
     try clear hfz20_0
     try clear hfz20_1
     try clear hfz20_2
     try clear hfz20_3
     try clear hfz22_0
     try clear hfz22_1
     try clear hfz22_2
     try clear hfz22_3
     try clear hfz23_0
     try clear hfz23_1
     try clear hfz23_2
     try clear hfz23_3
     try clear hfz26_0
     try clear hfz26_1
     try clear hfz26_2
     try clear hfz26_3
     try clear p2
     obtain ⟨x41_2, rfl, HA, HK2, BK259, BK260, HB⟩ := hrel
     cases gk with
     | zero => exact absurd HA.out (by simp [spec_foSame.l0])
     | succ k2 =>
      have H := HA.out
      clear HA
      simp only [spec_foSame.l0] at H
      by_cases c27 : x41_2 < (l0_2.length : Int)
      ·rw [if_pos c27] at H
       have c27b0 : decide (x41_2 < (l0_2.length : Int)) = true := Z35 c27
       clear c27
       by_cases c28 : 0 ≤ x41_2
       ·rw [if_pos c28] at H
        have c28b0 : decide (0 ≤ x41_2) = true := Z35 c28
        clear c28
        by_cases c29 : x41_2 < (l0_2.length : Int)
        ·rw [if_pos c29] at H
         have c29b0 : decide (x41_2 < (l0_2.length : Int)) = true := Z35 c29
         clear c29
         by_cases c30 : x41_2 < (l1_2.length : Int)
         ·rw [if_pos c30] at H
          have c30b0 : decide (x41_2 < (l1_2.length : Int)) = true := Z35 c30
          clear c30
          by_cases c31 : ((rdOf false l0_2 x41_2) != (rdOf false l1_2 x41_2)) = true
          ·rw [if_pos c31] at H
           have c31b0 : ((rdOf false l0_2 x41_2) != (rdOf false l1_2 x41_2)) = true := c31
           (try (have c31b1 : decide ((rdOf false l0_2 x41_2) = (rdOf false l1_2 x41_2)) = false := by simpa using c31))
           (try (have c31b2 : ((rdOf false l0_2 x41_2) == (rdOf false l1_2 x41_2)) = false := by simpa using c31))
           (try (have c31b3 : ¬ ((rdOf false l0_2 x41_2) = (rdOf false l1_2 x41_2)) := by simpa using c31))
           clear c31
           obtain rfl := Option.some.inj H
           have p264 : 0 ≤ (x41_2 : Int) := Z27 Q1
           have q264 : x41_2 < (l0_2.length : Int) := Z27 Q1
           obtain ⟨ad264, e264, hx264_0⟩ := Kd.at_bool HR0_2.out x41_2 p264 q264
           cases e264
           try replace hx264_0 := (HB.out.cell (World.block_lt_of_cell? w _ hx264_0)).trans hx264_0
           replace p264 := eq_true p264
           replace q264 := eq_true q264
           have hnb32 := NB260_259.out
           have hnc32 := NB259_260.out
           have hz33 := Y4 BK260.out
           have p265 : 0 ≤ (x41_2 : Int) := Z27 Q1
           have q265 : x41_2 < (l1_2.length : Int) := Z27 Q1
           obtain ⟨ad265, e265, hx265_0⟩ := Kd.at_bool HR1_2.out x41_2 p265 q265
           cases e265
           try replace hx265_0 := (HB.out.cell (World.block_lt_of_cell? w _ hx265_0)).trans hx265_0
           replace p265 := eq_true p265
           replace q265 := eq_true q265
           go_wp2
           go_ret
           exact ⟨Q2, Q12⟩
          ·rw [if_neg c31] at H
           have c31b0 : ((rdOf false l0_2 x41_2) != (rdOf false l1_2 x41_2)) = false := by simpa using c31
           (try (have c31b1 : decide ((rdOf false l0_2 x41_2) = (rdOf false l1_2 x41_2)) = true := by simpa using c31))
           (try (have c31b2 : ((rdOf false l0_2 x41_2) == (rdOf false l1_2 x41_2)) = true := by simpa using c31))
           clear c31
           have H' := Ya H
           clear H
           have p264 : 0 ≤ (x41_2 : Int) := Z27 Q1
           have q264 : x41_2 < (l0_2.length : Int) := Z27 Q1
           obtain ⟨ad264, e264, hx264_0⟩ := Kd.at_bool HR0_2.out x41_2 p264 q264
           cases e264
           try replace hx264_0 := (HB.out.cell (World.block_lt_of_cell? w _ hx264_0)).trans hx264_0
           replace p264 := eq_true p264
           replace q264 := eq_true q264
           have hnb34 := NB260_259.out
           have hnc34 := NB259_260.out
           have hz35 := Y4 BK260.out
           have p265 : 0 ≤ (x41_2 : Int) := Z27 Q1
           have q265 : x41_2 < (l1_2.length : Int) := Z27 Q1
           obtain ⟨ad265, e265, hx265_0⟩ := Kd.at_bool HR1_2.out x41_2 p265 q265
           cases e265
           try replace hx265_0 := (HB.out.cell (World.block_lt_of_cell? w _ hx265_0)).trans hx265_0
           replace p265 := eq_true p265
           replace q265 := eq_true q265
           go_wp2
           go_roundg k2
           case measure => have := HJ2.out; have := HK2.out; omega
           case rel => exact ⟨(wrap64 (x41_2 + 1)), Q7, H', ⟨by have := HJ2.out; have := HK2.out; omega⟩, ⟨Q30⟩, ⟨Q29⟩, ⟨Q12⟩⟩
         ·rw [if_neg c30] at H
          exact absurd H (by simp)
        ·rw [if_neg c29] at H
         exact absurd H (by simp)
       ·rw [if_neg c28] at H
        exact absurd H (by simp)
      ·rw [if_neg c27] at H
       have c27b0 : decide (x41_2 < (l0_2.length : Int)) = false := Z34 c27
       clear c27
       obtain rfl := Option.some.inj H
       go_wp2
       go_ret
       exact ⟨Q2, Q12⟩
end Go.Proofs.Ytpfakdhfffehaaa.MFnExactSwapperRank
