import Derived.Test.YtpfakdhfffehaaaMFnExactStepFocusx0
import Derived.Test.YtpfakdhfffehaaaMFnExactStepFocusx1
import Derived.Test.YtpfakdhfffehaaaMFnExactStepFocusx3
import Derived.Test.YtpfakdhfffehaaaMFnExactStepFocusx4
namespace Go.Proofs.Ytpfakdhfffehaaa.MFnExactStepFocus
open Go.RowKit Go.Proofs.YtpfakdhfffehaaaW.PrintWords Go.Proofs.YtpfakdhfffehaaaW.PrintLast Go.Proofs.YtpfakdhfffehaaaW.PrintMore
attribute [local go_sem] max2_int min2_int max_two min_two max_three min_three max_four min_four   
set_option linter.unusedVariables false
set_option linter.unusedSimpArgs false
def spec_foAt.l0 : Nat → Int → List Int → List Int → List Bool → List Int → Option (List Int × List Int × List Bool × List Int × Bool)
 | 0, _, _, _, _, _ => none
 | k + 1, x1, x170000, x170001, x170002, x170003 => if x1 > 0 then ((spec_foStep.f x170000 x170001 x170002 x170003).bind fun bt170 => (if bt170.2.2.2.2 < 0 then (some (([] : List Int), ([] : List Int), ([] : List Bool), ([] : List Int), false)) else (spec_foAt.l0 k (wrap64 (x1 - 1)) bt170.1 bt170.2.1 bt170.2.2.1 bt170.2.2.2.1))) else (some (x170000, x170001, x170002, x170003, true))
def spec_foAt.f (k : Nat) (l0 : List Int) (a1 : Int) : Option (List Int × List Int × List Bool × List Int × Bool) := (spec_foStart.f k l0).bind fun bt157 => (spec_foAt.l0 k a1 bt157.1 bt157.2.1 bt157.2.2.1 bt157.2.2.2)
theorem spec_foAt.mono_l : ∀ k, (∀ y0 y1 y2 y3 y4, LeO (spec_foAt.l0 k y0 y1 y2 y3 y4) (spec_foAt.l0 (k + 1) y0 y1 y2 y3 y4))
 | 0 => fun _ _ _ _ _ r h => by simp [spec_foAt.l0] at h
 | k + 1 => by
  have ih0 := spec_foAt.mono_l k
  ·intro y0 y1 y2 y3 y4
   unfold spec_foAt.l0
   repeat' first
   | (with_reducible exact ih0 _ _ _ _ _)
   | (with_reducible exact spec_foStart.mono _ _)
   | (with_reducible exact LeO.refl _)
   | (with_reducible exact LeO.none _)
   | (with_reducible refine LeO.ite ?_ ?_)
   | (with_reducible refine LeO.bind ?_ (fun _ => ?_))
   | exact ih0 _ _ _ _ _
   | exact spec_foStart.mono _ _
   | exact LeO.none _
   | refine LeO.ite ?_ ?_
   | refine LeO.bind ?_ (fun _ => ?_)
theorem spec_foAt.mono : ∀ a0 a1 k, LeO (spec_foAt.f k a0 a1) (spec_foAt.f (k + 1) a0 a1) := by
 intro a0 a1 k
 have ih0 := spec_foAt.mono_l k
 unfold spec_foAt.f
 repeat' first
   | (with_reducible exact ih0 _ _ _ _ _)
   | (with_reducible exact spec_foStart.mono _ _)
   | (with_reducible exact LeO.refl _)
   | (with_reducible exact LeO.none _)
   | (with_reducible refine LeO.ite ?_ ?_)
   | (with_reducible refine LeO.bind ?_ (fun _ => ?_))
   | exact ih0 _ _ _ _ _
   | exact spec_foStart.mono _ _
   | exact LeO.none _
   | refine LeO.ite ?_ ?_
   | refine LeO.bind ?_ (fun _ => ?_)
set_option maxHeartbeats 8000000 in
set_option maxRecDepth 100000 in
theorem spec_foAt.calls (k : Nat) (A0 : Option Addr) (c0 : Nat) (l0 : List Int) (a1 : Int) (r1 : List Int) (r2 : List Int) (r3 : List Bool) (r4 : List Int) (r5 : Bool) (w : World) (hr0 : Kd.C (Kd.int .i64) w A0 l0.length l0) (hc0 : l0.length ≤ c0) (h : spec_foAt.f k l0 a1 = some (r1, r2, r3, r4, r5)) :
  Calls Try.prog 60 #[.slice A0 l0.length c0, .int .i64 a1] w fun e w' => ∃ v0_ v1_ v2_ v3_ : Value, e = .returned (.tuple #[.agg #[v0_, v1_, v2_, v3_], .bool r5]) ∧ Kd.R (Kd.int .i64) 3 w' w.heap.size (fun k_ => some k_ ≠ (v1_ : Value).ownBlock ∧ some k_ ≠ (v3_ : Value).ownBlock) v0_ r1 ∧ Kd.R (Kd.int .i64) 3 w' w.heap.size (fun k_ => some k_ ≠ (v0_ : Value).ownBlock ∧ some k_ ≠ (v3_ : Value).ownBlock) v1_ r2 ∧ Kd.R Kd.bool 4 w' w.heap.size (fun _ => True) v2_ r3 ∧ Kd.R (Kd.int .i64) 3 w' w.heap.size (fun k_ => some k_ ≠ (v0_ : Value).ownBlock ∧ some k_ ≠ (v1_ : Value).ownBlock) v3_ r4 ∧ Below w.heap.size w w' := by
 have hu27 := Try.underlying27
 have HR0 := Ya hr0
 have HC0 := Ya hc0
 clear hr0 hc0
 have HB := Ya (Below.refl w.heap.size w)
 have H : ((spec_foStart.f k l0).bind fun bt157 => (spec_foAt.l0 k a1 bt157.1 bt157.2.1 bt157.2.2.1 bt157.2.2.2)) = some (r1, r2, r3, r4, r5) := h
 clear h
 replace H := Z36.mp H
 obtain ⟨⟨t157, t160, t163, t166⟩, A30, H⟩ := H
 replace H : (spec_foAt.l0 k a1 t157 t160 t163 t166) = some (r1, r2, r3, r4, r5) := H
 have A3 := Ya A30
 clear A30
 have H' := Ya H
 clear H
 go_enter Try.func60, Try.ntmps60
 go_wp2_with (first | ((with_reducible refine gate_dst (N := 4) rfl ?_); refine Yx 4 #[.slice none 0 0, .slice none 0 0, .slice none 0 0, .slice none 0 0] 27 ?_; intro gb156 hg w4 hbox hb; have BK156 := Ya hbox; have GE156 := Yg hg; replace HB := Yh hb; clear hb hbox hg) | ((with_reducible refine gate_callee (f := 78) rfl ?_); refine Yz 10 Try.func78 #[.slice A0 l0.length c0] ?_; (with_reducible refine (spec_foStart.calls k _ _ l0 t157 t160 t163 t166 _ (Yc (Z22 HR0.out HB.out)) HC0.out A3.out).mono ?_); rintro e w5 ⟨v158, v161, v164, v167, rfl, ho0, ho1, ho2, ho3, hb⟩; refine ⟨_, rfl, ?_⟩; have HO159 := Yl ho0; have HO162 := Yl ho1; have HO165 := Yl ho2; have HO168 := Yl ho3; replace BK156 := Yb BK156 hb; replace HB := Yh hb; (try clear hb ho0 ho1 ho2 ho3)) | ((with_reducible refine gate_dst (N := 6) rfl ?_); refine Yx 6 #[.slice none 0 0, .slice none 0 0, .slice none 0 0, .slice none 0 0] 27 ?_; intro gb169 hg w6 hbox hb; replace HO159 := Yw HO159 hb; replace HO162 := Yw HO162 hb; replace HO165 := Yw HO165 hb; replace HO168 := Yw HO168 hb; have BK169 := Ya hbox; have GE169 := Yg hg; replace HB := Yh hb; have NB156_169 := Yn BK156 hg; have NB169_156 := Ym BK156 hg; replace BK156 := Yb BK156 hb; clear hb hbox hg; obtain ⟨Ao7, co7, rfl⟩ := Z18 HO159.out; have hnb8 := NB169_156.out; have hnc8 := NB156_169.out; obtain ⟨hcz9_0, hcz9_1, hcz9_2, hcz9_3, hfz9_0, hfz9_1, hfz9_2, hfz9_3⟩ := Y4 BK169.out; obtain ⟨Ao10, co10, rfl⟩ := Z18 HO162.out; obtain ⟨Ao11, co11, rfl⟩ := Z18 HO165.out; obtain ⟨Ao12, co12, rfl⟩ := Z18 HO168.out))
 go_loopg [1] k (fun kq v1 w' => ∃ (x1_1 : Int) (x170000_1 : List Int) (x170001_1 : List Int) (x170002_1 : List Bool) (x170003_1 : List Int) (u170000 : Value) (u170001 : Value) (u170002 : Value) (u170003 : Value), v1 = .int .i64 x1_1 ∧ Aside0 (spec_foAt.l0 kq x1_1 x170000_1 x170001_1 x170002_1 x170003_1 = some (r1, r2, r3, r4, r5)) ∧ Aside0 (kq ≤ k) ∧ Aside0 (Kd.R (Kd.int .i64) 3 w' w.heap.size (fun k_ => some k_ ≠ (u170001 : Value).ownBlock ∧ some k_ ≠ (u170003 : Value).ownBlock) u170000 x170000_1) ∧ Aside0 (Kd.R (Kd.int .i64) 3 w' w.heap.size (fun k_ => some k_ ≠ (u170000 : Value).ownBlock ∧ some k_ ≠ (u170003 : Value).ownBlock) u170001 x170001_1) ∧ Aside0 (Kd.R Kd.bool 4 w' w.heap.size (fun _ => True) u170002 x170002_1) ∧ Aside0 (Kd.R (Kd.int .i64) 3 w' w.heap.size (fun k_ => some k_ ≠ (u170000 : Value).ownBlock ∧ some k_ ≠ (u170001 : Value).ownBlock) u170003 x170003_1) ∧ Aside0 (w'.heap[gb156]? = some (.cells #[(.slice none 0 0), (.slice none 0 0), (.slice none 0 0), (.slice none 0 0)] 27 (0, 0))) ∧ Aside0 (w'.heap[gb169]? = some (.cells #[u170000, u170001, u170002, u170003] 27 (0, 0))) ∧ Aside0 (Below w.heap.size w w'))
 case atStart => exact ⟨(a1), (t157), (t160), (t163), (t166), (.slice Ao7 t157.length co7), (.slice Ao10 t160.length co10), (.slice Ao11 t163.length co11), (.slice Ao12 t166.length co12), Q7, H', ⟨Nat.le_refl _⟩, ⟨by (with_reducible repeat (first | apply Z8 | apply Z9 | apply Z10)); exact Z11 (Yf4 HO159.out BK169.out) (fun _ hk => ⟨hk.1.1, hk.1.2⟩)⟩, ⟨by (with_reducible repeat (first | apply Z8 | apply Z9 | apply Z10)); exact Z11 (Yf4 HO162.out BK169.out) (fun _ hk => ⟨hk.1.1, hk.1.2⟩)⟩, ⟨by (with_reducible repeat (first | apply Z8 | apply Z9 | apply Z10)); exact Z11 (Yf4 HO165.out BK169.out) (fun _ hk => trivial)⟩, ⟨by (with_reducible repeat (first | apply Z8 | apply Z9 | apply Z10)); exact Z11 (Yf4 HO168.out BK169.out) (fun _ hk => ⟨hk.1.1, hk.1.2⟩)⟩, ⟨by (with_reducible repeat (first | refine Z25 ?_ _ | refine Z26 ?_ | refine Z27 ?_ _)); refine blk_far ?_ NB156_169.out _; (with_reducible repeat (first | refine Z25 ?_ _ | refine Z26 ?_ | refine Z27 ?_ _)); refine blk_far ?_ NB156_169.out _; (with_reducible repeat (first | refine Z25 ?_ _ | refine Z26 ?_ | refine Z27 ?_ _)); refine blk_far ?_ NB156_169.out _; (with_reducible repeat (first | refine Z25 ?_ _ | refine Z26 ?_ | refine Z27 ?_ _)); refine blk_far ?_ NB156_169.out _; (with_reducible repeat (first | refine Z25 ?_ _ | refine Z26 ?_ | refine Z27 ?_ _)); exact BK156.out⟩, ⟨by (with_reducible repeat (first | refine Z25 ?_ _ | refine Z26 ?_ | refine Z27 ?_ _)); refine Z29 (cs := #[.slice Ao7 t157.length co7, .slice Ao10 t160.length co10, .slice Ao11 t163.length co11, .slice none 0 0]) ?_ 3 _ rfl; (with_reducible repeat (first | refine Z25 ?_ _ | refine Z26 ?_ | refine Z27 ?_ _)); refine Z29 (cs := #[.slice Ao7 t157.length co7, .slice Ao10 t160.length co10, .slice none 0 0, .slice none 0 0]) ?_ 2 _ rfl; (with_reducible repeat (first | refine Z25 ?_ _ | refine Z26 ?_ | refine Z27 ?_ _)); refine Z29 (cs := #[.slice Ao7 t157.length co7, .slice none 0 0, .slice none 0 0, .slice none 0 0]) ?_ 1 _ rfl; (with_reducible repeat (first | refine Z25 ?_ _ | refine Z26 ?_ | refine Z27 ?_ _)); refine Z29 (cs := #[.slice none 0 0, .slice none 0 0, .slice none 0 0, .slice none 0 0]) ?_ 0 _ rfl; (with_reducible repeat (first | refine Z25 ?_ _ | refine Z26 ?_ | refine Z27 ?_ _)); exact BK169.out⟩, ⟨Q12⟩⟩
 case round =>
  clear H'
  try clear p2
  try clear c6
  try clear c7
  try clear c8
  try clear hcz9_0
  try clear hcz9_1
  try clear hcz9_2
  try clear hcz9_3
  try clear hfz9_0
  try clear hfz9_1
  try clear hfz9_2
  try clear hfz9_3
  obtain ⟨x1_1, x170000_1, x170001_1, x170002_1, x170003_1, u170000, u170001, u170002, u170003, rfl, HA, HK1, HO_170000, HO_170001, HO_170002, HO_170003, BK156, BK169, HB⟩ := hrel
  cases gk with
  | zero => exact absurd HA.out (by simp [spec_foAt.l0])
  | succ k1 =>
   have H := HA.out
   clear HA
   simp only [spec_foAt.l0] at H
   by_cases c13 : x1_1 > 0
   ·rw [if_pos c13] at H
    have c13b0 : decide (0 < x1_1) = true := Z38 c13
    clear c13
    replace H := Z36.mp H
    obtain ⟨⟨t170, t173, t176, t179, t182⟩, A140, H⟩ := H
    replace H : (if t182 < 0 then (some (([] : List Int), ([] : List Int), ([] : List Bool), ([] : List Int), false)) else (spec_foAt.l0 k1 (wrap64 (x1_1 - 1)) t170 t173 t176 t179)) = some (r1, r2, r3, r4, r5) := H
    have A14 := Ya A140
    clear A140
    by_cases c15 : t182 < 0
    ·rw [if_pos c15] at H
     have c15b0 : decide (t182 < 0) = true := Z38 c15
     clear c15
     simp only [Option.some.injEq, Prod.mk.injEq] at H
     obtain ⟨rfl, rfl, rfl, rfl, rfl⟩ := H
     have hnb16 := NB169_156.out
     have hnc16 := NB156_169.out
     have hz17 := Y4 BK169.out
     obtain ⟨Ao18, co18, rfl⟩ := Z18 HO_170000.out
     obtain ⟨Ao19, co19, rfl⟩ := Z18 HO_170001.out
     obtain ⟨Ao20, co20, rfl⟩ := Z18 HO_170002.out
     obtain ⟨Ao21, co21, rfl⟩ := Z18 HO_170003.out
     go_wp2_with (first | ((with_reducible refine gate_callee (f := 31) rfl ?_); refine Yz 17 Try.func31 #[.agg #[.slice Ao18 x170000_1.length co18, .slice Ao19 x170001_1.length co19, .slice Ao20 x170002_1.length co20, .slice Ao21 x170003_1.length co21]] ?_; (with_reducible refine (spec_foStep.calls _ _ x170000_1 _ _ x170001_1 _ _ x170002_1 _ _ x170003_1 t170 t173 t176 t179 t182 _ (Yc (Kd.R_reads' HO_170000.out).2.2) ((Kd.R_reads' HO_170000.out).2.1) (Yc (Kd.R_reads' HO_170001.out).2.2) ((Kd.R_reads' HO_170001.out).2.1) (Yc (Kd.R_reads' HO_170002.out).2.2) ((Kd.R_reads' HO_170002.out).2.1) (Yc (Kd.R_reads' HO_170003.out).2.2) ((Kd.R_reads' HO_170003.out).2.1) A14.out).mono ?_); rintro e w22 ⟨v171, v174, v177, v180, rfl, ho0, ho1, ho2, ho3, hb⟩; refine ⟨_, rfl, ?_⟩; have HO172 := Yl (Kd.R_new' (Kd.R_new' (Kd.R_new' ho0 (Z17 (Yr HO_170000.out))) (Z17 (Yr HO_170001.out))) (Z17 (Yr HO_170003.out))); have HO175 := Yl (Kd.R_new' (Kd.R_new' (Kd.R_new' ho1 (Z17 (Yr HO_170000.out))) (Z17 (Yr HO_170001.out))) (Z17 (Yr HO_170003.out))); have HO178 := Yl (Kd.R_new' ho2 (Z17 (Yr HO_170002.out))); replace HO_170002 := Ya (Kd.R_elder' (Yr HO_170002.out) (Kd.R_base ho2) hb); have HO181 := Yl (Kd.R_new' (Kd.R_new' (Kd.R_new' ho3 (Z17 (Yr HO_170000.out))) (Z17 (Yr HO_170001.out))) (Z17 (Yr HO_170003.out))); replace HO_170000 := Ya (Z11 (Z15 (Z15 (Z15 (Z16 (Yr HO_170000.out) hb) (Kd.R_base ho0)) (Kd.R_base ho1)) (Kd.R_base ho3)) (fun _ h_ => h_.1)); replace HO_170001 := Ya (Z11 (Z15 (Z15 (Z15 (Z16 (Yr HO_170001.out) hb) (Kd.R_base ho0)) (Kd.R_base ho1)) (Kd.R_base ho3)) (fun _ h_ => h_.1)); replace HO_170003 := Ya (Z11 (Z15 (Z15 (Z15 (Z16 (Yr HO_170003.out) hb) (Kd.R_base ho0)) (Kd.R_base ho1)) (Kd.R_base ho3)) (fun _ h_ => h_.1)); replace BK156 := Yb BK156 hb; replace BK169 := Yb BK169 hb; replace HB := Yh hb; (try clear hb ho0 ho1 ho2 ho3)) | ((with_reducible refine gate_dst (N := 7) rfl ?_); refine Yx 7 #[.slice none 0 0, .slice none 0 0, .slice none 0 0, .slice none 0 0] 27 ?_; intro gb183 hg w23 hbox hb; replace HO_170000 := Yw HO_170000 hb; replace HO_170001 := Yw HO_170001 hb; replace HO_170002 := Yw HO_170002 hb; replace HO_170003 := Yw HO_170003 hb; replace HO172 := Yw HO172 hb; replace HO175 := Yw HO175 hb; replace HO178 := Yw HO178 hb; replace HO181 := Yw HO181 hb; have BK183 := Ya hbox; have GE183 := Yg hg; replace HB := Yh hb; have NB156_183 := Yn BK156 hg; have NB183_156 := Ym BK156 hg; replace BK156 := Yb BK156 hb; have NB169_183 := Yn BK169 hg; have NB183_169 := Ym BK169 hg; replace BK169 := Yb BK169 hb; clear hb hbox hg; obtain ⟨Ao24, co24, rfl⟩ := Z18 HO172.out; have hnb25 := NB183_156.out; have hnc25 := NB156_183.out; have hnb26 := NB183_169.out; have hnc26 := NB169_183.out; have hz27 := Y4 BK183.out; obtain ⟨Ao28, co28, rfl⟩ := Z18 HO175.out; obtain ⟨Ao29, co29, rfl⟩ := Z18 HO178.out; obtain ⟨Ao30, co30, rfl⟩ := Z18 HO181.out; have hz31 := Y4 BK156.out))
     refine bodyPost_ret (results_ct rfl _ _ gb156 27 #[.slice none 0 0, .slice none 0 0, .slice none 0 0, .slice none 0 0] (0, 0) _ rfl (by (with_reducible repeat (first | refine Z25 ?_ _ | refine Z26 ?_ | refine Z27 ?_ _)); refine Z29 (cs := #[.slice none 0 0, .slice none 0 0, .slice none 0 0, .slice none 0 0]) ?_ 3 _ rfl; (with_reducible repeat (first | refine Z25 ?_ _ | refine Z26 ?_ | refine Z27 ?_ _)); refine Z29 (cs := #[.slice none 0 0, .slice none 0 0, .slice none 0 0, .slice none 0 0]) ?_ 2 _ rfl; (with_reducible repeat (first | refine Z25 ?_ _ | refine Z26 ?_ | refine Z27 ?_ _)); refine Z29 (cs := #[.slice none 0 0, .slice none 0 0, .slice none 0 0, .slice none 0 0]) ?_ 1 _ rfl; (with_reducible repeat (first | refine Z25 ?_ _ | refine Z26 ?_ | refine Z27 ?_ _)); refine Z29 (cs := #[.slice none 0 0, .slice none 0 0, .slice none 0 0, .slice none 0 0]) ?_ 0 _ rfl; (with_reducible repeat (first | refine Z25 ?_ _ | refine Z26 ?_ | refine Z27 ?_ _)); refine blk_far ?_ NB156_183.out _; (with_reducible repeat (first | refine Z25 ?_ _ | refine Z26 ?_ | refine Z27 ?_ _)); refine blk_far ?_ NB156_183.out _; (with_reducible repeat (first | refine Z25 ?_ _ | refine Z26 ?_ | refine Z27 ?_ _)); refine blk_far ?_ NB156_183.out _; (with_reducible repeat (first | refine Z25 ?_ _ | refine Z26 ?_ | refine Z27 ?_ _)); refine blk_far ?_ NB156_183.out _; (with_reducible repeat (first | refine Z25 ?_ _ | refine Z26 ?_ | refine Z27 ?_ _)); exact BK156.out) Try.underlying27 rfl (by kernel_rfl)) rfl ?_
     exact ⟨_, _, _, _, Q2, Q8, Q8, Q8, Q8, Q12⟩
    ·rw [if_neg c15] at H
     have c15b0 : decide (t182 < 0) = false := Z37 c15
     clear c15
     have H' := Ya H
     clear H
     have hnb32 := NB169_156.out
     have hnc32 := NB156_169.out
     have hz33 := Y4 BK169.out
     obtain ⟨Ao34, co34, rfl⟩ := Z18 HO_170000.out
     obtain ⟨Ao35, co35, rfl⟩ := Z18 HO_170001.out
     obtain ⟨Ao36, co36, rfl⟩ := Z18 HO_170002.out
     obtain ⟨Ao37, co37, rfl⟩ := Z18 HO_170003.out
     go_wp2_with (first | ((with_reducible refine gate_callee (f := 31) rfl ?_); refine Yz 17 Try.func31 #[.agg #[.slice Ao34 x170000_1.length co34, .slice Ao35 x170001_1.length co35, .slice Ao36 x170002_1.length co36, .slice Ao37 x170003_1.length co37]] ?_; (with_reducible refine (spec_foStep.calls _ _ x170000_1 _ _ x170001_1 _ _ x170002_1 _ _ x170003_1 t170 t173 t176 t179 t182 _ (Yc (Kd.R_reads' HO_170000.out).2.2) ((Kd.R_reads' HO_170000.out).2.1) (Yc (Kd.R_reads' HO_170001.out).2.2) ((Kd.R_reads' HO_170001.out).2.1) (Yc (Kd.R_reads' HO_170002.out).2.2) ((Kd.R_reads' HO_170002.out).2.1) (Yc (Kd.R_reads' HO_170003.out).2.2) ((Kd.R_reads' HO_170003.out).2.1) A14.out).mono ?_); rintro e w38 ⟨v171, v174, v177, v180, rfl, ho0, ho1, ho2, ho3, hb⟩; refine ⟨_, rfl, ?_⟩; have HO172 := Yl (Kd.R_new' (Kd.R_new' (Kd.R_new' ho0 (Z17 (Yr HO_170000.out))) (Z17 (Yr HO_170001.out))) (Z17 (Yr HO_170003.out))); have HO175 := Yl (Kd.R_new' (Kd.R_new' (Kd.R_new' ho1 (Z17 (Yr HO_170000.out))) (Z17 (Yr HO_170001.out))) (Z17 (Yr HO_170003.out))); have HO178 := Yl (Kd.R_new' ho2 (Z17 (Yr HO_170002.out))); replace HO_170002 := Ya (Kd.R_elder' (Yr HO_170002.out) (Kd.R_base ho2) hb); have HO181 := Yl (Kd.R_new' (Kd.R_new' (Kd.R_new' ho3 (Z17 (Yr HO_170000.out))) (Z17 (Yr HO_170001.out))) (Z17 (Yr HO_170003.out))); replace HO_170000 := Ya (Z11 (Z15 (Z15 (Z15 (Z16 (Yr HO_170000.out) hb) (Kd.R_base ho0)) (Kd.R_base ho1)) (Kd.R_base ho3)) (fun _ h_ => h_.1)); replace HO_170001 := Ya (Z11 (Z15 (Z15 (Z15 (Z16 (Yr HO_170001.out) hb) (Kd.R_base ho0)) (Kd.R_base ho1)) (Kd.R_base ho3)) (fun _ h_ => h_.1)); replace HO_170003 := Ya (Z11 (Z15 (Z15 (Z15 (Z16 (Yr HO_170003.out) hb) (Kd.R_base ho0)) (Kd.R_base ho1)) (Kd.R_base ho3)) (fun _ h_ => h_.1)); replace BK156 := Yb BK156 hb; replace BK169 := Yb BK169 hb; replace HB := Yh hb; (try clear hb ho0 ho1 ho2 ho3)) | ((with_reducible refine gate_dst (N := 7) rfl ?_); refine Yx 7 #[.slice none 0 0, .slice none 0 0, .slice none 0 0, .slice none 0 0] 27 ?_; intro gb183 hg w39 hbox hb; replace HO_170000 := Yw HO_170000 hb; replace HO_170001 := Yw HO_170001 hb; replace HO_170002 := Yw HO_170002 hb; replace HO_170003 := Yw HO_170003 hb; replace HO172 := Yw HO172 hb; replace HO175 := Yw HO175 hb; replace HO178 := Yw HO178 hb; replace HO181 := Yw HO181 hb; have BK183 := Ya hbox; have GE183 := Yg hg; replace HB := Yh hb; have NB156_183 := Yn BK156 hg; have NB183_156 := Ym BK156 hg; replace BK156 := Yb BK156 hb; have NB169_183 := Yn BK169 hg; have NB183_169 := Ym BK169 hg; replace BK169 := Yb BK169 hb; clear hb hbox hg; obtain ⟨Ao40, co40, rfl⟩ := Z18 HO172.out; have hnb41 := NB183_156.out; have hnc41 := NB156_183.out; have hnb42 := NB183_169.out; have hnc42 := NB169_183.out; have hz43 := Y4 BK183.out; obtain ⟨Ao44, co44, rfl⟩ := Z18 HO175.out; obtain ⟨Ao45, co45, rfl⟩ := Z18 HO178.out; obtain ⟨Ao46, co46, rfl⟩ := Z18 HO181.out; have hz47 := Y4 BK169.out))
     go_roundg k1
     case measure => have := HK1.out; omega
     case rel => exact ⟨(wrap64 (x1_1 - 1)), (t170), (t173), (t176), (t179), (.slice Ao40 t170.length co40), (.slice Ao44 t173.length co44), (.slice Ao45 t176.length co45), (.slice Ao46 t179.length co46), Q7, H', ⟨Q80⟩, ⟨by (with_reducible repeat (first | apply Z8 | apply Z9 | apply Z10)); exact Z11 (Z12 (p := ⟨gb169, 3, none⟩) (Z12 (p := ⟨gb169, 2, none⟩) (Z12 (p := ⟨gb169, 1, none⟩) (Z12 (p := ⟨gb169, 0, none⟩) (Z12 (p := ⟨gb183, 3, none⟩) (Z12 (p := ⟨gb183, 2, none⟩) (Z12 (p := ⟨gb183, 1, none⟩) (Z12 (p := ⟨gb183, 0, none⟩) (Z14 (Z14 HO172.out BK183.out (by decide)) BK169.out (by decide)) (fun _ hk => hk.1.2) (.slice Ao40 t170.length co40)) (fun _ hk => hk.1.2) (.slice Ao44 t173.length co44)) (fun _ hk => hk.1.2) (.slice Ao45 t176.length co45)) (fun _ hk => hk.1.2) (.slice Ao46 t179.length co46)) (fun _ hk => hk.2) (.slice Ao40 t170.length co40)) (fun _ hk => hk.2) (.slice Ao44 t173.length co44)) (fun _ hk => hk.2) (.slice Ao45 t176.length co45)) (fun _ hk => hk.2) (.slice Ao46 t179.length co46)) (fun _ hk => ⟨hk.1.1.1.1.1.1, hk.1.1.1.1.1.2⟩)⟩, ⟨by (with_reducible repeat (first | apply Z8 | apply Z9 | apply Z10)); exact Z11 (Z12 (p := ⟨gb169, 3, none⟩) (Z12 (p := ⟨gb169, 2, none⟩) (Z12 (p := ⟨gb169, 1, none⟩) (Z12 (p := ⟨gb169, 0, none⟩) (Z12 (p := ⟨gb183, 3, none⟩) (Z12 (p := ⟨gb183, 2, none⟩) (Z12 (p := ⟨gb183, 1, none⟩) (Z12 (p := ⟨gb183, 0, none⟩) (Z14 (Z14 HO175.out BK183.out (by decide)) BK169.out (by decide)) (fun _ hk => hk.1.2) (.slice Ao40 t170.length co40)) (fun _ hk => hk.1.2) (.slice Ao44 t173.length co44)) (fun _ hk => hk.1.2) (.slice Ao45 t176.length co45)) (fun _ hk => hk.1.2) (.slice Ao46 t179.length co46)) (fun _ hk => hk.2) (.slice Ao40 t170.length co40)) (fun _ hk => hk.2) (.slice Ao44 t173.length co44)) (fun _ hk => hk.2) (.slice Ao45 t176.length co45)) (fun _ hk => hk.2) (.slice Ao46 t179.length co46)) (fun _ hk => ⟨hk.1.1.1.1.1.1, hk.1.1.1.1.1.2⟩)⟩, ⟨by (with_reducible repeat (first | apply Z8 | apply Z9 | apply Z10)); exact Z11 (Z12 (p := ⟨gb169, 3, none⟩) (Z12 (p := ⟨gb169, 2, none⟩) (Z12 (p := ⟨gb169, 1, none⟩) (Z12 (p := ⟨gb169, 0, none⟩) (Z12 (p := ⟨gb183, 3, none⟩) (Z12 (p := ⟨gb183, 2, none⟩) (Z12 (p := ⟨gb183, 1, none⟩) (Z12 (p := ⟨gb183, 0, none⟩) (Z14 (Z14 HO178.out BK183.out (by decide)) BK169.out (by decide)) (fun _ hk => hk.1.2) (.slice Ao40 t170.length co40)) (fun _ hk => hk.1.2) (.slice Ao44 t173.length co44)) (fun _ hk => hk.1.2) (.slice Ao45 t176.length co45)) (fun _ hk => hk.1.2) (.slice Ao46 t179.length co46)) (fun _ hk => hk.2) (.slice Ao40 t170.length co40)) (fun _ hk => hk.2) (.slice Ao44 t173.length co44)) (fun _ hk => hk.2) (.slice Ao45 t176.length co45)) (fun _ hk => hk.2) (.slice Ao46 t179.length co46)) (fun _ hk => trivial)⟩, ⟨by (with_reducible repeat (first | apply Z8 | apply Z9 | apply Z10)); exact Z11 (Z12 (p := ⟨gb169, 3, none⟩) (Z12 (p := ⟨gb169, 2, none⟩) (Z12 (p := ⟨gb169, 1, none⟩) (Z12 (p := ⟨gb169, 0, none⟩) (Z12 (p := ⟨gb183, 3, none⟩) (Z12 (p := ⟨gb183, 2, none⟩) (Z12 (p := ⟨gb183, 1, none⟩) (Z12 (p := ⟨gb183, 0, none⟩) (Z14 (Z14 HO181.out BK183.out (by decide)) BK169.out (by decide)) (fun _ hk => hk.1.2) (.slice Ao40 t170.length co40)) (fun _ hk => hk.1.2) (.slice Ao44 t173.length co44)) (fun _ hk => hk.1.2) (.slice Ao45 t176.length co45)) (fun _ hk => hk.1.2) (.slice Ao46 t179.length co46)) (fun _ hk => hk.2) (.slice Ao40 t170.length co40)) (fun _ hk => hk.2) (.slice Ao44 t173.length co44)) (fun _ hk => hk.2) (.slice Ao45 t176.length co45)) (fun _ hk => hk.2) (.slice Ao46 t179.length co46)) (fun _ hk => ⟨hk.1.1.1.1.1.1, hk.1.1.1.1.1.2⟩)⟩, ⟨by (with_reducible repeat (first | refine Z25 ?_ _ | refine Z26 ?_ | refine Z27 ?_ _)); refine blk_far ?_ NB156_169.out _; (with_reducible repeat (first | refine Z25 ?_ _ | refine Z26 ?_ | refine Z27 ?_ _)); refine blk_far ?_ NB156_169.out _; (with_reducible repeat (first | refine Z25 ?_ _ | refine Z26 ?_ | refine Z27 ?_ _)); refine blk_far ?_ NB156_169.out _; (with_reducible repeat (first | refine Z25 ?_ _ | refine Z26 ?_ | refine Z27 ?_ _)); refine blk_far ?_ NB156_169.out _; (with_reducible repeat (first | refine Z25 ?_ _ | refine Z26 ?_ | refine Z27 ?_ _)); refine blk_far ?_ NB156_183.out _; (with_reducible repeat (first | refine Z25 ?_ _ | refine Z26 ?_ | refine Z27 ?_ _)); refine blk_far ?_ NB156_183.out _; (with_reducible repeat (first | refine Z25 ?_ _ | refine Z26 ?_ | refine Z27 ?_ _)); refine blk_far ?_ NB156_183.out _; (with_reducible repeat (first | refine Z25 ?_ _ | refine Z26 ?_ | refine Z27 ?_ _)); refine blk_far ?_ NB156_183.out _; (with_reducible repeat (first | refine Z25 ?_ _ | refine Z26 ?_ | refine Z27 ?_ _)); exact BK156.out⟩, ⟨by (with_reducible repeat (first | refine Z25 ?_ _ | refine Z26 ?_ | refine Z27 ?_ _)); refine Z29 (cs := #[.slice Ao40 t170.length co40, .slice Ao44 t173.length co44, .slice Ao45 t176.length co45, .slice Ao37 x170003_1.length co37]) ?_ 3 _ rfl; (with_reducible repeat (first | refine Z25 ?_ _ | refine Z26 ?_ | refine Z27 ?_ _)); refine Z29 (cs := #[.slice Ao40 t170.length co40, .slice Ao44 t173.length co44, .slice Ao36 x170002_1.length co36, .slice Ao37 x170003_1.length co37]) ?_ 2 _ rfl; (with_reducible repeat (first | refine Z25 ?_ _ | refine Z26 ?_ | refine Z27 ?_ _)); refine Z29 (cs := #[.slice Ao40 t170.length co40, .slice Ao35 x170001_1.length co35, .slice Ao36 x170002_1.length co36, .slice Ao37 x170003_1.length co37]) ?_ 1 _ rfl; (with_reducible repeat (first | refine Z25 ?_ _ | refine Z26 ?_ | refine Z27 ?_ _)); refine Z29 (cs := #[.slice Ao34 x170000_1.length co34, .slice Ao35 x170001_1.length co35, .slice Ao36 x170002_1.length co36, .slice Ao37 x170003_1.length co37]) ?_ 0 _ rfl; (with_reducible repeat (first | refine Z25 ?_ _ | refine Z26 ?_ | refine Z27 ?_ _)); refine blk_far ?_ NB169_183.out _; (with_reducible repeat (first | refine Z25 ?_ _ | refine Z26 ?_ | refine Z27 ?_ _)); refine blk_far ?_ NB169_183.out _; (with_reducible repeat (first | refine Z25 ?_ _ | refine Z26 ?_ | refine Z27 ?_ _)); refine blk_far ?_ NB169_183.out _; (with_reducible repeat (first | refine Z25 ?_ _ | refine Z26 ?_ | refine Z27 ?_ _)); refine blk_far ?_ NB169_183.out _; (with_reducible repeat (first | refine Z25 ?_ _ | refine Z26 ?_ | refine Z27 ?_ _)); exact BK169.out⟩, ⟨Q12⟩⟩
   ·rw [if_neg c13] at H
    have c13b0 : decide (0 < x1_1) = false := Z37 c13
    clear c13
    simp only [Option.some.injEq, Prod.mk.injEq] at H
    obtain ⟨rfl, rfl, rfl, rfl, rfl⟩ := H
    have hnb48 := NB169_156.out
    have hnc48 := NB156_169.out
    have hz49 := Y4 BK169.out
    obtain ⟨Ao50, co50, rfl⟩ := Z18 HO_170000.out
    have hz51 := Y4 BK156.out
    obtain ⟨Ao52, co52, rfl⟩ := Z18 HO_170001.out
    obtain ⟨Ao53, co53, rfl⟩ := Z18 HO_170002.out
    obtain ⟨Ao54, co54, rfl⟩ := Z18 HO_170003.out
    go_wp2
    refine bodyPost_ret (results_ct rfl _ _ gb156 27 #[.slice Ao50 x170000_1.length co50, .slice Ao52 x170001_1.length co52, .slice Ao53 x170002_1.length co53, .slice Ao54 x170003_1.length co54] (0, 0) _ rfl (Yk (Yv4 BK156.out)) Try.underlying27 rfl (by kernel_rfl)) rfl ?_
    exact ⟨_, _, _, _, Q2, by (with_reducible repeat (first | apply Z8 | apply Z9 | apply Z10)); exact Z11 (Yf4 HO_170000.out BK156.out) (fun _ hk => ⟨hk.1.1, hk.1.2⟩), by (with_reducible repeat (first | apply Z8 | apply Z9 | apply Z10)); exact Z11 (Yf4 HO_170001.out BK156.out) (fun _ hk => ⟨hk.1.1, hk.1.2⟩), by (with_reducible repeat (first | apply Z8 | apply Z9 | apply Z10)); exact Z11 (Yf4 HO_170002.out BK156.out) (fun _ hk => trivial), by (with_reducible repeat (first | apply Z8 | apply Z9 | apply Z10)); exact Z11 (Yf4 HO_170003.out BK156.out) (fun _ hk => ⟨hk.1.1, hk.1.2⟩), Q12⟩
def spec_gcMixedRank.f : Nat → List Int → List Int → Option (Int)
 | 0, _, _ => none
 | k + 1, l0, l1 => if (l0.length : Int) = 0 then (some 0) else (if 1 ≤ (l0.length : Int) then ((spec_raProduct.f k (l0.drop 1)).bind fun t185 => (if 1 ≤ (l1.length : Int) then ((spec_gcMixedRank.f k (l0.drop 1) (l1.drop 1)).bind fun t188 => (if 0 < (l1.length : Int) then (if (Int.tmod (rd l1 0) 2) = 1 then (some (wrap64 ((wrap64 ((rd l1 0) * t185)) + (wrap64 ((wrap64 (t185 - 1)) - t188))))) else (some (wrap64 ((wrap64 ((rd l1 0) * t185)) + t188)))) else (none))) else (none))) else (none))
theorem spec_gcMixedRank.mono_l : ∀ k, (∀ y0 y1, LeO (spec_gcMixedRank.f k y0 y1) (spec_gcMixedRank.f (k + 1) y0 y1))
 | 0 => fun _ _ r h => by simp [spec_gcMixedRank.f] at h
 | k + 1 => by
  have ih0 := spec_gcMixedRank.mono_l k
  ·intro y0 y1
   unfold spec_gcMixedRank.f
   repeat' first
   | (with_reducible exact ih0 _ _)
   | (with_reducible exact spec_raProduct.mono _ _)
   | (with_reducible exact LeO.refl _)
   | (with_reducible exact LeO.none _)
   | (with_reducible refine LeO.ite ?_ ?_)
   | (with_reducible refine LeO.bind ?_ (fun _ => ?_))
   | exact ih0 _ _
   | exact spec_raProduct.mono _ _
   | exact LeO.none _
   | refine LeO.ite ?_ ?_
   | refine LeO.bind ?_ (fun _ => ?_)
theorem spec_gcMixedRank.mono : ∀ a0 a1 k, LeO (spec_gcMixedRank.f k a0 a1) (spec_gcMixedRank.f (k + 1) a0 a1) := by
 intro a0 a1 k
 have ih0 := spec_gcMixedRank.mono_l k
 exact ih0 a0 a1
set_option maxHeartbeats 8000000 in
set_option maxRecDepth 100000 in
theorem spec_gcMixedRank.calls (k : Nat) : ∀ (A0 : Option Addr) (c0 : Nat) (l0 : List Int) (A1 : Option Addr) (c1 : Nat) (l1 : List Int) (r : Int) (w : World) (hr0 : Kd.C (Kd.int .i64) w A0 l0.length l0) (hc0 : l0.length ≤ c0) (hr1 : Kd.C (Kd.int .i64) w A1 l1.length l1) (hc1 : l1.length ≤ c1) (h : spec_gcMixedRank.f k l0 l1 = some r),
  Calls Try.prog 61 #[.slice A0 l0.length c0, .slice A1 l1.length c1] w fun e w' => e = .returned (.int .i64 r) ∧ Below w.heap.size w w' := by
 induction k using Nat.strongRecOn with
 | _ k ih =>
 intro A0 c0 l0 A1 c1 l1 r w hr0 hc0 hr1 hc1 h
 cases k with
 | zero => exact absurd h (by simp [spec_gcMixedRank.f])
 | succ k =>
 simp only [spec_gcMixedRank.f] at h
 have HR0 := Ya hr0
 have HC0 := Ya hc0
 clear hr0 hc0
 have HR1 := Ya hr1
 have HC1 := Ya hc1
 clear hr1 hc1
 have HB := Ya (Below.refl w.heap.size w)
 have H : (if (l0.length : Int) = 0 then (some 0) else (if 1 ≤ (l0.length : Int) then ((spec_raProduct.f k (l0.drop 1)).bind fun t185 => (if 1 ≤ (l1.length : Int) then ((spec_gcMixedRank.f k (l0.drop 1) (l1.drop 1)).bind fun t188 => (if 0 < (l1.length : Int) then (if (Int.tmod (rd l1 0) 2) = 1 then (some (wrap64 ((wrap64 ((rd l1 0) * t185)) + (wrap64 ((wrap64 (t185 - 1)) - t188))))) else (some (wrap64 ((wrap64 ((rd l1 0) * t185)) + t188)))) else (none))) else (none))) else (none))) = some r := h
 clear h
 by_cases c3 : (l0.length : Int) = 0
 ·rw [if_pos c3] at H
  have c3b0 : ((l0.length : Int) == 0) = true := beq_iff_eq.mpr c3
  have c3b1 : ((l0.length : Int) != 0) = false := bne_eq_false_iff_eq.mpr c3
  clear c3
  obtain rfl := Option.some.inj H
  go_enter Try.func61, Try.ntmps61
  go_wp2
  go_ret
  exact ⟨Q2, Q12⟩
 ·rw [if_neg c3] at H
  have c3b0 : ((l0.length : Int) == 0) = false := beq_eq_false_iff_ne.mpr c3
  have c3b1 : ((l0.length : Int) != 0) = true := bne_iff_ne.mpr c3
  have c3b2 : ¬ (l0 = []) := fun h_ => c3 (by rw [h_]; rfl)
  by_cases c4 : 1 ≤ (l0.length : Int)
  ·rw [if_pos c4] at H
   have c4b0 := eq_true c4
   have c4b1 : decide (1 ≤ (l0.length : Int)) = true := Z38 c4
   have HLEc4 := Ya c4
   clear c4
   replace H := Z36.mp H
   obtain ⟨t185, A50, H⟩ := H
   replace H : (if 1 ≤ (l1.length : Int) then ((spec_gcMixedRank.f k (l0.drop 1) (l1.drop 1)).bind fun t188 => (if 0 < (l1.length : Int) then (if (Int.tmod (rd l1 0) 2) = 1 then (some (wrap64 ((wrap64 ((rd l1 0) * t185)) + (wrap64 ((wrap64 (t185 - 1)) - t188))))) else (some (wrap64 ((wrap64 ((rd l1 0) * t185)) + t188)))) else (none))) else (none)) = some r := H
   have A5 := Ya A50
   clear A50
   have c6b0 := eq_true (Z30 Q1 : 1 ≤ (l0.length : Int))
   by_cases c7 : 1 ≤ (l1.length : Int)
   ·rw [if_pos c7] at H
    have c7b0 := eq_true c7
    have c7b1 : decide (1 ≤ (l1.length : Int)) = true := Z38 c7
    have HLEc7 := Ya c7
    clear c7
    replace H := Z36.mp H
    obtain ⟨t188, A80, H⟩ := H
    replace H : (if 0 < (l1.length : Int) then (if (Int.tmod (rd l1 0) 2) = 1 then (some (wrap64 ((wrap64 ((rd l1 0) * t185)) + (wrap64 ((wrap64 (t185 - 1)) - t188))))) else (some (wrap64 ((wrap64 ((rd l1 0) * t185)) + t188)))) else (none)) = some r := H
    have A8 := Ya A80
    clear A80
    by_cases c9 : 0 < (l1.length : Int)
    ·rw [if_pos c9] at H
     have c9b0 : decide (0 < (l1.length : Int)) = true := Z38 c9
     have c9b1 : decide (0 < l1.length) = true := Z38 (by omega)
     clear c9
     by_cases c10 : (Int.tmod (rd l1 0) 2) = 1
     ·rw [if_pos c10] at H
      have c10b0 : ((Int.tmod (rd l1 0) 2) == 1) = true := beq_iff_eq.mpr c10
      have c10b1 : ((Int.tmod (rd l1 0) 2) != 1) = false := bne_eq_false_iff_eq.mpr c10
      clear c10
      obtain rfl := Option.some.inj H
      obtain ⟨i011, hi011, _, hsz11, _⟩ := info_parts info3
      obtain ⟨A11, hcut11, hA11, hC11⟩ := print_drop_of (P := Try.prog) (Value.int .i64) 0 22 3 .i64 Try.underlying22 hi011 hsz11 A0 c0 l0 1 (by omega) (Z30 Q1) HC0.out
      have HR184 := Ya (Kd.C_of_reads (h1 := fun _ => rfl) (hA11 _ (Kd.reads_of_C HR0.out)))
      have HC184 := Ya hC11
      clear hA11 hC11 hi011 hsz11
      go_enter Try.func61, Try.ntmps61
      try go_wp2_with (first | ((with_reducible refine gate_callee (f := 77) rfl ?_); refine Yz 12 Try.func77 #[.slice A11 (l0.drop 1).length (c0 - 1)] ?_ (hargs := Q81); (with_reducible refine (spec_raProduct.calls k _ _ (l0.drop 1) t185 _ ?side1 ?side2 A5.out).mono ?_); (case side1 => exact Yc HR184.out); (case side2 => exact HC184.out); rintro e w' ⟨rfl, ⟨nd, rfl⟩⟩; refine ⟨_, rfl, ?_⟩))
      replace HB := Ya (Z4 (Z3 HB.out nd))
      have HR186 := HR184
      have HC186 := HC184
      obtain ⟨i014, hi014, _, hsz14, _⟩ := info_parts info3
      obtain ⟨A14, hcut14, hA14, hC14⟩ := print_drop_of (P := Try.prog) (Value.int .i64) 0 22 3 .i64 Try.underlying22 hi014 hsz14 A1 c1 l1 1 (by omega) (Z30 Q1) HC1.out
      have HR187 := Ya (Kd.C_of_reads (h1 := fun _ => rfl) (hA14 _ (Kd.reads_of_C HR1.out)))
      have HC187 := Ya hC14
      clear hA14 hC14 hi014 hsz14
      refine start_ (n := 6) (S := fun w' => True) (ds := []) (YA 6 0) (by kernel_rfl) rfl rfl trivial (fun hHeld => ?_)
      generalize (w.drewN nd).drew = w12 at HB HR186 HR187 hHeld ⊢
      refine Yq 0 (some 13) (YA 6 1) rfl ?_
      refine Yq 1 (some 14) (YA 6 3) rfl ?_
      refine Yq 2 (some 15) (YA 6 7) rfl ?_
      refine Yq 3 (some 16) (YA 6 15) rfl ?_
      refine one_ (i := 4) (N := some 17) (YA 6 31) rfl rfl (by kernel_rfl) (by decide) (fun K hK => ?_)
      refine goes_ Try.func61 (by kernel_rfl) rfl #[.slice A11 (l0.drop 1).length (c0 - 1), .slice A14 (l1.drop 1).length (c1 - 1)] (by rfl) rfl rfl Q36 ?_
      with_reducible refine (ih k (by omega) _ _ (l0.drop 1) _ _ (l1.drop 1) t188 _ ?side1 ?side2 ?side3 ?side4 A8.out).mono ?_
      (case side1 => exact Yc (Z22 HR186.out HB.out))
      (case side2 => exact HC186.out)
      (case side3 => exact Yc (Z22 HR187.out HB.out))
      (case side4 => exact HC187.out)
      rintro e w15 ⟨rfl, hb⟩
      refine ⟨_, rfl, ?_⟩
      replace HB := Yh hb
      (try clear hb)
      refine hK.out _ _ trivial (fun hHeld => ?_)
      clear hK K
      refine norm_ (a' := ?_) ?_ ?_
      rotate_left
      ·show Act.put _ (some 17) _ = _
       simp only [Act.put, Z0, Z1, Z2, i64_w, i32_w]
       rfl
      refine Yq 5 (some 6) (YA 6 63) rfl ?_
      refine done_ (by kernel_rfl) ?_
      have p189 : 0 ≤ (0 : Int) := (by omega)
      have q189 : 0 < (l1.length : Int) := Z30 Q1
      obtain ⟨ad189, e189, hx189_0⟩ := Kd.at_int HR1.out 0 p189 q189
      cases e189
      have qi189 : (0 < l1.length) = True := eq_true (by omega)
      (try rw [show ((0 : Int)).toNat = 0 from rfl] at hx189_0)
      (try rw [Addr.add_zero'] at hx189_0)
      try replace hx189_0 := (HB.out.cell (World.block_lt_of_cell? w _ hx189_0)).trans hx189_0
      replace p189 := eq_true p189
      replace q189 := eq_true q189
      have p190 : 0 ≤ (0 : Int) := (by omega)
      have q190 : 0 < (l1.length : Int) := Z30 Q1
      obtain ⟨ad190, e190, hx190_0⟩ := Kd.at_int HR1.out 0 p190 q190
      obtain rfl : ad189 = ad190 := (by injection e190)
      have qi190 : (0 < l1.length) = True := eq_true (by omega)
      (try rw [show ((0 : Int)).toNat = 0 from rfl] at hx190_0)
      (try rw [Addr.add_zero'] at hx190_0)
      try replace hx190_0 := (HB.out.cell (World.block_lt_of_cell? w _ hx190_0)).trans hx190_0
      replace p190 := eq_true p190
      replace q190 := eq_true q190
      try go_wp2
      go_ret
      exact ⟨Q2, Q12⟩
     ·rw [if_neg c10] at H
      have c10b0 : ((Int.tmod (rd l1 0) 2) == 1) = false := beq_eq_false_iff_ne.mpr c10
      have c10b1 : ((Int.tmod (rd l1 0) 2) != 1) = true := bne_iff_ne.mpr c10
      obtain rfl := Option.some.inj H
      obtain ⟨i016, hi016, _, hsz16, _⟩ := info_parts info3
      obtain ⟨A16, hcut16, hA16, hC16⟩ := print_drop_of (P := Try.prog) (Value.int .i64) 0 22 3 .i64 Try.underlying22 hi016 hsz16 A0 c0 l0 1 (by omega) (Z30 Q1) HC0.out
      have HR184 := Ya (Kd.C_of_reads (h1 := fun _ => rfl) (hA16 _ (Kd.reads_of_C HR0.out)))
      have HC184 := Ya hC16
      clear hA16 hC16 hi016 hsz16
      go_enter Try.func61, Try.ntmps61
      try go_wp2_with (first | ((with_reducible refine gate_callee (f := 77) rfl ?_); refine Yz 12 Try.func77 #[.slice A16 (l0.drop 1).length (c0 - 1)] ?_ (hargs := Q81); (with_reducible refine (spec_raProduct.calls k _ _ (l0.drop 1) t185 _ ?side1 ?side2 A5.out).mono ?_); (case side1 => exact Yc HR184.out); (case side2 => exact HC184.out); rintro e w' ⟨rfl, ⟨nd, rfl⟩⟩; refine ⟨_, rfl, ?_⟩))
      replace HB := Ya (Z4 (Z3 HB.out nd))
      have HR186 := HR184
      have HC186 := HC184
      obtain ⟨i019, hi019, _, hsz19, _⟩ := info_parts info3
      obtain ⟨A19, hcut19, hA19, hC19⟩ := print_drop_of (P := Try.prog) (Value.int .i64) 0 22 3 .i64 Try.underlying22 hi019 hsz19 A1 c1 l1 1 (by omega) (Z30 Q1) HC1.out
      have HR187 := Ya (Kd.C_of_reads (h1 := fun _ => rfl) (hA19 _ (Kd.reads_of_C HR1.out)))
      have HC187 := Ya hC19
      clear hA19 hC19 hi019 hsz19
      refine start_ (n := 6) (S := fun w' => True) (ds := []) (YA 6 0) (by kernel_rfl) rfl rfl trivial (fun hHeld => ?_)
      generalize (w.drewN nd).drew = w17 at HB HR186 HR187 hHeld ⊢
      refine Yq 0 (some 13) (YA 6 1) rfl ?_
      refine Yq 1 (some 14) (YA 6 3) rfl ?_
      refine Yq 2 (some 15) (YA 6 7) rfl ?_
      refine Yq 3 (some 16) (YA 6 15) rfl ?_
      refine one_ (i := 4) (N := some 17) (YA 6 31) rfl rfl (by kernel_rfl) (by decide) (fun K hK => ?_)
      refine goes_ Try.func61 (by kernel_rfl) rfl #[.slice A16 (l0.drop 1).length (c0 - 1), .slice A19 (l1.drop 1).length (c1 - 1)] (by rfl) rfl rfl Q36 ?_
      with_reducible refine (ih k (by omega) _ _ (l0.drop 1) _ _ (l1.drop 1) t188 _ ?side1 ?side2 ?side3 ?side4 A8.out).mono ?_
      (case side1 => exact Yc (Z22 HR186.out HB.out))
      (case side2 => exact HC186.out)
      (case side3 => exact Yc (Z22 HR187.out HB.out))
      (case side4 => exact HC187.out)
      rintro e w20 ⟨rfl, hb⟩
      refine ⟨_, rfl, ?_⟩
      replace HB := Yh hb
      (try clear hb)
      refine hK.out _ _ trivial (fun hHeld => ?_)
      clear hK K
      refine norm_ (a' := ?_) ?_ ?_
      rotate_left
      ·show Act.put _ (some 17) _ = _
       simp only [Act.put, Z0, Z1, Z2, i64_w, i32_w]
       rfl
      refine Yq 5 (some 6) (YA 6 63) rfl ?_
      refine done_ (by kernel_rfl) ?_
      have p189 : 0 ≤ (0 : Int) := (by omega)
      have q189 : 0 < (l1.length : Int) := Z30 Q1
      obtain ⟨ad189, e189, hx189_0⟩ := Kd.at_int HR1.out 0 p189 q189
      cases e189
      have qi189 : (0 < l1.length) = True := eq_true (by omega)
      (try rw [show ((0 : Int)).toNat = 0 from rfl] at hx189_0)
      (try rw [Addr.add_zero'] at hx189_0)
      try replace hx189_0 := (HB.out.cell (World.block_lt_of_cell? w _ hx189_0)).trans hx189_0
      replace p189 := eq_true p189
      replace q189 := eq_true q189
      have p191 : 0 ≤ (0 : Int) := (by omega)
      have q191 : 0 < (l1.length : Int) := Z30 Q1
      obtain ⟨ad191, e191, hx191_0⟩ := Kd.at_int HR1.out 0 p191 q191
      obtain rfl : ad189 = ad191 := (by injection e191)
      have qi191 : (0 < l1.length) = True := eq_true (by omega)
      (try rw [show ((0 : Int)).toNat = 0 from rfl] at hx191_0)
      (try rw [Addr.add_zero'] at hx191_0)
      try replace hx191_0 := (HB.out.cell (World.block_lt_of_cell? w _ hx191_0)).trans hx191_0
      replace p191 := eq_true p191
      replace q191 := eq_true q191
      try go_wp2
      go_ret
      exact ⟨Q2, Q12⟩
    ·rw [if_neg c9] at H
     exact absurd H (by simp)
   ·rw [if_neg c7] at H
    exact absurd H (by simp)
  ·rw [if_neg c4] at H
   exact absurd H (by simp)
def spec_l1Same.l0 : Nat → List Int → List Int → Int → Int → Option (Bool)
 | 0, _, _, _, _ => none
 | k + 1, x0, x1, x12, x13 => if x13 < x12 then (if 0 ≤ x13 then (if x13 < (x0.length : Int) then (if x13 < (x1.length : Int) then (if (rd x0 x13) = (rd x1 x13) then (spec_l1Same.l0 k x0 x1 x12 (wrap64 (x13 + 1))) else (some false)) else (none)) else (none)) else (none)) else (some true)
def spec_l1Same.f (k : Nat) (l0 : List Int) (l1 : List Int) : Option (Bool) := if (l0.length : Int) = (l1.length : Int) then (spec_l1Same.l0 k l0 l1 (l0.length : Int) 0) else (some false)
theorem spec_l1Same.mono_l : ∀ k, (∀ y0 y1 y2 y3, LeO (spec_l1Same.l0 k y0 y1 y2 y3) (spec_l1Same.l0 (k + 1) y0 y1 y2 y3))
 | 0 => fun _ _ _ _ r h => by simp [spec_l1Same.l0] at h
 | k + 1 => by
  have ih0 := spec_l1Same.mono_l k
  ·intro y0 y1 y2 y3
   unfold spec_l1Same.l0
   repeat' first
   | (with_reducible exact ih0 _ _ _ _)
   | (with_reducible exact LeO.refl _)
   | (with_reducible exact LeO.none _)
   | (with_reducible refine LeO.ite ?_ ?_)
   | (with_reducible refine LeO.bind ?_ (fun _ => ?_))
   | exact ih0 _ _ _ _
   | exact LeO.none _
   | refine LeO.ite ?_ ?_
   | refine LeO.bind ?_ (fun _ => ?_)
theorem spec_l1Same.mono : ∀ a0 a1 k, LeO (spec_l1Same.f k a0 a1) (spec_l1Same.f (k + 1) a0 a1) := by
 intro a0 a1 k
 have ih0 := spec_l1Same.mono_l k
 unfold spec_l1Same.f
 repeat' first
   | (with_reducible exact ih0 _ _ _ _)
   | (with_reducible exact LeO.refl _)
   | (with_reducible exact LeO.none _)
   | (with_reducible refine LeO.ite ?_ ?_)
   | (with_reducible refine LeO.bind ?_ (fun _ => ?_))
   | exact ih0 _ _ _ _
   | exact LeO.none _
   | refine LeO.ite ?_ ?_
   | refine LeO.bind ?_ (fun _ => ?_)
set_option maxHeartbeats 8000000 in
set_option maxRecDepth 100000 in
theorem spec_l1Same.calls (k : Nat) (A0 : Option Addr) (c0 : Nat) (l0 : List Int) (A1 : Option Addr) (c1 : Nat) (l1 : List Int) (r : Bool) (w : World) (hr0 : Kd.C (Kd.int .i64) w A0 l0.length l0) (hc0 : l0.length ≤ c0) (hr1 : Kd.C (Kd.int .i64) w A1 l1.length l1) (hc1 : l1.length ≤ c1) (h : spec_l1Same.f k l0 l1 = some r) :
  Calls Try.prog 70 #[.slice A0 l0.length c0, .slice A1 l1.length c1] w fun e w' => e = .returned (.bool r) ∧ Drawn0 w w' := by
 have HR0 := Ya hr0
 have HC0 := Ya hc0
 clear hr0 hc0
 have HR1 := Ya hr1
 have HC1 := Ya hc1
 clear hr1 hc1
 have H : (if (l0.length : Int) = (l1.length : Int) then (spec_l1Same.l0 k l0 l1 (l0.length : Int) 0) else (some false)) = some r := h
 clear h
 by_cases c3 : (l0.length : Int) = (l1.length : Int)
 ·rw [if_pos c3] at H
  have c3b0 : ((l0.length : Int) == (l1.length : Int)) = true := beq_iff_eq.mpr c3
  have c3b1 : ((l0.length : Int) != (l1.length : Int)) = false := bne_eq_false_iff_eq.mpr c3
  have c3b2 : (l0.length == l1.length) = true := by first | simpa using c3 | (simp at c3 ⊢; omega)
  clear c3
  have H' := Ya H
  clear H
  go_enter Try.func70, Try.ntmps70
  go_wp2
  repeat (go_quiet (fail); try go_wp2)
  go_loopg [13] k (fun kq v13 w' => ∃ (x13_1 : Int), v13 = .int .i64 x13_1 ∧ Aside0 (spec_l1Same.l0 kq l0 l1 (l0.length : Int) x13_1 = some r) ∧ Aside0 (kq ≤ k) ∧ Drawn0 w w')
  case atStart => exact ⟨(0), Q7, H', ⟨Nat.le_refl _⟩, Q5⟩
  case round =>
   clear H'
   try clear c1
   try clear p2
   try clear c3
   try clear c3b0
   try clear c3b1
   try clear c3b2
   obtain ⟨x13_1, rfl, HA, HK1, ⟨m1, rfl⟩⟩ := hrel
   cases gk with
   | zero => exact absurd HA.out (by simp [spec_l1Same.l0])
   | succ k1 =>
    have H := HA.out
    clear HA
    simp only [spec_l1Same.l0] at H
    by_cases c4 : x13_1 < (l0.length : Int)
    ·rw [if_pos c4] at H
     have c4b0 : decide (x13_1 < (l0.length : Int)) = true := Z38 c4
     clear c4
     by_cases c5 : 0 ≤ x13_1
     ·rw [if_pos c5] at H
      have c5b0 : decide (0 ≤ x13_1) = true := Z38 c5
      clear c5
      by_cases c6 : x13_1 < (l0.length : Int)
      ·rw [if_pos c6] at H
       have c6b0 : decide (x13_1 < (l0.length : Int)) = true := Z38 c6
       clear c6
       by_cases c7 : x13_1 < (l1.length : Int)
       ·rw [if_pos c7] at H
        have c7b0 : decide (x13_1 < (l1.length : Int)) = true := Z38 c7
        clear c7
        by_cases c8 : (rd l0 x13_1) = (rd l1 x13_1)
        ·rw [if_pos c8] at H
         have c8b0 : ((rd l0 x13_1) == (rd l1 x13_1)) = true := beq_iff_eq.mpr c8
         have c8b1 : ((rd l0 x13_1) != (rd l1 x13_1)) = false := bne_eq_false_iff_eq.mpr c8
         clear c8
         have H' := Ya H
         clear H
         have p192 : 0 ≤ (x13_1 : Int) := Z30 Q1
         have q192 : x13_1 < (l0.length : Int) := Z30 Q1
         obtain ⟨ad192, e192, hx192_0⟩ := Kd.at_int HR0.out x13_1 p192 q192
         cases e192
         replace p192 := eq_true p192
         replace q192 := eq_true q192
         have p193 : 0 ≤ (x13_1 : Int) := Z30 Q1
         have q193 : x13_1 < (l1.length : Int) := Z30 Q1
         obtain ⟨ad193, e193, hx193_0⟩ := Kd.at_int HR1.out x13_1 p193 q193
         cases e193
         replace p193 := eq_true p193
         replace q193 := eq_true q193
         go_wp2
         repeat (go_quiet (fail); try go_wp2)
         go_roundg k1
         case measure => have := HK1.out; omega
         case rel => exact ⟨(wrap64 (x13_1 + 1)), Q7, H', ⟨Q80⟩, Q5⟩
        ·rw [if_neg c8] at H
         have c8b0 : ((rd l0 x13_1) == (rd l1 x13_1)) = false := beq_eq_false_iff_ne.mpr c8
         have c8b1 : ((rd l0 x13_1) != (rd l1 x13_1)) = true := bne_iff_ne.mpr c8
         obtain rfl := Option.some.inj H
         have p192 : 0 ≤ (x13_1 : Int) := Z30 Q1
         have q192 : x13_1 < (l0.length : Int) := Z30 Q1
         obtain ⟨ad192, e192, hx192_0⟩ := Kd.at_int HR0.out x13_1 p192 q192
         cases e192
         replace p192 := eq_true p192
         replace q192 := eq_true q192
         have p193 : 0 ≤ (x13_1 : Int) := Z30 Q1
         have q193 : x13_1 < (l1.length : Int) := Z30 Q1
         obtain ⟨ad193, e193, hx193_0⟩ := Kd.at_int HR1.out x13_1 p193 q193
         cases e193
         replace p193 := eq_true p193
         replace q193 := eq_true q193
         go_wp2
         repeat (go_quiet (fail); try go_wp2)
         go_ret
         exact ⟨Q13, Q5⟩
       ·rw [if_neg c7] at H
        exact absurd H (by simp)
      ·rw [if_neg c6] at H
       exact absurd H (by simp)
     ·rw [if_neg c5] at H
      exact absurd H (by simp)
    ·rw [if_neg c4] at H
     have c4b0 : decide (x13_1 < (l0.length : Int)) = false := Z37 c4
     clear c4
     obtain rfl := Option.some.inj H
     go_wp2
     repeat (go_quiet (fail); try go_wp2)
     go_ret
     exact ⟨Q13, Q5⟩
 ·rw [if_neg c3] at H
  have c3b0 : ((l0.length : Int) == (l1.length : Int)) = false := beq_eq_false_iff_ne.mpr c3
  have c3b1 : ((l0.length : Int) != (l1.length : Int)) = true := bne_iff_ne.mpr c3
  have c3b2 : (l0.length == l1.length) = false := by first | simpa using c3 | (simp at c3 ⊢; omega)
  obtain rfl := Option.some.inj H
  go_enter Try.func70, Try.ntmps70
  go_wp2
  repeat (go_quiet (fail); try go_wp2)
  go_ret
  exact ⟨Q13, Q5⟩
end Go.Proofs.Ytpfakdhfffehaaa.MFnExactStepFocus
