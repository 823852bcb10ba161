import Derived.Test.YtpfakdhfffehaaaMFnExactIsSwapperx0
import Derived.Test.YtpfakdhfffehaaaMFnExactIsSwapperx1
import Derived.Test.YtpfakdhfffehaaaMFnExactIsSwapperx2
import Derived.Test.YtpfakdhfffehaaaMFnExactIsSwapperx3
import Derived.Test.YtpfakdhfffehaaaMFnExactIsSwapperx5
namespace Go.Proofs.Ytpfakdhfffehaaa.MFnExactIsSwapper
open Go.RowKit Go.Proofs.YtpfakdhfffehaaaW.PrintWords Go.Proofs.YtpfakdhfffehaaaW.PrintLast Go.Proofs.YtpfakdhfffehaaaW.PrintMore
attribute [local go_sem] max2_int min2_int max_two min_two max_three min_three max_four min_four   
set_option linter.unusedVariables false
set_option linter.unusedSimpArgs false
def spec_foSwapper.l0 : Nat → Int → List Int → Int → Option (List Int × List Int × List Bool × List Int × List Int × List Int)
 | 0, _, _, _ => none
 | k + 1, x0, x3, x4 => if x4 ≤ x0 then (if x3.length < 17592186044416 then (spec_foSwapper.l0 k x0 (x3 ++ [x4]) (wrap64 (x4 + 1))) else (none)) else ((spec_foStart.f k x3).bind fun bt292 => ((spec_raUpTo.f k x0).bind fun t304 => ((spec_raUpTo.f k x0).bind fun t307 => (some (bt292.1, bt292.2.1, bt292.2.2.1, bt292.2.2.2, t304, t307)))))
def spec_foSwapper.f (k : Nat) (a0 : Int) : Option (List Int × List Int × List Bool × List Int × List Int × List Int) := spec_foSwapper.l0 k a0 ([] : List Int) 2
theorem spec_foSwapper.mono_l : ∀ k, (∀ y0 y1 y2, LeO (spec_foSwapper.l0 k y0 y1 y2) (spec_foSwapper.l0 (k + 1) y0 y1 y2))
 | 0 => fun _ _ _ r h => by simp [spec_foSwapper.l0] at h
 | k + 1 => by
  have ih0 := spec_foSwapper.mono_l k
  ·intro y0 y1 y2
   unfold spec_foSwapper.l0
   repeat' first
   | (with_reducible exact ih0 _ _ _)
   | (with_reducible exact spec_foStart.mono _ _)
   | (with_reducible exact spec_raUpTo.mono _ _)
   | (with_reducible exact LeO.refl _)
   | (with_reducible exact LeO.none _)
   | (with_reducible refine LeO.ite ?_ ?_)
   | (with_reducible refine LeO.bind ?_ (fun _ => ?_))
   | exact ih0 _ _ _
   | exact spec_foStart.mono _ _
   | exact spec_raUpTo.mono _ _
   | exact LeO.none _
   | refine LeO.ite ?_ ?_
   | refine LeO.bind ?_ (fun _ => ?_)
theorem spec_foSwapper.mono : ∀ a0 k, LeO (spec_foSwapper.f k a0) (spec_foSwapper.f (k + 1) a0) := by
 intro a0 k
 have ih0 := spec_foSwapper.mono_l k
 unfold spec_foSwapper.f
 repeat' first
   | (with_reducible exact ih0 _ _ _)
   | (with_reducible exact spec_foStart.mono _ _)
   | (with_reducible exact spec_raUpTo.mono _ _)
   | (with_reducible exact LeO.refl _)
   | (with_reducible exact LeO.none _)
   | (with_reducible refine LeO.ite ?_ ?_)
   | (with_reducible refine LeO.bind ?_ (fun _ => ?_))
   | exact ih0 _ _ _
   | exact spec_foStart.mono _ _
   | exact spec_raUpTo.mono _ _
   | exact LeO.none _
   | refine LeO.ite ?_ ?_
   | refine LeO.bind ?_ (fun _ => ?_)
set_option maxHeartbeats 8000000 in
set_option maxRecDepth 100000 in
theorem spec_foSwapper.calls (k : Nat) (a0 : Int) (r1 : List Int) (r2 : List Int) (r3 : List Bool) (r4 : List Int) (r5 : List Int) (r6 : List Int) (w : World) (h : spec_foSwapper.f k a0 = some (r1, r2, r3, r4, r5, r6)) :
  Calls Try.prog 68 #[.int .i64 a0] w fun e w' => ∃ v0_ v1_ v2_ v3_ v4_ v5_ : Value, e = .returned (.agg #[v0_, v1_, v2_, v3_, v4_, v5_]) ∧ Kd.R (Kd.int .i64) 3 w' w.heap.size (fun k_ => some k_ ≠ (v1_ : Value).ownBlock ∧ some k_ ≠ (v3_ : Value).ownBlock ∧ some k_ ≠ (v4_ : Value).ownBlock ∧ some k_ ≠ (v5_ : Value).ownBlock) v0_ r1 ∧ Kd.R (Kd.int .i64) 3 w' w.heap.size (fun k_ => some k_ ≠ (v0_ : Value).ownBlock ∧ some k_ ≠ (v3_ : Value).ownBlock ∧ some k_ ≠ (v4_ : Value).ownBlock ∧ some k_ ≠ (v5_ : Value).ownBlock) v1_ r2 ∧ Kd.R Kd.bool 4 w' w.heap.size (fun _ => True) v2_ r3 ∧ Kd.R (Kd.int .i64) 3 w' w.heap.size (fun k_ => some k_ ≠ (v0_ : Value).ownBlock ∧ some k_ ≠ (v1_ : Value).ownBlock ∧ some k_ ≠ (v4_ : Value).ownBlock ∧ some k_ ≠ (v5_ : Value).ownBlock) v3_ r4 ∧ Kd.R (Kd.int .i64) 3 w' w.heap.size (fun k_ => some k_ ≠ (v0_ : Value).ownBlock ∧ some k_ ≠ (v1_ : Value).ownBlock ∧ some k_ ≠ (v3_ : Value).ownBlock ∧ some k_ ≠ (v5_ : Value).ownBlock) v4_ r5 ∧ Kd.R (Kd.int .i64) 3 w' w.heap.size (fun k_ => some k_ ≠ (v0_ : Value).ownBlock ∧ some k_ ≠ (v1_ : Value).ownBlock ∧ some k_ ≠ (v3_ : Value).ownBlock ∧ some k_ ≠ (v4_ : Value).ownBlock) v5_ r6 ∧ Below w.heap.size w w' := by
 have hu35 := Try.underlying35
 have HB := Ya (Below.refl w.heap.size w)
 have H : (spec_foSwapper.l0 k a0 ([] : List Int) 2) = some (r1, r2, r3, r4, r5, r6) := h
 clear h
 have H' := Ya H
 clear H
 go_enter Try.func68, Try.ntmps68
 go_wp2_with (first | ((with_reducible refine gate_dst (N := 2) rfl ?_); refine Yx 2 #[.slice none 0 0, .slice none 0 0, .slice none 0 0, .slice none 0 0, .slice none 0 0, .slice none 0 0] 35 ?_; intro gb288 hg w2 hbox hb; have BK288 := Ya hbox; have GE288 := Yg hg; replace HB := Yh hb; clear hb hbox hg))
 go_loopg [3, 4] k (fun kq v3 v4 w' => ∃ (x3_1 : List Int) (x4_1 : Int), v4 = .int .i64 x4_1 ∧ Aside0 (spec_foSwapper.l0 kq a0 x3_1 x4_1 = some (r1, r2, r3, r4, r5, r6)) ∧ Aside0 (kq ≤ k) ∧ Aside0 (Kd.R (Kd.int .i64) 3 w' w.heap.size (fun _ => True) v3 x3_1) ∧ Aside0 (w'.heap[gb288]? = some (.cells #[(.slice none 0 0), (.slice none 0 0), (.slice none 0 0), (.slice none 0 0), (.slice none 0 0), (.slice none 0 0)] 35 (0, 0))) ∧ Aside0 (Below w.heap.size w w'))
 case atStart => exact ⟨(([] : List Int)), (2), Q7, H', ⟨Nat.le_refl _⟩, ⟨Q8⟩, ⟨by (with_reducible repeat (first | refine Z22 ?_ _ | refine Z23 ?_ | refine Z24 ?_ _)); exact BK288.out⟩, ⟨Q12⟩⟩
 case round =>
  clear H'
  try clear p2
  obtain ⟨x3_1, x4_1, rfl, HA, HK1, HO_3, BK288, HB⟩ := hrel
  cases gk with
  | zero => exact absurd HA.out (by simp [spec_foSwapper.l0])
  | succ k1 =>
   have H := HA.out
   clear HA
   simp only [spec_foSwapper.l0] at H
   by_cases c3 : x4_1 ≤ a0
   ·rw [if_pos c3] at H
    have c3b0 : decide (x4_1 ≤ a0) = true := Z35 c3
    clear c3
    by_cases c4 : x3_1.length < 17592186044416
    ·rw [if_pos c4] at H
     have LMc4 := Ya c4
     clear c4
     obtain ⟨y289, hy289⟩ : ∃ y_ : List Int, y_ = (x3_1 ++ [x4_1]) := ⟨_, rfl⟩
     replace H : (spec_foSwapper.l0 k1 a0 y289 (wrap64 (x4_1 + 1))) = some (r1, r2, r3, r4, r5, r6) := by first | (rw [hy289]; with_reducible exact H) | (have H2_ := (Option.bind_some _ _).symm.trans H; rw [hy289]; with_reducible exact H2_) | (have H2_ := (Option.bind_some _ _).symm.trans H; with_reducible exact H2_) | with_reducible exact H | (rw [hy289]; exact H) | exact H
     have Ny289 := Ya hy289
     clear hy289
     have H' := Ya H
     clear H
     go_wp2_with (first | ((with_reducible refine gate_builtin (b := .append) (xs := #[.tmp 10, .tmp 12]) rfl ?_); at_builtin; refine Kd.R_append (Kd.int .i64) (w0 := w) w.heap.size rfl (.tmp 10) (.tmp 12) 22 3 (.int .i64 0) 8 rfl Try.underlying22 info3 rfl (by decide) (by omega) u3 x3_1 x4_1 [.int .i64 x4_1] (fun _ => True) (fun _ => False) rfl rfl ?aP (fun _ hk => hk.elim) ?aF ?aO ?aB ?aS ?aL ?_; (case aP => exact rfl); (case aB => exact Q0); (case aF => exact (fun _ _ => trivial)); (case aO => exact (Yr HO_3.out)); (case aS => exact (Z7 Q0)); (case aL => have := LMc4.out; omega); intro v290 w5 ho hb hg hat; rw [← Ny289.out] at ho; replace BK288 := Ya (blk_grown (g := gb288) (o := .cells #[.slice none 0 0, .slice none 0 0, .slice none 0 0, .slice none 0 0, .slice none 0 0, .slice none 0 0] 35 (0, 0)) (Yk BK288.out) hg (Kd.R_ne HO_3.out BK288.out (by decide))); replace HB := Ya hb; have HO291 := Ya ho; clear HO_3; clear ho hb hg hat))
     go_roundg k1
     case measure => have := HK1.out; omega
     case rel => exact ⟨(y289), (wrap64 (x4_1 + 1)), Q7, H', ⟨Q30⟩, ⟨by (with_reducible repeat (first | apply Z8 | apply Z9 | apply Z10)); exact HO291.out⟩, ⟨by (with_reducible repeat (first | refine Z22 ?_ _ | refine Z23 ?_ | refine Z24 ?_ _)); exact BK288.out⟩, ⟨Q12⟩⟩
    ·rw [if_neg c4] at H
     exact absurd H (by simp)
   ·rw [if_neg c3] at H
    have c3b0 : decide (x4_1 ≤ a0) = false := Z34 c3
    clear c3
    replace H := Z33.mp H
    obtain ⟨⟨t292, t295, t298, t301⟩, A60, H⟩ := H
    replace H : ((spec_raUpTo.f k1 a0).bind fun t304 => ((spec_raUpTo.f k1 a0).bind fun t307 => (some (t292, t295, t298, t301, t304, t307)))) = some (r1, r2, r3, r4, r5, r6) := H
    have A6 := Ya A60
    clear A60
    replace H := Z33.mp H
    obtain ⟨t304, A70, H⟩ := H
    replace H : ((spec_raUpTo.f k1 a0).bind fun t307 => (some (t292, t295, t298, t301, t304, t307))) = some (r1, r2, r3, r4, r5, r6) := H
    have A7 := Ya A70
    clear A70
    replace H := Z33.mp H
    obtain ⟨t307, A80, H⟩ := H
    replace H : (some (t292, t295, t298, t301, t304, t307)) = some (r1, r2, r3, r4, r5, r6) := H
    have A8 := Ya A80
    clear A80
    simp only [Option.some.injEq, Prod.mk.injEq] at H
    obtain ⟨rfl, rfl, rfl, rfl, rfl, rfl⟩ := H
    obtain ⟨Ao9, co9, rfl⟩ := Z18 HO_3.out
    go_wp2_with (first | ((with_reducible refine gate_callee (f := 78) rfl ?_); refine Yz 15 Try.func78 #[.slice Ao9 x3_1.length co9] ?_; (with_reducible refine (spec_foStart.calls k1 _ _ x3_1 t292 t295 t298 t301 _ (Yc (Kd.R_reads' HO_3.out).2.2) ((Kd.R_reads' HO_3.out).2.1) A6.out).mono ?_); rintro e w10 ⟨v293, v296, v299, v302, rfl, ho0, ho1, ho2, ho3, hb⟩; refine ⟨_, rfl, ?_⟩; have HO294 := Yl (Kd.R_new' ho0 (Z17 (Yr HO_3.out))); have HO297 := Yl (Kd.R_new' ho1 (Z17 (Yr HO_3.out))); have HO300 := Yl ho2; have HO303 := Yl (Kd.R_new' ho3 (Z17 (Yr HO_3.out))); replace HO_3 := Ya (Z11 (Z15 (Z15 (Z15 (Z16 (Yr HO_3.out) hb) (Kd.R_base ho0)) (Kd.R_base ho1)) (Kd.R_base ho3)) (fun _ h_ => h_.1)); replace BK288 := Yb BK288 hb; replace HB := Yh hb; (try clear hb ho0 ho1 ho2 ho3)) | ((with_reducible refine gate_callee (f := 82) rfl ?_); refine Yz 17 Try.func82 #[.int .i64 a0] ?_; (with_reducible refine (spec_raUpTo.calls k1 a0 t304 _ A7.out).mono ?_); rintro e w11 ⟨v305, rfl, ho0, hb⟩; refine ⟨_, rfl, ?_⟩; replace HO300 := Yw HO300 hb; have HO306 := Yl (Kd.R_new' (Kd.R_new' (Kd.R_new' (Kd.R_new' ho0 (Z17 (Yr HO_3.out))) (Z17 (Yr HO294.out))) (Z17 (Yr HO297.out))) (Z17 (Yr HO303.out))); replace HO_3 := Ya (Kd.R_elder' (Yr HO_3.out) (Kd.R_base ho0) hb); replace HO294 := Ya (Kd.R_elder' (Yr HO294.out) (Kd.R_base ho0) hb); replace HO297 := Ya (Kd.R_elder' (Yr HO297.out) (Kd.R_base ho0) hb); replace HO303 := Ya (Kd.R_elder' (Yr HO303.out) (Kd.R_base ho0) hb); replace BK288 := Yb BK288 hb; replace HB := Yh hb; (try clear hb ho0)) | ((with_reducible refine gate_callee (f := 82) rfl ?_); refine Yz 19 Try.func82 #[.int .i64 a0] ?_; (with_reducible refine (spec_raUpTo.calls k1 a0 t307 _ A8.out).mono ?_); rintro e w12 ⟨v308, rfl, ho0, hb⟩; refine ⟨_, rfl, ?_⟩; replace HO300 := Yw HO300 hb; have HO309 := Yl (Kd.R_new' (Kd.R_new' (Kd.R_new' (Kd.R_new' (Kd.R_new' ho0 (Z17 (Yr HO_3.out))) (Z17 (Yr HO294.out))) (Z17 (Yr HO297.out))) (Z17 (Yr HO303.out))) (Z17 (Yr HO306.out))); replace HO_3 := Ya (Kd.R_elder' (Yr HO_3.out) (Kd.R_base ho0) hb); replace HO294 := Ya (Kd.R_elder' (Yr HO294.out) (Kd.R_base ho0) hb); replace HO297 := Ya (Kd.R_elder' (Yr HO297.out) (Kd.R_base ho0) hb); replace HO303 := Ya (Kd.R_elder' (Yr HO303.out) (Kd.R_base ho0) hb); replace HO306 := Ya (Kd.R_elder' (Yr HO306.out) (Kd.R_base ho0) hb); replace BK288 := Yb BK288 hb; replace HB := Yh hb; (try clear hb ho0); obtain ⟨Ao13, co13, rfl⟩ := Z18 HO309.out; obtain ⟨Ao14, co14, rfl⟩ := Z18 HO306.out; obtain ⟨Ao15, co15, rfl⟩ := Z18 HO303.out; obtain ⟨Ao16, co16, rfl⟩ := Z18 HO300.out; obtain ⟨Ao17, co17, rfl⟩ := Z18 HO297.out; obtain ⟨Ao18, co18, rfl⟩ := Z18 HO294.out; obtain ⟨hcz19_0, hcz19_1, hcz19_2, hcz19_3, hcz19_4, hcz19_5, hfz19_0, hfz19_1, hfz19_2, hfz19_3, hfz19_4, hfz19_5⟩ := Y6 BK288.out))
    refine bodyPost_ret (results_cell_row rfl _ _ gb288 35 #[.slice Ao18 t292.length co18, .slice Ao17 t295.length co17, .slice Ao16 t298.length co16, .slice Ao15 t301.length co15, .slice Ao14 t304.length co14, .slice Ao13 t307.length co13] (0, 0) _ rfl (Yk (Yv6 BK288.out)) Try.underlying35 rfl (by kernel_rfl)) rfl ?_
    exact ⟨_, _, _, _, _, _, Q2, by (with_reducible repeat (first | apply Z8 | apply Z9 | apply Z10)); exact Z11 (Yf6 HO294.out BK288.out) (fun _ hk => ⟨hk.1.1.1.1.1, ⟨hk.1.1.1.1.2, ⟨hk.1.1.2, hk.1.2⟩⟩⟩), by (with_reducible repeat (first | apply Z8 | apply Z9 | apply Z10)); exact Z11 (Yf6 HO297.out BK288.out) (fun _ hk => ⟨hk.1.1.1.1.1, ⟨hk.1.1.1.1.2, ⟨hk.1.1.2, hk.1.2⟩⟩⟩), by (with_reducible repeat (first | apply Z8 | apply Z9 | apply Z10)); exact Z11 (Yf6 HO300.out BK288.out) (fun _ hk => trivial), by (with_reducible repeat (first | apply Z8 | apply Z9 | apply Z10)); exact Z11 (Yf6 HO303.out BK288.out) (fun _ hk => ⟨hk.1.1.1.1.1, ⟨hk.1.1.1.1.2, ⟨hk.1.1.2, hk.1.2⟩⟩⟩), by (with_reducible repeat (first | apply Z8 | apply Z9 | apply Z10)); exact Z11 (Yf6 HO306.out BK288.out) (fun _ hk => ⟨hk.1.1.1.1.2, ⟨hk.1.1.1.2, ⟨hk.1.1.2, hk.1.2⟩⟩⟩), by (with_reducible repeat (first | apply Z8 | apply Z9 | apply Z10)); exact Z11 (Yf6 HO309.out BK288.out) (fun _ hk => ⟨hk.1.1.1.1.2, ⟨hk.1.1.1.2, ⟨hk.1.1.2, hk.1.2⟩⟩⟩), Q12⟩
def spec_foSwapperAt.l0 : Nat → Int → List Int → List Int → List Bool → List Int → List Int → List Int → Option (List Int × List Int × List Bool × List Int × List Int × List Int × Bool)
 | 0, _, _, _, _, _, _, _ => none
 | k + 1, x1, x330000, x330001, x330002, x330003, x330004, x330005 => if x1 > 0 then ((spec_foSwap.f k x330000 x330001 x330002 x330003 x330004 x330005).bind fun bt330 => (if bt330.2.2.2.2.2.2 < 0 then (some (([] : List Int), ([] : List Int), ([] : List Bool), ([] : List Int), ([] : List Int), ([] : List Int), false)) else (spec_foSwapperAt.l0 k (wrap64 (x1 - 1)) bt330.1 bt330.2.1 bt330.2.2.1 bt330.2.2.2.1 bt330.2.2.2.2.1 bt330.2.2.2.2.2.1))) else (some (x330000, x330001, x330002, x330003, x330004, x330005, true))
def spec_foSwapperAt.f (k : Nat) (a0 : Int) (a1 : Int) : Option (List Int × List Int × List Bool × List Int × List Int × List Int × Bool) := (spec_foSwapper.f k a0).bind fun bt311 => (spec_foSwapperAt.l0 k a1 bt311.1 bt311.2.1 bt311.2.2.1 bt311.2.2.2.1 bt311.2.2.2.2.1 bt311.2.2.2.2.2)
theorem spec_foSwapperAt.mono_l : ∀ k, (∀ y0 y1 y2 y3 y4 y5 y6, LeO (spec_foSwapperAt.l0 k y0 y1 y2 y3 y4 y5 y6) (spec_foSwapperAt.l0 (k + 1) y0 y1 y2 y3 y4 y5 y6))
 | 0 => fun _ _ _ _ _ _ _ r h => by simp [spec_foSwapperAt.l0] at h
 | k + 1 => by
  have ih0 := spec_foSwapperAt.mono_l k
  ·intro y0 y1 y2 y3 y4 y5 y6
   unfold spec_foSwapperAt.l0
   repeat' first
   | (with_reducible exact ih0 _ _ _ _ _ _ _)
   | (with_reducible exact spec_foSwap.mono _ _ _ _ _ _ _)
   | (with_reducible exact spec_foSwapper.mono _ _)
   | (with_reducible exact LeO.refl _)
   | (with_reducible exact LeO.none _)
   | (with_reducible refine LeO.ite ?_ ?_)
   | (with_reducible refine LeO.bind ?_ (fun _ => ?_))
   | exact ih0 _ _ _ _ _ _ _
   | exact spec_foSwap.mono _ _ _ _ _ _ _
   | exact spec_foSwapper.mono _ _
   | exact LeO.none _
   | refine LeO.ite ?_ ?_
   | refine LeO.bind ?_ (fun _ => ?_)
theorem spec_foSwapperAt.mono : ∀ a0 a1 k, LeO (spec_foSwapperAt.f k a0 a1) (spec_foSwapperAt.f (k + 1) a0 a1) := by
 intro a0 a1 k
 have ih0 := spec_foSwapperAt.mono_l k
 unfold spec_foSwapperAt.f
 repeat' first
   | (with_reducible exact ih0 _ _ _ _ _ _ _)
   | (with_reducible exact spec_foSwap.mono _ _ _ _ _ _ _)
   | (with_reducible exact spec_foSwapper.mono _ _)
   | (with_reducible exact LeO.refl _)
   | (with_reducible exact LeO.none _)
   | (with_reducible refine LeO.ite ?_ ?_)
   | (with_reducible refine LeO.bind ?_ (fun _ => ?_))
   | exact ih0 _ _ _ _ _ _ _
   | exact spec_foSwap.mono _ _ _ _ _ _ _
   | exact spec_foSwapper.mono _ _
   | exact LeO.none _
   | refine LeO.ite ?_ ?_
   | refine LeO.bind ?_ (fun _ => ?_)
set_option maxHeartbeats 8000000 in
set_option maxRecDepth 100000 in
theorem spec_foSwapperAt.calls (k : Nat) (a0 : Int) (a1 : Int) (r1 : List Int) (r2 : List Int) (r3 : List Bool) (r4 : List Int) (r5 : List Int) (r6 : List Int) (r7 : Bool) (w : World) (h : spec_foSwapperAt.f k a0 a1 = some (r1, r2, r3, r4, r5, r6, r7)) :
  Calls Try.prog 46 #[.int .i64 a0, .int .i64 a1] w fun e w' => ∃ v0_ v1_ v2_ v3_ v4_ v5_ : Value, e = .returned (.tuple #[.agg #[v0_, v1_, v2_, v3_, v4_, v5_], .bool r7]) ∧ Kd.R (Kd.int .i64) 3 w' w.heap.size (fun k_ => some k_ ≠ (v1_ : Value).ownBlock ∧ some k_ ≠ (v3_ : Value).ownBlock ∧ some k_ ≠ (v4_ : Value).ownBlock ∧ some k_ ≠ (v5_ : Value).ownBlock) v0_ r1 ∧ Kd.R (Kd.int .i64) 3 w' w.heap.size (fun k_ => some k_ ≠ (v0_ : Value).ownBlock ∧ some k_ ≠ (v3_ : Value).ownBlock ∧ some k_ ≠ (v4_ : Value).ownBlock ∧ some k_ ≠ (v5_ : Value).ownBlock) v1_ r2 ∧ Kd.R Kd.bool 4 w' w.heap.size (fun _ => True) v2_ r3 ∧ Kd.R (Kd.int .i64) 3 w' w.heap.size (fun k_ => some k_ ≠ (v0_ : Value).ownBlock ∧ some k_ ≠ (v1_ : Value).ownBlock ∧ some k_ ≠ (v4_ : Value).ownBlock ∧ some k_ ≠ (v5_ : Value).ownBlock) v3_ r4 ∧ Kd.R (Kd.int .i64) 3 w' w.heap.size (fun k_ => some k_ ≠ (v0_ : Value).ownBlock ∧ some k_ ≠ (v1_ : Value).ownBlock ∧ some k_ ≠ (v3_ : Value).ownBlock ∧ some k_ ≠ (v5_ : Value).ownBlock) v4_ r5 ∧ Kd.R (Kd.int .i64) 3 w' w.heap.size (fun k_ => some k_ ≠ (v0_ : Value).ownBlock ∧ some k_ ≠ (v1_ : Value).ownBlock ∧ some k_ ≠ (v3_ : Value).ownBlock ∧ some k_ ≠ (v4_ : Value).ownBlock) v5_ r6 ∧ Below w.heap.size w w' := by
 have hu35 := Try.underlying35
 have HB := Ya (Below.refl w.heap.size w)
 have H : ((spec_foSwapper.f k a0).bind fun bt311 => (spec_foSwapperAt.l0 k a1 bt311.1 bt311.2.1 bt311.2.2.1 bt311.2.2.2.1 bt311.2.2.2.2.1 bt311.2.2.2.2.2)) = some (r1, r2, r3, r4, r5, r6, r7) := h
 clear h
 replace H := Z33.mp H
 obtain ⟨⟨t311, t314, t317, t320, t323, t326⟩, A30, H⟩ := H
 replace H : (spec_foSwapperAt.l0 k a1 t311 t314 t317 t320 t323 t326) = some (r1, r2, r3, r4, r5, r6, r7) := H
 have A3 := Ya A30
 clear A30
 have H' := Ya H
 clear H
 go_enter Try.func46, Try.ntmps46
 go_wp2_with (first | ((with_reducible refine gate_dst (N := 4) rfl ?_); refine Yx 4 #[.slice none 0 0, .slice none 0 0, .slice none 0 0, .slice none 0 0, .slice none 0 0, .slice none 0 0] 35 ?_; intro gb310 hg w4 hbox hb; have BK310 := Ya hbox; have GE310 := Yg hg; replace HB := Yh hb; clear hb hbox hg) | ((with_reducible refine gate_callee (f := 68) rfl ?_); refine Yz 10 Try.func68 #[.int .i64 a0] ?_; (with_reducible refine (spec_foSwapper.calls k a0 t311 t314 t317 t320 t323 t326 _ A3.out).mono ?_); rintro e w5 ⟨v312, v315, v318, v321, v324, v327, rfl, ho0, ho1, ho2, ho3, ho4, ho5, hb⟩; refine ⟨_, rfl, ?_⟩; have HO313 := Yl ho0; have HO316 := Yl ho1; have HO319 := Yl ho2; have HO322 := Yl ho3; have HO325 := Yl ho4; have HO328 := Yl ho5; replace BK310 := Yb BK310 hb; replace HB := Yh hb; (try clear hb ho0 ho1 ho2 ho3 ho4 ho5)) | ((with_reducible refine gate_dst (N := 6) rfl ?_); refine Yx 6 #[.slice none 0 0, .slice none 0 0, .slice none 0 0, .slice none 0 0, .slice none 0 0, .slice none 0 0] 35 ?_; intro gb329 hg w6 hbox hb; replace HO313 := Yw HO313 hb; replace HO316 := Yw HO316 hb; replace HO319 := Yw HO319 hb; replace HO322 := Yw HO322 hb; replace HO325 := Yw HO325 hb; replace HO328 := Yw HO328 hb; have BK329 := Ya hbox; have GE329 := Yg hg; replace HB := Yh hb; have NB310_329 := Yn BK310 hg; have NB329_310 := Ym BK310 hg; replace BK310 := Yb BK310 hb; clear hb hbox hg; obtain ⟨Ao7, co7, rfl⟩ := Z18 HO313.out; have hnb8 := NB329_310.out; have hnc8 := NB310_329.out; obtain ⟨hcz9_0, hcz9_1, hcz9_2, hcz9_3, hcz9_4, hcz9_5, hfz9_0, hfz9_1, hfz9_2, hfz9_3, hfz9_4, hfz9_5⟩ := Y6 BK329.out; obtain ⟨Ao10, co10, rfl⟩ := Z18 HO316.out; obtain ⟨Ao11, co11, rfl⟩ := Z18 HO319.out; obtain ⟨Ao12, co12, rfl⟩ := Z18 HO322.out; obtain ⟨Ao13, co13, rfl⟩ := Z18 HO325.out; obtain ⟨Ao14, co14, rfl⟩ := Z18 HO328.out))
 go_loopg [1] k (fun kq v1 w' => ∃ (x1_1 : Int) (x330000_1 : List Int) (x330001_1 : List Int) (x330002_1 : List Bool) (x330003_1 : List Int) (x330004_1 : List Int) (x330005_1 : List Int) (u330000 : Value) (u330001 : Value) (u330002 : Value) (u330003 : Value) (u330004 : Value) (u330005 : Value), v1 = .int .i64 x1_1 ∧ Aside0 (spec_foSwapperAt.l0 kq x1_1 x330000_1 x330001_1 x330002_1 x330003_1 x330004_1 x330005_1 = some (r1, r2, r3, r4, r5, r6, r7)) ∧ Aside0 (kq ≤ k) ∧ Aside0 (Kd.R (Kd.int .i64) 3 w' w.heap.size (fun k_ => some k_ ≠ (u330001 : Value).ownBlock ∧ some k_ ≠ (u330003 : Value).ownBlock ∧ some k_ ≠ (u330004 : Value).ownBlock ∧ some k_ ≠ (u330005 : Value).ownBlock) u330000 x330000_1) ∧ Aside0 (Kd.R (Kd.int .i64) 3 w' w.heap.size (fun k_ => some k_ ≠ (u330000 : Value).ownBlock ∧ some k_ ≠ (u330003 : Value).ownBlock ∧ some k_ ≠ (u330004 : Value).ownBlock ∧ some k_ ≠ (u330005 : Value).ownBlock) u330001 x330001_1) ∧ Aside0 (Kd.R Kd.bool 4 w' w.heap.size (fun _ => True) u330002 x330002_1) ∧ Aside0 (Kd.R (Kd.int .i64) 3 w' w.heap.size (fun k_ => some k_ ≠ (u330000 : Value).ownBlock ∧ some k_ ≠ (u330001 : Value).ownBlock ∧ some k_ ≠ (u330004 : Value).ownBlock ∧ some k_ ≠ (u330005 : Value).ownBlock) u330003 x330003_1) ∧ Aside0 (Kd.R (Kd.int .i64) 3 w' w.heap.size (fun k_ => some k_ ≠ (u330000 : Value).ownBlock ∧ some k_ ≠ (u330001 : Value).ownBlock ∧ some k_ ≠ (u330003 : Value).ownBlock ∧ some k_ ≠ (u330005 : Value).ownBlock) u330004 x330004_1) ∧ Aside0 (Kd.R (Kd.int .i64) 3 w' w.heap.size (fun k_ => some k_ ≠ (u330000 : Value).ownBlock ∧ some k_ ≠ (u330001 : Value).ownBlock ∧ some k_ ≠ (u330003 : Value).ownBlock ∧ some k_ ≠ (u330004 : Value).ownBlock) u330005 x330005_1) ∧ Aside0 (w'.heap[gb310]? = some (.cells #[(.slice none 0 0), (.slice none 0 0), (.slice none 0 0), (.slice none 0 0), (.slice none 0 0), (.slice none 0 0)] 35 (0, 0))) ∧ Aside0 (w'.heap[gb329]? = some (.cells #[u330000, u330001, u330002, u330003, u330004, u330005] 35 (0, 0))) ∧ Aside0 (Below w.heap.size w w'))
 case atStart => exact ⟨(a1), (t311), (t314), (t317), (t320), (t323), (t326), (.slice Ao7 t311.length co7), (.slice Ao10 t314.length co10), (.slice Ao11 t317.length co11), (.slice Ao12 t320.length co12), (.slice Ao13 t323.length co13), (.slice Ao14 t326.length co14), Q7, H', ⟨Nat.le_refl _⟩, ⟨by (with_reducible repeat (first | apply Z8 | apply Z9 | apply Z10)); exact Z11 (Yf6 HO313.out BK329.out) (fun _ hk => ⟨hk.1.1, ⟨hk.1.2.1, ⟨hk.1.2.2.1, hk.1.2.2.2⟩⟩⟩)⟩, ⟨by (with_reducible repeat (first | apply Z8 | apply Z9 | apply Z10)); exact Z11 (Yf6 HO316.out BK329.out) (fun _ hk => ⟨hk.1.1, ⟨hk.1.2.1, ⟨hk.1.2.2.1, hk.1.2.2.2⟩⟩⟩)⟩, ⟨by (with_reducible repeat (first | apply Z8 | apply Z9 | apply Z10)); exact Z11 (Yf6 HO319.out BK329.out) (fun _ hk => trivial)⟩, ⟨by (with_reducible repeat (first | apply Z8 | apply Z9 | apply Z10)); exact Z11 (Yf6 HO322.out BK329.out) (fun _ hk => ⟨hk.1.1, ⟨hk.1.2.1, ⟨hk.1.2.2.1, hk.1.2.2.2⟩⟩⟩)⟩, ⟨by (with_reducible repeat (first | apply Z8 | apply Z9 | apply Z10)); exact Z11 (Yf6 HO325.out BK329.out) (fun _ hk => ⟨hk.1.1, ⟨hk.1.2.1, ⟨hk.1.2.2.1, hk.1.2.2.2⟩⟩⟩)⟩, ⟨by (with_reducible repeat (first | apply Z8 | apply Z9 | apply Z10)); exact Z11 (Yf6 HO328.out BK329.out) (fun _ hk => ⟨hk.1.1, ⟨hk.1.2.1, ⟨hk.1.2.2.1, hk.1.2.2.2⟩⟩⟩)⟩, ⟨by (with_reducible repeat (first | refine Z22 ?_ _ | refine Z23 ?_ | refine Z24 ?_ _)); refine blk_far ?_ NB310_329.out _; (with_reducible repeat (first | refine Z22 ?_ _ | refine Z23 ?_ | refine Z24 ?_ _)); refine blk_far ?_ NB310_329.out _; (with_reducible repeat (first | refine Z22 ?_ _ | refine Z23 ?_ | refine Z24 ?_ _)); refine blk_far ?_ NB310_329.out _; (with_reducible repeat (first | refine Z22 ?_ _ | refine Z23 ?_ | refine Z24 ?_ _)); refine blk_far ?_ NB310_329.out _; (with_reducible repeat (first | refine Z22 ?_ _ | refine Z23 ?_ | refine Z24 ?_ _)); refine blk_far ?_ NB310_329.out _; (with_reducible repeat (first | refine Z22 ?_ _ | refine Z23 ?_ | refine Z24 ?_ _)); refine blk_far ?_ NB310_329.out _; (with_reducible repeat (first | refine Z22 ?_ _ | refine Z23 ?_ | refine Z24 ?_ _)); exact BK310.out⟩, ⟨by (with_reducible repeat (first | refine Z22 ?_ _ | refine Z23 ?_ | refine Z24 ?_ _)); refine Z26 (cs := #[.slice Ao7 t311.length co7, .slice Ao10 t314.length co10, .slice Ao11 t317.length co11, .slice Ao12 t320.length co12, .slice Ao13 t323.length co13, .slice none 0 0]) ?_ 5 _ rfl; (with_reducible repeat (first | refine Z22 ?_ _ | refine Z23 ?_ | refine Z24 ?_ _)); refine Z26 (cs := #[.slice Ao7 t311.length co7, .slice Ao10 t314.length co10, .slice Ao11 t317.length co11, .slice Ao12 t320.length co12, .slice none 0 0, .slice none 0 0]) ?_ 4 _ rfl; (with_reducible repeat (first | refine Z22 ?_ _ | refine Z23 ?_ | refine Z24 ?_ _)); refine Z26 (cs := #[.slice Ao7 t311.length co7, .slice Ao10 t314.length co10, .slice Ao11 t317.length co11, .slice none 0 0, .slice none 0 0, .slice none 0 0]) ?_ 3 _ rfl; (with_reducible repeat (first | refine Z22 ?_ _ | refine Z23 ?_ | refine Z24 ?_ _)); refine Z26 (cs := #[.slice Ao7 t311.length co7, .slice Ao10 t314.length co10, .slice none 0 0, .slice none 0 0, .slice none 0 0, .slice none 0 0]) ?_ 2 _ rfl; (with_reducible repeat (first | refine Z22 ?_ _ | refine Z23 ?_ | refine Z24 ?_ _)); refine Z26 (cs := #[.slice Ao7 t311.length co7, .slice none 0 0, .slice none 0 0, .slice none 0 0, .slice none 0 0, .slice none 0 0]) ?_ 1 _ rfl; (with_reducible repeat (first | refine Z22 ?_ _ | refine Z23 ?_ | refine Z24 ?_ _)); refine Z26 (cs := #[.slice none 0 0, .slice none 0 0, .slice none 0 0, .slice none 0 0, .slice none 0 0, .slice none 0 0]) ?_ 0 _ rfl; (with_reducible repeat (first | refine Z22 ?_ _ | refine Z23 ?_ | refine Z24 ?_ _)); exact BK329.out⟩, ⟨Q12⟩⟩
 case round =>
  clear H'
  try clear p2
  try clear c4
  try clear c6
  try clear c8
  try clear hcz9_0
  try clear hcz9_1
  try clear hcz9_2
  try clear hcz9_3
  try clear hcz9_4
  try clear hcz9_5
  try clear hfz9_0
  try clear hfz9_1
  try clear hfz9_2
  try clear hfz9_3
  try clear hfz9_4
  try clear hfz9_5
  obtain ⟨x1_1, x330000_1, x330001_1, x330002_1, x330003_1, x330004_1, x330005_1, u330000, u330001, u330002, u330003, u330004, u330005, rfl, HA, HK1, HO_330000, HO_330001, HO_330002, HO_330003, HO_330004, HO_330005, BK310, BK329, HB⟩ := hrel
  cases gk with
  | zero => exact absurd HA.out (by simp [spec_foSwapperAt.l0])
  | succ k1 =>
   have H := HA.out
   clear HA
   simp only [spec_foSwapperAt.l0] at H
   by_cases c15 : x1_1 > 0
   ·rw [if_pos c15] at H
    have c15b0 : decide (0 < x1_1) = true := Z35 c15
    clear c15
    replace H := Z33.mp H
    obtain ⟨⟨t330, t333, t336, t339, t342, t345, t348⟩, A160, H⟩ := H
    replace H : (if t348 < 0 then (some (([] : List Int), ([] : List Int), ([] : List Bool), ([] : List Int), ([] : List Int), ([] : List Int), false)) else (spec_foSwapperAt.l0 k1 (wrap64 (x1_1 - 1)) t330 t333 t336 t339 t342 t345)) = some (r1, r2, r3, r4, r5, r6, r7) := H
    have A16 := Ya A160
    clear A160
    by_cases c17 : t348 < 0
    ·rw [if_pos c17] at H
     have c17b0 : decide (t348 < 0) = true := Z35 c17
     clear c17
     simp only [Option.some.injEq, Prod.mk.injEq] at H
     obtain ⟨rfl, rfl, rfl, rfl, rfl, rfl, rfl⟩ := H
     have hnb18 := NB329_310.out
     have hnc18 := NB310_329.out
     obtain ⟨hcz19_0, hcz19_1, hcz19_2, hcz19_3, hcz19_4, hcz19_5, hfz19_0, hfz19_1, hfz19_2, hfz19_3, hfz19_4, hfz19_5⟩ := Y6 BK329.out
     obtain ⟨Ao20, co20, rfl⟩ := Z18 HO_330000.out
     obtain ⟨Ao21, co21, rfl⟩ := Z18 HO_330001.out
     obtain ⟨Ao22, co22, rfl⟩ := Z18 HO_330002.out
     obtain ⟨Ao23, co23, rfl⟩ := Z18 HO_330003.out
     obtain ⟨Ao24, co24, rfl⟩ := Z18 HO_330004.out
     obtain ⟨Ao25, co25, rfl⟩ := Z18 HO_330005.out
     go_wp2_with (first | ((with_reducible refine gate_callee (f := 55) rfl ?_); refine Yz 17 Try.func55 #[.agg #[.slice Ao20 x330000_1.length co20, .slice Ao21 x330001_1.length co21, .slice Ao22 x330002_1.length co22, .slice Ao23 x330003_1.length co23, .slice Ao24 x330004_1.length co24, .slice Ao25 x330005_1.length co25]] ?_; (with_reducible refine (spec_foSwap.calls k1 _ _ x330000_1 _ _ x330001_1 _ _ x330002_1 _ _ x330003_1 _ _ x330004_1 _ _ x330005_1 t330 t333 t336 t339 t342 t345 t348 _ (Yc (Kd.R_reads' HO_330000.out).2.2) ((Kd.R_reads' HO_330000.out).2.1) (Yc (Kd.R_reads' HO_330001.out).2.2) ((Kd.R_reads' HO_330001.out).2.1) (Yc (Kd.R_reads' HO_330002.out).2.2) ((Kd.R_reads' HO_330002.out).2.1) (Yc (Kd.R_reads' HO_330003.out).2.2) ((Kd.R_reads' HO_330003.out).2.1) (Yc (Kd.R_reads' HO_330004.out).2.2) ((Kd.R_reads' HO_330004.out).2.1) (Yc (Kd.R_reads' HO_330005.out).2.2) ((Kd.R_reads' HO_330005.out).2.1) A16.out).mono ?_); rintro e w26 ⟨v331, v334, v337, v340, v343, v346, rfl, ho0, ho1, ho2, ho3, ho4, ho5, hb⟩; refine ⟨_, rfl, ?_⟩; have HO332 := Yl (Kd.R_new' (Kd.R_new' (Kd.R_new' (Kd.R_new' (Kd.R_new' ho0 (Z17 (Yr HO_330000.out))) (Z17 (Yr HO_330001.out))) (Z17 (Yr HO_330003.out))) (Z17 (Yr HO_330004.out))) (Z17 (Yr HO_330005.out))); have HO335 := Yl (Kd.R_new' (Kd.R_new' (Kd.R_new' (Kd.R_new' (Kd.R_new' ho1 (Z17 (Yr HO_330000.out))) (Z17 (Yr HO_330001.out))) (Z17 (Yr HO_330003.out))) (Z17 (Yr HO_330004.out))) (Z17 (Yr HO_330005.out))); have HO338 := Yl (Kd.R_new' ho2 (Z17 (Yr HO_330002.out))); replace HO_330002 := Ya (Kd.R_elder' (Yr HO_330002.out) (Kd.R_base ho2) hb); have HO341 := Yl (Kd.R_new' (Kd.R_new' (Kd.R_new' (Kd.R_new' (Kd.R_new' ho3 (Z17 (Yr HO_330000.out))) (Z17 (Yr HO_330001.out))) (Z17 (Yr HO_330003.out))) (Z17 (Yr HO_330004.out))) (Z17 (Yr HO_330005.out))); have HO344 := Yl (Kd.R_new' (Kd.R_new' (Kd.R_new' (Kd.R_new' (Kd.R_new' ho4 (Z17 (Yr HO_330000.out))) (Z17 (Yr HO_330001.out))) (Z17 (Yr HO_330003.out))) (Z17 (Yr HO_330004.out))) (Z17 (Yr HO_330005.out))); have HO347 := Yl (Kd.R_new' (Kd.R_new' (Kd.R_new' (Kd.R_new' (Kd.R_new' ho5 (Z17 (Yr HO_330000.out))) (Z17 (Yr HO_330001.out))) (Z17 (Yr HO_330003.out))) (Z17 (Yr HO_330004.out))) (Z17 (Yr HO_330005.out))); replace HO_330000 := Ya (Z11 (Z15 (Z15 (Z15 (Z15 (Z15 (Z16 (Yr HO_330000.out) hb) (Kd.R_base ho0)) (Kd.R_base ho1)) (Kd.R_base ho3)) (Kd.R_base ho4)) (Kd.R_base ho5)) (fun _ h_ => h_.1)); replace HO_330001 := Ya (Z11 (Z15 (Z15 (Z15 (Z15 (Z15 (Z16 (Yr HO_330001.out) hb) (Kd.R_base ho0)) (Kd.R_base ho1)) (Kd.R_base ho3)) (Kd.R_base ho4)) (Kd.R_base ho5)) (fun _ h_ => h_.1)); replace HO_330003 := Ya (Z11 (Z15 (Z15 (Z15 (Z15 (Z15 (Z16 (Yr HO_330003.out) hb) (Kd.R_base ho0)) (Kd.R_base ho1)) (Kd.R_base ho3)) (Kd.R_base ho4)) (Kd.R_base ho5)) (fun _ h_ => h_.1)); replace HO_330004 := Ya (Z11 (Z15 (Z15 (Z15 (Z15 (Z15 (Z16 (Yr HO_330004.out) hb) (Kd.R_base ho0)) (Kd.R_base ho1)) (Kd.R_base ho3)) (Kd.R_base ho4)) (Kd.R_base ho5)) (fun _ h_ => h_.1)); replace HO_330005 := Ya (Z11 (Z15 (Z15 (Z15 (Z15 (Z15 (Z16 (Yr HO_330005.out) hb) (Kd.R_base ho0)) (Kd.R_base ho1)) (Kd.R_base ho3)) (Kd.R_base ho4)) (Kd.R_base ho5)) (fun _ h_ => h_.1)); replace BK310 := Yb BK310 hb; replace BK329 := Yb BK329 hb; replace HB := Yh hb; (try clear hb ho0 ho1 ho2 ho3 ho4 ho5)) | ((with_reducible refine gate_dst (N := 7) rfl ?_); refine Yx 7 #[.slice none 0 0, .slice none 0 0, .slice none 0 0, .slice none 0 0, .slice none 0 0, .slice none 0 0] 35 ?_; intro gb349 hg w27 hbox hb; replace HO_330000 := Yw HO_330000 hb; replace HO_330001 := Yw HO_330001 hb; replace HO_330002 := Yw HO_330002 hb; replace HO_330003 := Yw HO_330003 hb; replace HO_330004 := Yw HO_330004 hb; replace HO_330005 := Yw HO_330005 hb; replace HO332 := Yw HO332 hb; replace HO335 := Yw HO335 hb; replace HO338 := Yw HO338 hb; replace HO341 := Yw HO341 hb; replace HO344 := Yw HO344 hb; replace HO347 := Yw HO347 hb; have BK349 := Ya hbox; have GE349 := Yg hg; replace HB := Yh hb; have NB310_349 := Yn BK310 hg; have NB349_310 := Ym BK310 hg; replace BK310 := Yb BK310 hb; have NB329_349 := Yn BK329 hg; have NB349_329 := Ym BK329 hg; replace BK329 := Yb BK329 hb; clear hb hbox hg; obtain ⟨Ao28, co28, rfl⟩ := Z18 HO332.out; have hnb29 := NB349_310.out; have hnc29 := NB310_349.out; have hnb30 := NB349_329.out; have hnc30 := NB329_349.out; have hz31 := Y6 BK349.out; obtain ⟨Ao32, co32, rfl⟩ := Z18 HO335.out; obtain ⟨Ao33, co33, rfl⟩ := Z18 HO338.out; obtain ⟨Ao34, co34, rfl⟩ := Z18 HO341.out; obtain ⟨Ao35, co35, rfl⟩ := Z18 HO344.out; obtain ⟨Ao36, co36, rfl⟩ := Z18 HO347.out; have hz37 := Y6 BK310.out))
     refine bodyPost_ret (results_ct rfl _ _ gb310 35 #[.slice none 0 0, .slice none 0 0, .slice none 0 0, .slice none 0 0, .slice none 0 0, .slice none 0 0] (0, 0) _ rfl (by (with_reducible repeat (first | refine Z22 ?_ _ | refine Z23 ?_ | refine Z24 ?_ _)); refine Z26 (cs := #[.slice none 0 0, .slice none 0 0, .slice none 0 0, .slice none 0 0, .slice none 0 0, .slice none 0 0]) ?_ 5 _ rfl; (with_reducible repeat (first | refine Z22 ?_ _ | refine Z23 ?_ | refine Z24 ?_ _)); refine Z26 (cs := #[.slice none 0 0, .slice none 0 0, .slice none 0 0, .slice none 0 0, .slice none 0 0, .slice none 0 0]) ?_ 4 _ rfl; (with_reducible repeat (first | refine Z22 ?_ _ | refine Z23 ?_ | refine Z24 ?_ _)); refine Z26 (cs := #[.slice none 0 0, .slice none 0 0, .slice none 0 0, .slice none 0 0, .slice none 0 0, .slice none 0 0]) ?_ 3 _ rfl; (with_reducible repeat (first | refine Z22 ?_ _ | refine Z23 ?_ | refine Z24 ?_ _)); refine Z26 (cs := #[.slice none 0 0, .slice none 0 0, .slice none 0 0, .slice none 0 0, .slice none 0 0, .slice none 0 0]) ?_ 2 _ rfl; (with_reducible repeat (first | refine Z22 ?_ _ | refine Z23 ?_ | refine Z24 ?_ _)); refine Z26 (cs := #[.slice none 0 0, .slice none 0 0, .slice none 0 0, .slice none 0 0, .slice none 0 0, .slice none 0 0]) ?_ 1 _ rfl; (with_reducible repeat (first | refine Z22 ?_ _ | refine Z23 ?_ | refine Z24 ?_ _)); refine Z26 (cs := #[.slice none 0 0, .slice none 0 0, .slice none 0 0, .slice none 0 0, .slice none 0 0, .slice none 0 0]) ?_ 0 _ rfl; (with_reducible repeat (first | refine Z22 ?_ _ | refine Z23 ?_ | refine Z24 ?_ _)); refine blk_far ?_ NB310_349.out _; (with_reducible repeat (first | refine Z22 ?_ _ | refine Z23 ?_ | refine Z24 ?_ _)); refine blk_far ?_ NB310_349.out _; (with_reducible repeat (first | refine Z22 ?_ _ | refine Z23 ?_ | refine Z24 ?_ _)); refine blk_far ?_ NB310_349.out _; (with_reducible repeat (first | refine Z22 ?_ _ | refine Z23 ?_ | refine Z24 ?_ _)); refine blk_far ?_ NB310_349.out _; (with_reducible repeat (first | refine Z22 ?_ _ | refine Z23 ?_ | refine Z24 ?_ _)); refine blk_far ?_ NB310_349.out _; (with_reducible repeat (first | refine Z22 ?_ _ | refine Z23 ?_ | refine Z24 ?_ _)); refine blk_far ?_ NB310_349.out _; (with_reducible repeat (first | refine Z22 ?_ _ | refine Z23 ?_ | refine Z24 ?_ _)); exact BK310.out) Try.underlying35 rfl (by kernel_rfl)) rfl ?_
     exact ⟨_, _, _, _, _, _, Q2, Q8, Q8, Q8, Q8, Q8, Q8, Q12⟩
    ·rw [if_neg c17] at H
     have c17b0 : decide (t348 < 0) = false := Z34 c17
     clear c17
     have H' := Ya H
     clear H
     have hnb38 := NB329_310.out
     have hnc38 := NB310_329.out
     have hz39 := Y6 BK329.out
     obtain ⟨Ao40, co40, rfl⟩ := Z18 HO_330000.out
     obtain ⟨Ao41, co41, rfl⟩ := Z18 HO_330001.out
     obtain ⟨Ao42, co42, rfl⟩ := Z18 HO_330002.out
     obtain ⟨Ao43, co43, rfl⟩ := Z18 HO_330003.out
     obtain ⟨Ao44, co44, rfl⟩ := Z18 HO_330004.out
     obtain ⟨Ao45, co45, rfl⟩ := Z18 HO_330005.out
     go_wp2_with (first | ((with_reducible refine gate_callee (f := 55) rfl ?_); refine Yz 17 Try.func55 #[.agg #[.slice Ao40 x330000_1.length co40, .slice Ao41 x330001_1.length co41, .slice Ao42 x330002_1.length co42, .slice Ao43 x330003_1.length co43, .slice Ao44 x330004_1.length co44, .slice Ao45 x330005_1.length co45]] ?_; (with_reducible refine (spec_foSwap.calls k1 _ _ x330000_1 _ _ x330001_1 _ _ x330002_1 _ _ x330003_1 _ _ x330004_1 _ _ x330005_1 t330 t333 t336 t339 t342 t345 t348 _ (Yc (Kd.R_reads' HO_330000.out).2.2) ((Kd.R_reads' HO_330000.out).2.1) (Yc (Kd.R_reads' HO_330001.out).2.2) ((Kd.R_reads' HO_330001.out).2.1) (Yc (Kd.R_reads' HO_330002.out).2.2) ((Kd.R_reads' HO_330002.out).2.1) (Yc (Kd.R_reads' HO_330003.out).2.2) ((Kd.R_reads' HO_330003.out).2.1) (Yc (Kd.R_reads' HO_330004.out).2.2) ((Kd.R_reads' HO_330004.out).2.1) (Yc (Kd.R_reads' HO_330005.out).2.2) ((Kd.R_reads' HO_330005.out).2.1) A16.out).mono ?_); rintro e w46 ⟨v331, v334, v337, v340, v343, v346, rfl, ho0, ho1, ho2, ho3, ho4, ho5, hb⟩; refine ⟨_, rfl, ?_⟩; have HO332 := Yl (Kd.R_new' (Kd.R_new' (Kd.R_new' (Kd.R_new' (Kd.R_new' ho0 (Z17 (Yr HO_330000.out))) (Z17 (Yr HO_330001.out))) (Z17 (Yr HO_330003.out))) (Z17 (Yr HO_330004.out))) (Z17 (Yr HO_330005.out))); have HO335 := Yl (Kd.R_new' (Kd.R_new' (Kd.R_new' (Kd.R_new' (Kd.R_new' ho1 (Z17 (Yr HO_330000.out))) (Z17 (Yr HO_330001.out))) (Z17 (Yr HO_330003.out))) (Z17 (Yr HO_330004.out))) (Z17 (Yr HO_330005.out))); have HO338 := Yl (Kd.R_new' ho2 (Z17 (Yr HO_330002.out))); replace HO_330002 := Ya (Kd.R_elder' (Yr HO_330002.out) (Kd.R_base ho2) hb); have HO341 := Yl (Kd.R_new' (Kd.R_new' (Kd.R_new' (Kd.R_new' (Kd.R_new' ho3 (Z17 (Yr HO_330000.out))) (Z17 (Yr HO_330001.out))) (Z17 (Yr HO_330003.out))) (Z17 (Yr HO_330004.out))) (Z17 (Yr HO_330005.out))); have HO344 := Yl (Kd.R_new' (Kd.R_new' (Kd.R_new' (Kd.R_new' (Kd.R_new' ho4 (Z17 (Yr HO_330000.out))) (Z17 (Yr HO_330001.out))) (Z17 (Yr HO_330003.out))) (Z17 (Yr HO_330004.out))) (Z17 (Yr HO_330005.out))); have HO347 := Yl (Kd.R_new' (Kd.R_new' (Kd.R_new' (Kd.R_new' (Kd.R_new' ho5 (Z17 (Yr HO_330000.out))) (Z17 (Yr HO_330001.out))) (Z17 (Yr HO_330003.out))) (Z17 (Yr HO_330004.out))) (Z17 (Yr HO_330005.out))); replace HO_330000 := Ya (Z11 (Z15 (Z15 (Z15 (Z15 (Z15 (Z16 (Yr HO_330000.out) hb) (Kd.R_base ho0)) (Kd.R_base ho1)) (Kd.R_base ho3)) (Kd.R_base ho4)) (Kd.R_base ho5)) (fun _ h_ => h_.1)); replace HO_330001 := Ya (Z11 (Z15 (Z15 (Z15 (Z15 (Z15 (Z16 (Yr HO_330001.out) hb) (Kd.R_base ho0)) (Kd.R_base ho1)) (Kd.R_base ho3)) (Kd.R_base ho4)) (Kd.R_base ho5)) (fun _ h_ => h_.1)); replace HO_330003 := Ya (Z11 (Z15 (Z15 (Z15 (Z15 (Z15 (Z16 (Yr HO_330003.out) hb) (Kd.R_base ho0)) (Kd.R_base ho1)) (Kd.R_base ho3)) (Kd.R_base ho4)) (Kd.R_base ho5)) (fun _ h_ => h_.1)); replace HO_330004 := Ya (Z11 (Z15 (Z15 (Z15 (Z15 (Z15 (Z16 (Yr HO_330004.out) hb) (Kd.R_base ho0)) (Kd.R_base ho1)) (Kd.R_base ho3)) (Kd.R_base ho4)) (Kd.R_base ho5)) (fun _ h_ => h_.1)); replace HO_330005 := Ya (Z11 (Z15 (Z15 (Z15 (Z15 (Z15 (Z16 (Yr HO_330005.out) hb) (Kd.R_base ho0)) (Kd.R_base ho1)) (Kd.R_base ho3)) (Kd.R_base ho4)) (Kd.R_base ho5)) (fun _ h_ => h_.1)); replace BK310 := Yb BK310 hb; replace BK329 := Yb BK329 hb; replace HB := Yh hb; (try clear hb ho0 ho1 ho2 ho3 ho4 ho5)) | ((with_reducible refine gate_dst (N := 7) rfl ?_); refine Yx 7 #[.slice none 0 0, .slice none 0 0, .slice none 0 0, .slice none 0 0, .slice none 0 0, .slice none 0 0] 35 ?_; intro gb349 hg w47 hbox hb; replace HO_330000 := Yw HO_330000 hb; replace HO_330001 := Yw HO_330001 hb; replace HO_330002 := Yw HO_330002 hb; replace HO_330003 := Yw HO_330003 hb; replace HO_330004 := Yw HO_330004 hb; replace HO_330005 := Yw HO_330005 hb; replace HO332 := Yw HO332 hb; replace HO335 := Yw HO335 hb; replace HO338 := Yw HO338 hb; replace HO341 := Yw HO341 hb; replace HO344 := Yw HO344 hb; replace HO347 := Yw HO347 hb; have BK349 := Ya hbox; have GE349 := Yg hg; replace HB := Yh hb; have NB310_349 := Yn BK310 hg; have NB349_310 := Ym BK310 hg; replace BK310 := Yb BK310 hb; have NB329_349 := Yn BK329 hg; have NB349_329 := Ym BK329 hg; replace BK329 := Yb BK329 hb; clear hb hbox hg; obtain ⟨Ao48, co48, rfl⟩ := Z18 HO332.out; have hnb49 := NB349_310.out; have hnc49 := NB310_349.out; have hnb50 := NB349_329.out; have hnc50 := NB329_349.out; have hz51 := Y6 BK349.out; obtain ⟨Ao52, co52, rfl⟩ := Z18 HO335.out; obtain ⟨Ao53, co53, rfl⟩ := Z18 HO338.out; obtain ⟨Ao54, co54, rfl⟩ := Z18 HO341.out; obtain ⟨Ao55, co55, rfl⟩ := Z18 HO344.out; obtain ⟨Ao56, co56, rfl⟩ := Z18 HO347.out; have hz57 := Y6 BK329.out))
     go_roundg k1
     case measure => have := HK1.out; omega
     case rel => exact ⟨(wrap64 (x1_1 - 1)), (t330), (t333), (t336), (t339), (t342), (t345), (.slice Ao48 t330.length co48), (.slice Ao52 t333.length co52), (.slice Ao53 t336.length co53), (.slice Ao54 t339.length co54), (.slice Ao55 t342.length co55), (.slice Ao56 t345.length co56), Q7, H', ⟨Q30⟩, ⟨by (with_reducible repeat (first | apply Z8 | apply Z9 | apply Z10)); exact Z11 (Z12 (p := ⟨gb329, 5, none⟩) (Z12 (p := ⟨gb329, 4, none⟩) (Z12 (p := ⟨gb329, 3, none⟩) (Z12 (p := ⟨gb329, 2, none⟩) (Z12 (p := ⟨gb329, 1, none⟩) (Z12 (p := ⟨gb329, 0, none⟩) (Z12 (p := ⟨gb349, 5, none⟩) (Z12 (p := ⟨gb349, 4, none⟩) (Z12 (p := ⟨gb349, 3, none⟩) (Z12 (p := ⟨gb349, 2, none⟩) (Z12 (p := ⟨gb349, 1, none⟩) (Z12 (p := ⟨gb349, 0, none⟩) (Z14 (Z14 HO332.out BK349.out (by decide)) BK329.out (by decide)) (fun _ hk => hk.1.2) (.slice Ao48 t330.length co48)) (fun _ hk => hk.1.2) (.slice Ao52 t333.length co52)) (fun _ hk => hk.1.2) (.slice Ao53 t336.length co53)) (fun _ hk => hk.1.2) (.slice Ao54 t339.length co54)) (fun _ hk => hk.1.2) (.slice Ao55 t342.length co55)) (fun _ hk => hk.1.2) (.slice Ao56 t345.length co56)) (fun _ hk => hk.2) (.slice Ao48 t330.length co48)) (fun _ hk => hk.2) (.slice Ao52 t333.length co52)) (fun _ hk => hk.2) (.slice Ao53 t336.length co53)) (fun _ hk => hk.2) (.slice Ao54 t339.length co54)) (fun _ hk => hk.2) (.slice Ao55 t342.length co55)) (fun _ hk => hk.2) (.slice Ao56 t345.length co56)) (fun _ hk => ⟨hk.1.1.1.1.1.1.1.1, ⟨hk.1.1.1.1.1.1.1.2.1, ⟨hk.1.1.1.1.1.1.1.2.2.1, hk.1.1.1.1.1.1.1.2.2.2⟩⟩⟩)⟩, ⟨by (with_reducible repeat (first | apply Z8 | apply Z9 | apply Z10)); exact Z11 (Z12 (p := ⟨gb329, 5, none⟩) (Z12 (p := ⟨gb329, 4, none⟩) (Z12 (p := ⟨gb329, 3, none⟩) (Z12 (p := ⟨gb329, 2, none⟩) (Z12 (p := ⟨gb329, 1, none⟩) (Z12 (p := ⟨gb329, 0, none⟩) (Z12 (p := ⟨gb349, 5, none⟩) (Z12 (p := ⟨gb349, 4, none⟩) (Z12 (p := ⟨gb349, 3, none⟩) (Z12 (p := ⟨gb349, 2, none⟩) (Z12 (p := ⟨gb349, 1, none⟩) (Z12 (p := ⟨gb349, 0, none⟩) (Z14 (Z14 HO335.out BK349.out (by decide)) BK329.out (by decide)) (fun _ hk => hk.1.2) (.slice Ao48 t330.length co48)) (fun _ hk => hk.1.2) (.slice Ao52 t333.length co52)) (fun _ hk => hk.1.2) (.slice Ao53 t336.length co53)) (fun _ hk => hk.1.2) (.slice Ao54 t339.length co54)) (fun _ hk => hk.1.2) (.slice Ao55 t342.length co55)) (fun _ hk => hk.1.2) (.slice Ao56 t345.length co56)) (fun _ hk => hk.2) (.slice Ao48 t330.length co48)) (fun _ hk => hk.2) (.slice Ao52 t333.length co52)) (fun _ hk => hk.2) (.slice Ao53 t336.length co53)) (fun _ hk => hk.2) (.slice Ao54 t339.length co54)) (fun _ hk => hk.2) (.slice Ao55 t342.length co55)) (fun _ hk => hk.2) (.slice Ao56 t345.length co56)) (fun _ hk => ⟨hk.1.1.1.1.1.1.1.1, ⟨hk.1.1.1.1.1.1.1.2.1, ⟨hk.1.1.1.1.1.1.1.2.2.1, hk.1.1.1.1.1.1.1.2.2.2⟩⟩⟩)⟩, ⟨by (with_reducible repeat (first | apply Z8 | apply Z9 | apply Z10)); exact Z11 (Z12 (p := ⟨gb329, 5, none⟩) (Z12 (p := ⟨gb329, 4, none⟩) (Z12 (p := ⟨gb329, 3, none⟩) (Z12 (p := ⟨gb329, 2, none⟩) (Z12 (p := ⟨gb329, 1, none⟩) (Z12 (p := ⟨gb329, 0, none⟩) (Z12 (p := ⟨gb349, 5, none⟩) (Z12 (p := ⟨gb349, 4, none⟩) (Z12 (p := ⟨gb349, 3, none⟩) (Z12 (p := ⟨gb349, 2, none⟩) (Z12 (p := ⟨gb349, 1, none⟩) (Z12 (p := ⟨gb349, 0, none⟩) (Z14 (Z14 HO338.out BK349.out (by decide)) BK329.out (by decide)) (fun _ hk => hk.1.2) (.slice Ao48 t330.length co48)) (fun _ hk => hk.1.2) (.slice Ao52 t333.length co52)) (fun _ hk => hk.1.2) (.slice Ao53 t336.length co53)) (fun _ hk => hk.1.2) (.slice Ao54 t339.length co54)) (fun _ hk => hk.1.2) (.slice Ao55 t342.length co55)) (fun _ hk => hk.1.2) (.slice Ao56 t345.length co56)) (fun _ hk => hk.2) (.slice Ao48 t330.length co48)) (fun _ hk => hk.2) (.slice Ao52 t333.length co52)) (fun _ hk => hk.2) (.slice Ao53 t336.length co53)) (fun _ hk => hk.2) (.slice Ao54 t339.length co54)) (fun _ hk => hk.2) (.slice Ao55 t342.length co55)) (fun _ hk => hk.2) (.slice Ao56 t345.length co56)) (fun _ hk => trivial)⟩, ⟨by (with_reducible repeat (first | apply Z8 | apply Z9 | apply Z10)); exact Z11 (Z12 (p := ⟨gb329, 5, none⟩) (Z12 (p := ⟨gb329, 4, none⟩) (Z12 (p := ⟨gb329, 3, none⟩) (Z12 (p := ⟨gb329, 2, none⟩) (Z12 (p := ⟨gb329, 1, none⟩) (Z12 (p := ⟨gb329, 0, none⟩) (Z12 (p := ⟨gb349, 5, none⟩) (Z12 (p := ⟨gb349, 4, none⟩) (Z12 (p := ⟨gb349, 3, none⟩) (Z12 (p := ⟨gb349, 2, none⟩) (Z12 (p := ⟨gb349, 1, none⟩) (Z12 (p := ⟨gb349, 0, none⟩) (Z14 (Z14 HO341.out BK349.out (by decide)) BK329.out (by decide)) (fun _ hk => hk.1.2) (.slice Ao48 t330.length co48)) (fun _ hk => hk.1.2) (.slice Ao52 t333.length co52)) (fun _ hk => hk.1.2) (.slice Ao53 t336.length co53)) (fun _ hk => hk.1.2) (.slice Ao54 t339.length co54)) (fun _ hk => hk.1.2) (.slice Ao55 t342.length co55)) (fun _ hk => hk.1.2) (.slice Ao56 t345.length co56)) (fun _ hk => hk.2) (.slice Ao48 t330.length co48)) (fun _ hk => hk.2) (.slice Ao52 t333.length co52)) (fun _ hk => hk.2) (.slice Ao53 t336.length co53)) (fun _ hk => hk.2) (.slice Ao54 t339.length co54)) (fun _ hk => hk.2) (.slice Ao55 t342.length co55)) (fun _ hk => hk.2) (.slice Ao56 t345.length co56)) (fun _ hk => ⟨hk.1.1.1.1.1.1.1.1, ⟨hk.1.1.1.1.1.1.1.2.1, ⟨hk.1.1.1.1.1.1.1.2.2.1, hk.1.1.1.1.1.1.1.2.2.2⟩⟩⟩)⟩, ⟨by (with_reducible repeat (first | apply Z8 | apply Z9 | apply Z10)); exact Z11 (Z12 (p := ⟨gb329, 5, none⟩) (Z12 (p := ⟨gb329, 4, none⟩) (Z12 (p := ⟨gb329, 3, none⟩) (Z12 (p := ⟨gb329, 2, none⟩) (Z12 (p := ⟨gb329, 1, none⟩) (Z12 (p := ⟨gb329, 0, none⟩) (Z12 (p := ⟨gb349, 5, none⟩) (Z12 (p := ⟨gb349, 4, none⟩) (Z12 (p := ⟨gb349, 3, none⟩) (Z12 (p := ⟨gb349, 2, none⟩) (Z12 (p := ⟨gb349, 1, none⟩) (Z12 (p := ⟨gb349, 0, none⟩) (Z14 (Z14 HO344.out BK349.out (by decide)) BK329.out (by decide)) (fun _ hk => hk.1.2) (.slice Ao48 t330.length co48)) (fun _ hk => hk.1.2) (.slice Ao52 t333.length co52)) (fun _ hk => hk.1.2) (.slice Ao53 t336.length co53)) (fun _ hk => hk.1.2) (.slice Ao54 t339.length co54)) (fun _ hk => hk.1.2) (.slice Ao55 t342.length co55)) (fun _ hk => hk.1.2) (.slice Ao56 t345.length co56)) (fun _ hk => hk.2) (.slice Ao48 t330.length co48)) (fun _ hk => hk.2) (.slice Ao52 t333.length co52)) (fun _ hk => hk.2) (.slice Ao53 t336.length co53)) (fun _ hk => hk.2) (.slice Ao54 t339.length co54)) (fun _ hk => hk.2) (.slice Ao55 t342.length co55)) (fun _ hk => hk.2) (.slice Ao56 t345.length co56)) (fun _ hk => ⟨hk.1.1.1.1.1.1.1.1, ⟨hk.1.1.1.1.1.1.1.2.1, ⟨hk.1.1.1.1.1.1.1.2.2.1, hk.1.1.1.1.1.1.1.2.2.2⟩⟩⟩)⟩, ⟨by (with_reducible repeat (first | apply Z8 | apply Z9 | apply Z10)); exact Z11 (Z12 (p := ⟨gb329, 5, none⟩) (Z12 (p := ⟨gb329, 4, none⟩) (Z12 (p := ⟨gb329, 3, none⟩) (Z12 (p := ⟨gb329, 2, none⟩) (Z12 (p := ⟨gb329, 1, none⟩) (Z12 (p := ⟨gb329, 0, none⟩) (Z12 (p := ⟨gb349, 5, none⟩) (Z12 (p := ⟨gb349, 4, none⟩) (Z12 (p := ⟨gb349, 3, none⟩) (Z12 (p := ⟨gb349, 2, none⟩) (Z12 (p := ⟨gb349, 1, none⟩) (Z12 (p := ⟨gb349, 0, none⟩) (Z14 (Z14 HO347.out BK349.out (by decide)) BK329.out (by decide)) (fun _ hk => hk.1.2) (.slice Ao48 t330.length co48)) (fun _ hk => hk.1.2) (.slice Ao52 t333.length co52)) (fun _ hk => hk.1.2) (.slice Ao53 t336.length co53)) (fun _ hk => hk.1.2) (.slice Ao54 t339.length co54)) (fun _ hk => hk.1.2) (.slice Ao55 t342.length co55)) (fun _ hk => hk.1.2) (.slice Ao56 t345.length co56)) (fun _ hk => hk.2) (.slice Ao48 t330.length co48)) (fun _ hk => hk.2) (.slice Ao52 t333.length co52)) (fun _ hk => hk.2) (.slice Ao53 t336.length co53)) (fun _ hk => hk.2) (.slice Ao54 t339.length co54)) (fun _ hk => hk.2) (.slice Ao55 t342.length co55)) (fun _ hk => hk.2) (.slice Ao56 t345.length co56)) (fun _ hk => ⟨hk.1.1.1.1.1.1.1.1, ⟨hk.1.1.1.1.1.1.1.2.1, ⟨hk.1.1.1.1.1.1.1.2.2.1, hk.1.1.1.1.1.1.1.2.2.2⟩⟩⟩)⟩, ⟨by (with_reducible repeat (first | refine Z22 ?_ _ | refine Z23 ?_ | refine Z24 ?_ _)); refine blk_far ?_ NB310_329.out _; (with_reducible repeat (first | refine Z22 ?_ _ | refine Z23 ?_ | refine Z24 ?_ _)); refine blk_far ?_ NB310_329.out _; (with_reducible repeat (first | refine Z22 ?_ _ | refine Z23 ?_ | refine Z24 ?_ _)); refine blk_far ?_ NB310_329.out _; (with_reducible repeat (first | refine Z22 ?_ _ | refine Z23 ?_ | refine Z24 ?_ _)); refine blk_far ?_ NB310_329.out _; (with_reducible repeat (first | refine Z22 ?_ _ | refine Z23 ?_ | refine Z24 ?_ _)); refine blk_far ?_ NB310_329.out _; (with_reducible repeat (first | refine Z22 ?_ _ | refine Z23 ?_ | refine Z24 ?_ _)); refine blk_far ?_ NB310_329.out _; (with_reducible repeat (first | refine Z22 ?_ _ | refine Z23 ?_ | refine Z24 ?_ _)); refine blk_far ?_ NB310_349.out _; (with_reducible repeat (first | refine Z22 ?_ _ | refine Z23 ?_ | refine Z24 ?_ _)); refine blk_far ?_ NB310_349.out _; (with_reducible repeat (first | refine Z22 ?_ _ | refine Z23 ?_ | refine Z24 ?_ _)); refine blk_far ?_ NB310_349.out _; (with_reducible repeat (first | refine Z22 ?_ _ | refine Z23 ?_ | refine Z24 ?_ _)); refine blk_far ?_ NB310_349.out _; (with_reducible repeat (first | refine Z22 ?_ _ | refine Z23 ?_ | refine Z24 ?_ _)); refine blk_far ?_ NB310_349.out _; (with_reducible repeat (first | refine Z22 ?_ _ | refine Z23 ?_ | refine Z24 ?_ _)); refine blk_far ?_ NB310_349.out _; (with_reducible repeat (first | refine Z22 ?_ _ | refine Z23 ?_ | refine Z24 ?_ _)); exact BK310.out⟩, ⟨by (with_reducible repeat (first | refine Z22 ?_ _ | refine Z23 ?_ | refine Z24 ?_ _)); refine Z26 (cs := #[.slice Ao48 t330.length co48, .slice Ao52 t333.length co52, .slice Ao53 t336.length co53, .slice Ao54 t339.length co54, .slice Ao55 t342.length co55, .slice Ao45 x330005_1.length co45]) ?_ 5 _ rfl; (with_reducible repeat (first | refine Z22 ?_ _ | refine Z23 ?_ | refine Z24 ?_ _)); refine Z26 (cs := #[.slice Ao48 t330.length co48, .slice Ao52 t333.length co52, .slice Ao53 t336.length co53, .slice Ao54 t339.length co54, .slice Ao44 x330004_1.length co44, .slice Ao45 x330005_1.length co45]) ?_ 4 _ rfl; (with_reducible repeat (first | refine Z22 ?_ _ | refine Z23 ?_ | refine Z24 ?_ _)); refine Z26 (cs := #[.slice Ao48 t330.length co48, .slice Ao52 t333.length co52, .slice Ao53 t336.length co53, .slice Ao43 x330003_1.length co43, .slice Ao44 x330004_1.length co44, .slice Ao45 x330005_1.length co45]) ?_ 3 _ rfl; (with_reducible repeat (first | refine Z22 ?_ _ | refine Z23 ?_ | refine Z24 ?_ _)); refine Z26 (cs := #[.slice Ao48 t330.length co48, .slice Ao52 t333.length co52, .slice Ao42 x330002_1.length co42, .slice Ao43 x330003_1.length co43, .slice Ao44 x330004_1.length co44, .slice Ao45 x330005_1.length co45]) ?_ 2 _ rfl; (with_reducible repeat (first | refine Z22 ?_ _ | refine Z23 ?_ | refine Z24 ?_ _)); refine Z26 (cs := #[.slice Ao48 t330.length co48, .slice Ao41 x330001_1.length co41, .slice Ao42 x330002_1.length co42, .slice Ao43 x330003_1.length co43, .slice Ao44 x330004_1.length co44, .slice Ao45 x330005_1.length co45]) ?_ 1 _ rfl; (with_reducible repeat (first | refine Z22 ?_ _ | refine Z23 ?_ | refine Z24 ?_ _)); refine Z26 (cs := #[.slice Ao40 x330000_1.length co40, .slice Ao41 x330001_1.length co41, .slice Ao42 x330002_1.length co42, .slice Ao43 x330003_1.length co43, .slice Ao44 x330004_1.length co44, .slice Ao45 x330005_1.length co45]) ?_ 0 _ rfl; (with_reducible repeat (first | refine Z22 ?_ _ | refine Z23 ?_ | refine Z24 ?_ _)); refine blk_far ?_ NB329_349.out _; (with_reducible repeat (first | refine Z22 ?_ _ | refine Z23 ?_ | refine Z24 ?_ _)); refine blk_far ?_ NB329_349.out _; (with_reducible repeat (first | refine Z22 ?_ _ | refine Z23 ?_ | refine Z24 ?_ _)); refine blk_far ?_ NB329_349.out _; (with_reducible repeat (first | refine Z22 ?_ _ | refine Z23 ?_ | refine Z24 ?_ _)); refine blk_far ?_ NB329_349.out _; (with_reducible repeat (first | refine Z22 ?_ _ | refine Z23 ?_ | refine Z24 ?_ _)); refine blk_far ?_ NB329_349.out _; (with_reducible repeat (first | refine Z22 ?_ _ | refine Z23 ?_ | refine Z24 ?_ _)); refine blk_far ?_ NB329_349.out _; (with_reducible repeat (first | refine Z22 ?_ _ | refine Z23 ?_ | refine Z24 ?_ _)); exact BK329.out⟩, ⟨Q12⟩⟩
   ·rw [if_neg c15] at H
    have c15b0 : decide (0 < x1_1) = false := Z34 c15
    clear c15
    simp only [Option.some.injEq, Prod.mk.injEq] at H
    obtain ⟨rfl, rfl, rfl, rfl, rfl, rfl, rfl⟩ := H
    have hnb58 := NB329_310.out
    have hnc58 := NB310_329.out
    have hz59 := Y6 BK329.out
    obtain ⟨Ao60, co60, rfl⟩ := Z18 HO_330000.out
    have hz61 := Y6 BK310.out
    obtain ⟨Ao62, co62, rfl⟩ := Z18 HO_330001.out
    obtain ⟨Ao63, co63, rfl⟩ := Z18 HO_330002.out
    obtain ⟨Ao64, co64, rfl⟩ := Z18 HO_330003.out
    obtain ⟨Ao65, co65, rfl⟩ := Z18 HO_330004.out
    obtain ⟨Ao66, co66, rfl⟩ := Z18 HO_330005.out
    go_wp2
    refine bodyPost_ret (results_ct rfl _ _ gb310 35 #[.slice Ao60 x330000_1.length co60, .slice Ao62 x330001_1.length co62, .slice Ao63 x330002_1.length co63, .slice Ao64 x330003_1.length co64, .slice Ao65 x330004_1.length co65, .slice Ao66 x330005_1.length co66] (0, 0) _ rfl (Yk (Yv6 BK310.out)) Try.underlying35 rfl (by kernel_rfl)) rfl ?_
    exact ⟨_, _, _, _, _, _, Q2, by (with_reducible repeat (first | apply Z8 | apply Z9 | apply Z10)); exact Z11 (Yf6 HO_330000.out BK310.out) (fun _ hk => ⟨hk.1.1, ⟨hk.1.2.1, ⟨hk.1.2.2.1, hk.1.2.2.2⟩⟩⟩), by (with_reducible repeat (first | apply Z8 | apply Z9 | apply Z10)); exact Z11 (Yf6 HO_330001.out BK310.out) (fun _ hk => ⟨hk.1.1, ⟨hk.1.2.1, ⟨hk.1.2.2.1, hk.1.2.2.2⟩⟩⟩), by (with_reducible repeat (first | apply Z8 | apply Z9 | apply Z10)); exact Z11 (Yf6 HO_330002.out BK310.out) (fun _ hk => trivial), by (with_reducible repeat (first | apply Z8 | apply Z9 | apply Z10)); exact Z11 (Yf6 HO_330003.out BK310.out) (fun _ hk => ⟨hk.1.1, ⟨hk.1.2.1, ⟨hk.1.2.2.1, hk.1.2.2.2⟩⟩⟩), by (with_reducible repeat (first | apply Z8 | apply Z9 | apply Z10)); exact Z11 (Yf6 HO_330004.out BK310.out) (fun _ hk => ⟨hk.1.1, ⟨hk.1.2.1, ⟨hk.1.2.2.1, hk.1.2.2.2⟩⟩⟩), by (with_reducible repeat (first | apply Z8 | apply Z9 | apply Z10)); exact Z11 (Yf6 HO_330005.out BK310.out) (fun _ hk => ⟨hk.1.1, ⟨hk.1.2.1, ⟨hk.1.2.2.1, hk.1.2.2.2⟩⟩⟩), Q12⟩
def spec_l1Has.l0 : Nat → Int → List Int → Int → Int → Option (Bool)
 | 0, _, _, _, _ => none
 | k + 1, x1, x7, x8, x9 => if x9 < x8 then (if 0 ≤ x9 then (if x9 < (x7.length : Int) then (if (rd x7 x9) = x1 then (some true) else (spec_l1Has.l0 k x1 x7 x8 (wrap64 (x9 + 1)))) else (none)) else (none)) else (some false)
def spec_l1Has.f (k : Nat) (l0 : List Int) (a1 : Int) : Option (Bool) := spec_l1Has.l0 k a1 l0 (l0.length : Int) 0
theorem spec_l1Has.mono_l : ∀ k, (∀ y0 y1 y2 y3, LeO (spec_l1Has.l0 k y0 y1 y2 y3) (spec_l1Has.l0 (k + 1) y0 y1 y2 y3))
 | 0 => fun _ _ _ _ r h => by simp [spec_l1Has.l0] at h
 | k + 1 => by
  have ih0 := spec_l1Has.mono_l k
  ·intro y0 y1 y2 y3
   unfold spec_l1Has.l0
   repeat' first
   | (with_reducible exact ih0 _ _ _ _)
   | (with_reducible exact LeO.refl _)
   | (with_reducible exact LeO.none _)
   | (with_reducible refine LeO.ite ?_ ?_)
   | (with_reducible refine LeO.bind ?_ (fun _ => ?_))
   | exact ih0 _ _ _ _
   | exact LeO.none _
   | refine LeO.ite ?_ ?_
   | refine LeO.bind ?_ (fun _ => ?_)
theorem spec_l1Has.mono : ∀ a0 a1 k, LeO (spec_l1Has.f k a0 a1) (spec_l1Has.f (k + 1) a0 a1) := by
 intro a0 a1 k
 have ih0 := spec_l1Has.mono_l k
 unfold spec_l1Has.f
 repeat' first
   | (with_reducible exact ih0 _ _ _ _)
   | (with_reducible exact LeO.refl _)
   | (with_reducible exact LeO.none _)
   | (with_reducible refine LeO.ite ?_ ?_)
   | (with_reducible refine LeO.bind ?_ (fun _ => ?_))
   | exact ih0 _ _ _ _
   | exact LeO.none _
   | refine LeO.ite ?_ ?_
   | refine LeO.bind ?_ (fun _ => ?_)
set_option maxHeartbeats 8000000 in
set_option maxRecDepth 100000 in
theorem spec_l1Has.calls (k : Nat) (A0 : Option Addr) (c0 : Nat) (l0 : List Int) (a1 : Int) (r : Bool) (w : World) (hr0 : Kd.C (Kd.int .i64) w A0 l0.length l0) (hc0 : l0.length ≤ c0) (h : spec_l1Has.f k l0 a1 = some r) :
  Calls Try.prog 83 #[.slice A0 l0.length c0, .int .i64 a1] w fun e w' => e = .returned (.bool r) ∧ Drawn0 w w' := by
 have HR0 := Ya hr0
 have HC0 := Ya hc0
 clear hr0 hc0
 have H : (spec_l1Has.l0 k a1 l0 (l0.length : Int) 0) = some r := h
 clear h
 have H' := Ya H
 clear H
 go_enter Try.func83, Try.ntmps83
 go_wp2
 go_loopg [9] k (fun kq v9 w' => ∃ (x9_1 : Int), v9 = .int .i64 x9_1 ∧ Aside0 (spec_l1Has.l0 kq a1 l0 (l0.length : Int) x9_1 = some r) ∧ Aside0 (kq ≤ k) ∧ Drawn0 w w')
 case atStart => exact ⟨(0), Q7, H', ⟨Nat.le_refl _⟩, Q5⟩
 case round =>
  clear H'
  try clear p2
  obtain ⟨x9_1, rfl, HA, HK1, ⟨m1, rfl⟩⟩ := hrel
  cases gk with
  | zero => exact absurd HA.out (by simp [spec_l1Has.l0])
  | succ k1 =>
   have H := HA.out
   clear HA
   simp only [spec_l1Has.l0] at H
   by_cases c3 : x9_1 < (l0.length : Int)
   ·rw [if_pos c3] at H
    have c3b0 : decide (x9_1 < (l0.length : Int)) = true := Z35 c3
    clear c3
    by_cases c4 : 0 ≤ x9_1
    ·rw [if_pos c4] at H
     have c4b0 : decide (0 ≤ x9_1) = true := Z35 c4
     clear c4
     by_cases c5 : x9_1 < (l0.length : Int)
     ·rw [if_pos c5] at H
      have c5b0 : decide (x9_1 < (l0.length : Int)) = true := Z35 c5
      clear c5
      by_cases c6 : (rd l0 x9_1) = a1
      ·rw [if_pos c6] at H
       have c6b0 : ((rd l0 x9_1) == a1) = true := beq_iff_eq.mpr c6
       have c6b1 : ((rd l0 x9_1) != a1) = false := bne_eq_false_iff_eq.mpr c6
       clear c6
       obtain rfl := Option.some.inj H
       have p350 : 0 ≤ (x9_1 : Int) := Z27 Q1
       have q350 : x9_1 < (l0.length : Int) := Z27 Q1
       obtain ⟨ad350, e350, hx350_0⟩ := Kd.at_int HR0.out x9_1 p350 q350
       cases e350
       replace p350 := eq_true p350
       replace q350 := eq_true q350
       go_wp2
       go_ret
       exact ⟨Q13, Q5⟩
      ·rw [if_neg c6] at H
       have c6b0 : ((rd l0 x9_1) == a1) = false := beq_eq_false_iff_ne.mpr c6
       have c6b1 : ((rd l0 x9_1) != a1) = true := bne_iff_ne.mpr c6
       have H' := Ya H
       clear H
       have p350 : 0 ≤ (x9_1 : Int) := Z27 Q1
       have q350 : x9_1 < (l0.length : Int) := Z27 Q1
       obtain ⟨ad350, e350, hx350_0⟩ := Kd.at_int HR0.out x9_1 p350 q350
       cases e350
       replace p350 := eq_true p350
       replace q350 := eq_true q350
       go_wp2
       go_roundg k1
       case measure => have := HK1.out; omega
       case rel => exact ⟨(wrap64 (x9_1 + 1)), Q7, H', ⟨Q30⟩, Q5⟩
     ·rw [if_neg c5] at H
      exact absurd H (by simp)
    ·rw [if_neg c4] at H
     exact absurd H (by simp)
   ·rw [if_neg c3] at H
    have c3b0 : decide (x9_1 < (l0.length : Int)) = false := Z34 c3
    clear c3
    obtain rfl := Option.some.inj H
    go_wp2
    go_ret
    exact ⟨Q13, Q5⟩
def spec_raPermutation.l0 : Nat → List Int → List Int → Int → Int → Option (Bool)
 | 0, _, _, _, _ => none
 | k + 1, x0, x5, x6, x7 => if x7 < x6 then (if 0 ≤ x7 then (if x7 < (x5.length : Int) then (if x7 ≥ 12 then (some false) else ((spec_l1In.f (rd x5 x7) 0 (wrap64 ((x0.length : Int) - 1))).bind fun t352 => (if t352 = true then (if x7 ≤ (x0.length : Int) then ((spec_l1Has.f k (x0.take (x7 : Int).toNat) (rd x5 x7)).bind fun t354 => (if t354 = true then (some false) else (spec_raPermutation.l0 k x0 x5 x6 (wrap64 (x7 + 1))))) else (none)) else (some false)))) else (none)) else (none)) else (some true)
def spec_raPermutation.f (k : Nat) (l0 : List Int) : Option (Bool) := spec_raPermutation.l0 k l0 l0 (l0.length : Int) 0
theorem spec_raPermutation.mono_l : ∀ k, (∀ y0 y1 y2 y3, LeO (spec_raPermutation.l0 k y0 y1 y2 y3) (spec_raPermutation.l0 (k + 1) y0 y1 y2 y3))
 | 0 => fun _ _ _ _ r h => by simp [spec_raPermutation.l0] at h
 | k + 1 => by
  have ih0 := spec_raPermutation.mono_l k
  ·intro y0 y1 y2 y3
   unfold spec_raPermutation.l0
   repeat' first
   | (with_reducible exact ih0 _ _ _ _)
   | (with_reducible exact spec_l1Has.mono _ _ _)
   | (with_reducible exact LeO.refl _)
   | (with_reducible exact LeO.none _)
   | (with_reducible refine LeO.ite ?_ ?_)
   | (with_reducible refine LeO.bind ?_ (fun _ => ?_))
   | exact ih0 _ _ _ _
   | exact spec_l1Has.mono _ _ _
   | exact LeO.none _
   | refine LeO.ite ?_ ?_
   | refine LeO.bind ?_ (fun _ => ?_)
theorem spec_raPermutation.mono : ∀ a0 k, LeO (spec_raPermutation.f k a0) (spec_raPermutation.f (k + 1) a0) := by
 intro a0 k
 have ih0 := spec_raPermutation.mono_l k
 unfold spec_raPermutation.f
 repeat' first
   | (with_reducible exact ih0 _ _ _ _)
   | (with_reducible exact spec_l1Has.mono _ _ _)
   | (with_reducible exact LeO.refl _)
   | (with_reducible exact LeO.none _)
   | (with_reducible refine LeO.ite ?_ ?_)
   | (with_reducible refine LeO.bind ?_ (fun _ => ?_))
   | exact ih0 _ _ _ _
   | exact spec_l1Has.mono _ _ _
   | exact LeO.none _
   | refine LeO.ite ?_ ?_
   | refine LeO.bind ?_ (fun _ => ?_)
set_option maxHeartbeats 8000000 in
set_option maxRecDepth 100000 in
theorem spec_raPermutation.calls (k : Nat) (A0 : Option Addr) (c0 : Nat) (l0 : List Int) (r : Bool) (w : World) (hr0 : Kd.C (Kd.int .i64) w A0 l0.length l0) (hc0 : l0.length ≤ c0) (h : spec_raPermutation.f k l0 = some r) :
  Calls Try.prog 69 #[.slice A0 l0.length c0] w fun e w' => e = .returned (.bool r) ∧ Drawn0 w w' := by
 have HR0 := Ya hr0
 have HC0 := Ya hc0
 clear hr0 hc0
 have H : (spec_raPermutation.l0 k l0 l0 (l0.length : Int) 0) = some r := h
 clear h
 have H' := Ya H
 clear H
 go_enter Try.func69, Try.ntmps69
 go_wp2
 go_loopg [7] k (fun kq v7 w' => ∃ (x7_1 : Int), v7 = .int .i64 x7_1 ∧ Aside0 (spec_raPermutation.l0 kq l0 l0 (l0.length : Int) x7_1 = some r) ∧ Aside0 (kq ≤ k) ∧ Drawn0 w w')
 case atStart => exact ⟨(0), Q7, H', ⟨Nat.le_refl _⟩, Q5⟩
 case round =>
  clear H'
  obtain ⟨x7_1, rfl, HA, HK1, ⟨m1, rfl⟩⟩ := hrel
  cases gk with
  | zero => exact absurd HA.out (by simp [spec_raPermutation.l0])
  | succ k1 =>
   have H := HA.out
   clear HA
   simp only [spec_raPermutation.l0] at H
   by_cases c2 : x7_1 < (l0.length : Int)
   ·rw [if_pos c2] at H
    have c2b0 : decide (x7_1 < (l0.length : Int)) = true := Z35 c2
    clear c2
    by_cases c3 : 0 ≤ x7_1
    ·rw [if_pos c3] at H
     have c3b0 : decide (0 ≤ x7_1) = true := Z35 c3
     clear c3
     by_cases c4 : x7_1 < (l0.length : Int)
     ·rw [if_pos c4] at H
      have c4b0 : decide (x7_1 < (l0.length : Int)) = true := Z35 c4
      clear c4
      by_cases c5 : x7_1 ≥ 12
      ·rw [if_pos c5] at H
       have c5b0 : decide (12 ≤ x7_1) = true := Z35 c5
       clear c5
       obtain rfl := Option.some.inj H
       have p351 : 0 ≤ (x7_1 : Int) := Z27 Q1
       have q351 : x7_1 < (l0.length : Int) := Z27 Q1
       obtain ⟨ad351, e351, hx351_0⟩ := Kd.at_int HR0.out x7_1 p351 q351
       cases e351
       replace p351 := eq_true p351
       replace q351 := eq_true q351
       go_wp2
       go_ret
       exact ⟨Q13, Q5⟩
      ·rw [if_neg c5] at H
       have c5b0 : decide (12 ≤ x7_1) = false := Z34 c5
       clear c5
       replace H := Z33.mp H
       obtain ⟨t352, A60, H⟩ := H
       replace H : (if t352 = true then (if x7_1 ≤ (l0.length : Int) then ((spec_l1Has.f k1 (l0.take (x7_1 : Int).toNat) (rd l0 x7_1)).bind fun t354 => (if t354 = true then (some false) else (spec_raPermutation.l0 k1 l0 l0 (l0.length : Int) (wrap64 (x7_1 + 1))))) else (none)) else (some false)) = some r := H
       have A6 := Ya A60
       clear A60
       by_cases c7 : t352 = true
       ·subst c7
        have H1 : (if x7_1 ≤ (l0.length : Int) then ((spec_l1Has.f k1 (l0.take (x7_1 : Int).toNat) (rd l0 x7_1)).bind fun t354 => (if t354 = true then (some false) else (spec_raPermutation.l0 k1 l0 l0 (l0.length : Int) (wrap64 (x7_1 + 1))))) else (none)) = some r := by rw [if_pos rfl] at H; exact H
        clear H
        have H := H1
        clear H1
        have c8b0 := eq_true (Z27 Q1 : 0 ≤ x7_1)
        by_cases c9 : x7_1 ≤ (l0.length : Int)
        ·rw [if_pos c9] at H
         have c9b0 := eq_true c9
         have c9b1 : decide (x7_1 ≤ (l0.length : Int)) = true := Z35 c9
         have HLEc9 := Ya c9
         clear c9
         replace H := Z33.mp H
         obtain ⟨t354, A100, H⟩ := H
         replace H : (if t354 = true then (some false) else (spec_raPermutation.l0 k1 l0 l0 (l0.length : Int) (wrap64 (x7_1 + 1)))) = some r := H
         have A10 := Ya A100
         clear A100
         by_cases c11 : t354 = true
         ·subst c11
          have H1 : (some false) = some r := by rw [if_pos rfl] at H; exact H
          clear H
          have H := H1
          clear H1
          obtain rfl := Option.some.inj H
          have p351 : 0 ≤ (x7_1 : Int) := Z27 Q1
          have q351 : x7_1 < (l0.length : Int) := Z27 Q1
          obtain ⟨ad351, e351, hx351_0⟩ := Kd.at_int HR0.out x7_1 p351 q351
          cases e351
          replace p351 := eq_true p351
          replace q351 := eq_true q351
          go_wp2_with (first | (go_at_call 44; (with_reducible refine (spec_l1In.calls (rd l0 x7_1) 0 (wrap64 ((l0.length : Int) - 1)) true _ A6.out).mono ?_); rintro e w' ⟨rfl, ⟨nd, rfl⟩⟩; obtain ⟨i012, hi012, _, hsz12, _⟩ := info_parts info3; obtain ⟨hcut12, hA12, hC12⟩ := print_take_of (P := Try.prog) (Value.int .i64) 0 22 3 .i64 Try.underlying22 hi012 hsz12 (some ad351) c0 l0 x7_1 (Z27 Q1) (Z27 Q1) HC0.out; have HR353 := Ya (Kd.C_of_reads (h1 := fun _ => rfl) (hA12 _ (Kd.reads_of_C HR0.out))); have HC353 := Ya hC12; clear hA12 hC12 hi012 hsz12) | (go_at_call 83; (first | (with_reducible refine (spec_l1Has.calls k1 _ _ (l0.take (x7_1 : Int).toNat) (rd l0 x7_1) true _ ?side1 ?side2 A10.out).mono ?_) | (refine lenEq (show (l0.take (x7_1 : Int).toNat).length = (x7_1 : Int).toNat from (by rw [Z29]; have h_ := (‹Aside0 (x7_1 ≤ (l0.length : Int))›).out; omega)) ?_; (with_reducible refine (spec_l1Has.calls k1 _ _ (l0.take (x7_1 : Int).toNat) (rd l0 x7_1) true _ ?side1 ?side2 A10.out).mono ?_))); (case side1 => exact Yc HR353.out); (case side2 => exact HC353.out); rintro e w' ⟨rfl, ⟨nd, rfl⟩⟩))
          go_ret
          exact ⟨Q13, Q5⟩
         ·replace c11 := Bool.eq_false_iff.mpr c11
          subst c11
          have H1 : (spec_raPermutation.l0 k1 l0 l0 (l0.length : Int) (wrap64 (x7_1 + 1))) = some r := by rw [if_neg (show ¬ (false = true) by decide)] at H; exact H
          clear H
          have H := H1
          clear H1
          have H' := Ya H
          clear H
          have p351 : 0 ≤ (x7_1 : Int) := Z27 Q1
          have q351 : x7_1 < (l0.length : Int) := Z27 Q1
          obtain ⟨ad351, e351, hx351_0⟩ := Kd.at_int HR0.out x7_1 p351 q351
          cases e351
          replace p351 := eq_true p351
          replace q351 := eq_true q351
          go_wp2_with (first | (go_at_call 44; (with_reducible refine (spec_l1In.calls (rd l0 x7_1) 0 (wrap64 ((l0.length : Int) - 1)) true _ A6.out).mono ?_); rintro e w' ⟨rfl, ⟨nd, rfl⟩⟩; obtain ⟨i013, hi013, _, hsz13, _⟩ := info_parts info3; obtain ⟨hcut13, hA13, hC13⟩ := print_take_of (P := Try.prog) (Value.int .i64) 0 22 3 .i64 Try.underlying22 hi013 hsz13 (some ad351) c0 l0 x7_1 (Z27 Q1) (Z27 Q1) HC0.out; have HR353 := Ya (Kd.C_of_reads (h1 := fun _ => rfl) (hA13 _ (Kd.reads_of_C HR0.out))); have HC353 := Ya hC13; clear hA13 hC13 hi013 hsz13) | (go_at_call 83; (first | (with_reducible refine (spec_l1Has.calls k1 _ _ (l0.take (x7_1 : Int).toNat) (rd l0 x7_1) false _ ?side1 ?side2 A10.out).mono ?_) | (refine lenEq (show (l0.take (x7_1 : Int).toNat).length = (x7_1 : Int).toNat from (by rw [Z29]; have h_ := (‹Aside0 (x7_1 ≤ (l0.length : Int))›).out; omega)) ?_; (with_reducible refine (spec_l1Has.calls k1 _ _ (l0.take (x7_1 : Int).toNat) (rd l0 x7_1) false _ ?side1 ?side2 A10.out).mono ?_))); (case side1 => exact Yc HR353.out); (case side2 => exact HC353.out); rintro e w' ⟨rfl, ⟨nd, rfl⟩⟩))
          go_roundg k1
          case measure => have := HK1.out; omega
          case rel => exact ⟨(wrap64 (x7_1 + 1)), Q7, H', ⟨Q30⟩, Q5⟩
        ·rw [if_neg c9] at H
         exact absurd H (by simp)
       ·replace c7 := Bool.eq_false_iff.mpr c7
        subst c7
        have H1 : (some false) = some r := by rw [if_neg (show ¬ (false = true) by decide)] at H; exact H
        clear H
        have H := H1
        clear H1
        obtain rfl := Option.some.inj H
        have p351 : 0 ≤ (x7_1 : Int) := Z27 Q1
        have q351 : x7_1 < (l0.length : Int) := Z27 Q1
        obtain ⟨ad351, e351, hx351_0⟩ := Kd.at_int HR0.out x7_1 p351 q351
        cases e351
        replace p351 := eq_true p351
        replace q351 := eq_true q351
        go_wp2_with (first | (go_at_call 44; (with_reducible refine (spec_l1In.calls (rd l0 x7_1) 0 (wrap64 ((l0.length : Int) - 1)) false _ A6.out).mono ?_); rintro e w' ⟨rfl, ⟨nd, rfl⟩⟩))
        go_ret
        exact ⟨Q13, Q5⟩
     ·rw [if_neg c4] at H
      exact absurd H (by simp)
    ·rw [if_neg c3] at H
     exact absurd H (by simp)
   ·rw [if_neg c2] at H
    have c2b0 : decide (x7_1 < (l0.length : Int)) = false := Z34 c2
    clear c2
    obtain rfl := Option.some.inj H
    go_wp2
    go_ret
    exact ⟨Q13, Q5⟩
end Go.Proofs.Ytpfakdhfffehaaa.MFnExactIsSwapper
