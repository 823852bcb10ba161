import Derived.Test.YtpfakdhfffehaaaMFnExactStepSwapperx0
import Derived.Test.YtpfakdhfffehaaaMFnExactStepSwapperx3
import Derived.Test.YtpfakdhfffehaaaMFnExactStepSwapperx4
import Derived.Test.YtpfakdhfffehaaaMFnExactStepSwapperx6
namespace Go.Proofs.Ytpfakdhfffehaaa.MFnExactStepSwapper
open Go.RowKit Go.Proofs.YtpfakdhfffehaaaW.PrintWords Go.Proofs.YtpfakdhfffehaaaW.PrintLast Go.Proofs.YtpfakdhfffehaaaW.PrintMore
attribute [local go_sem] max2_int min2_int max_two min_two max_three min_three max_four min_four   
set_option linter.unusedVariables false
set_option linter.unusedSimpArgs false
def spec_foSwapper.l0 : Nat → Int → List Int → Int → Option (List Int × List Int × List Bool × List Int × List Int × List Int)
 | 0, _, _, _ => none
 | k + 1, x0, x3, x4 => if x4 ≤ x0 then (if x3.length < 17592186044416 then (spec_foSwapper.l0 k x0 (x3 ++ [x4]) (wrap64 (x4 + 1))) else (none)) else ((spec_foStart.f k x3).bind fun bt370 => ((spec_raUpTo.f k x0).bind fun t382 => ((spec_raUpTo.f k x0).bind fun t385 => (some (bt370.1, bt370.2.1, bt370.2.2.1, bt370.2.2.2, t382, t385)))))
def spec_foSwapper.f (k : Nat) (a0 : Int) : Option (List Int × List Int × List Bool × List Int × List Int × List Int) := spec_foSwapper.l0 k a0 ([] : List Int) 2
theorem spec_foSwapper.mono_l : ∀ k, (∀ y0 y1 y2, LeO (spec_foSwapper.l0 k y0 y1 y2) (spec_foSwapper.l0 (k + 1) y0 y1 y2))
 | 0 => fun _ _ _ r h => by simp [spec_foSwapper.l0] at h
 | k + 1 => by
  have ih0 := spec_foSwapper.mono_l k
  ·intro y0 y1 y2
   unfold spec_foSwapper.l0
   repeat' first
   | (with_reducible exact ih0 _ _ _)
   | (with_reducible exact spec_foStart.mono _ _)
   | (with_reducible exact spec_raUpTo.mono _ _)
   | (with_reducible exact LeO.refl _)
   | (with_reducible exact LeO.none _)
   | (with_reducible refine LeO.ite ?_ ?_)
   | (with_reducible refine LeO.bind ?_ (fun _ => ?_))
   | exact ih0 _ _ _
   | exact spec_foStart.mono _ _
   | exact spec_raUpTo.mono _ _
   | exact LeO.none _
   | refine LeO.ite ?_ ?_
   | refine LeO.bind ?_ (fun _ => ?_)
theorem spec_foSwapper.mono : ∀ a0 k, LeO (spec_foSwapper.f k a0) (spec_foSwapper.f (k + 1) a0) := by
 intro a0 k
 have ih0 := spec_foSwapper.mono_l k
 unfold spec_foSwapper.f
 repeat' first
   | (with_reducible exact ih0 _ _ _)
   | (with_reducible exact spec_foStart.mono _ _)
   | (with_reducible exact spec_raUpTo.mono _ _)
   | (with_reducible exact LeO.refl _)
   | (with_reducible exact LeO.none _)
   | (with_reducible refine LeO.ite ?_ ?_)
   | (with_reducible refine LeO.bind ?_ (fun _ => ?_))
   | exact ih0 _ _ _
   | exact spec_foStart.mono _ _
   | exact spec_raUpTo.mono _ _
   | exact LeO.none _
   | refine LeO.ite ?_ ?_
   | refine LeO.bind ?_ (fun _ => ?_)
set_option maxHeartbeats 8000000 in
set_option maxRecDepth 100000 in
theorem spec_foSwapper.calls (k : Nat) (a0 : Int) (r1 : List Int) (r2 : List Int) (r3 : List Bool) (r4 : List Int) (r5 : List Int) (r6 : List Int) (w : World) (h : spec_foSwapper.f k a0 = some (r1, r2, r3, r4, r5, r6)) :
  Calls Try.prog 68 #[.int .i64 a0] w fun e w' => ∃ v0_ v1_ v2_ v3_ v4_ v5_ : Value, e = .returned (.agg #[v0_, v1_, v2_, v3_, v4_, v5_]) ∧ Kd.R (Kd.int .i64) 3 w' w.heap.size (fun k_ => some k_ ≠ (v1_ : Value).ownBlock ∧ some k_ ≠ (v3_ : Value).ownBlock ∧ some k_ ≠ (v4_ : Value).ownBlock ∧ some k_ ≠ (v5_ : Value).ownBlock) v0_ r1 ∧ Kd.R (Kd.int .i64) 3 w' w.heap.size (fun k_ => some k_ ≠ (v0_ : Value).ownBlock ∧ some k_ ≠ (v3_ : Value).ownBlock ∧ some k_ ≠ (v4_ : Value).ownBlock ∧ some k_ ≠ (v5_ : Value).ownBlock) v1_ r2 ∧ Kd.R Kd.bool 4 w' w.heap.size (fun _ => True) v2_ r3 ∧ Kd.R (Kd.int .i64) 3 w' w.heap.size (fun k_ => some k_ ≠ (v0_ : Value).ownBlock ∧ some k_ ≠ (v1_ : Value).ownBlock ∧ some k_ ≠ (v4_ : Value).ownBlock ∧ some k_ ≠ (v5_ : Value).ownBlock) v3_ r4 ∧ Kd.R (Kd.int .i64) 3 w' w.heap.size (fun k_ => some k_ ≠ (v0_ : Value).ownBlock ∧ some k_ ≠ (v1_ : Value).ownBlock ∧ some k_ ≠ (v3_ : Value).ownBlock ∧ some k_ ≠ (v5_ : Value).ownBlock) v4_ r5 ∧ Kd.R (Kd.int .i64) 3 w' w.heap.size (fun k_ => some k_ ≠ (v0_ : Value).ownBlock ∧ some k_ ≠ (v1_ : Value).ownBlock ∧ some k_ ≠ (v3_ : Value).ownBlock ∧ some k_ ≠ (v4_ : Value).ownBlock) v5_ r6 ∧ Below w.heap.size w w' := by
 have hu35 := Try.underlying35
 have HB := Ya (Below.refl w.heap.size w)
 have H : (spec_foSwapper.l0 k a0 ([] : List Int) 2) = some (r1, r2, r3, r4, r5, r6) := h
 clear h
 have H' := Ya H
 clear H
 go_enter Try.func68, Try.ntmps68
 go_wp2_with (first | ((with_reducible refine gate_dst (N := 2) rfl ?_); refine Yx 2 YN6 35 ?_; intro gb366 hg w2 hbox hb; have BK366 := Ya hbox; have GE366 := Yg hg; replace HB := Yh hb; clear hb hbox hg))
 go_loopg [3, 4] k (fun kq v3 v4 w' => ∃ (x3_1 : List Int) (x4_1 : Int), v4 = .int .i64 x4_1 ∧ Aside0 (spec_foSwapper.l0 kq a0 x3_1 x4_1 = some (r1, r2, r3, r4, r5, r6)) ∧ Aside0 (kq ≤ k) ∧ Aside0 (Kd.R (Kd.int .i64) 3 w' w.heap.size (fun _ => True) v3 x3_1) ∧ Aside0 (w'.heap[gb366]? = some (.cells #[(.slice none 0 0), (.slice none 0 0), (.slice none 0 0), (.slice none 0 0), (.slice none 0 0), (.slice none 0 0)] 35 (0, 0))) ∧ Aside0 (Below w.heap.size w w'))
 case atStart => exact ⟨(([] : List Int)), (2), Q8, H', ⟨Nat.le_refl _⟩, ⟨Q6⟩, ⟨by (with_reducible repeat (first | refine Z25 ?_ _ | refine Z26 ?_ | refine Z27 ?_ _)); exact BK366.out⟩, ⟨Q12⟩⟩
 case round =>
  clear H'
  try clear p2
  obtain ⟨x3_1, x4_1, rfl, HA, HK1, HO_3, BK366, HB⟩ := hrel
  cases gk with
  | zero => exact absurd HA.out (by simp [spec_foSwapper.l0])
  | succ k1 =>
   have H := HA.out
   clear HA
   simp only [spec_foSwapper.l0] at H
   by_cases c3 : x4_1 ≤ a0
   ·rw [if_pos c3] at H
    have c3b0 := Z38 c3
    clear c3
    by_cases c4 : x3_1.length < 17592186044416
    ·rw [if_pos c4] at H
     have LMc4 := Ya c4
     clear c4
     obtain ⟨y367, hy367⟩ : ∃ y_ : List Int, y_ = (x3_1 ++ [x4_1]) := ⟨_, rfl⟩
     replace H : (spec_foSwapper.l0 k1 a0 y367 (wrap64 (x4_1 + 1))) = some (r1, r2, r3, r4, r5, r6) := by first | (rw [hy367]; with_reducible exact H) | (have H2_ := (Option.bind_some _ _).symm.trans H; rw [hy367]; with_reducible exact H2_) | (have H2_ := (Option.bind_some _ _).symm.trans H; with_reducible exact H2_) | with_reducible exact H | (rw [hy367]; exact H) | exact H
     have Ny367 := Ya hy367
     clear hy367
     have H' := Ya H
     clear H
     go_wp2_with (first | ((with_reducible refine gate_builtin (b := .append) (xs := #[.tmp 10, .tmp 12]) rfl ?_); at_builtin; refine Kd.R_append (Kd.int .i64) (w0 := w) w.heap.size rfl (.tmp 10) (.tmp 12) 22 3 (.int .i64 0) 8 rfl Try.underlying22 info3 rfl (by decide) (by omega) u3 x3_1 x4_1 [.int .i64 x4_1] (fun _ => True) (fun _ => False) rfl rfl ?aP (fun _ hk => hk.elim) ?aF ?aO ?aB ?aS ?aL ?_; (case aP => exact rfl); (case aB => exact Q0); (case aF => exact (fun _ _ => trivial)); (case aO => exact (Yr HO_3.out)); (case aS => exact (Z7 Q0)); (case aL => have := LMc4.out; omega); intro v368 w5 ho hb hg hat; rw [← Ny367.out] at ho; replace BK366 := Ya (blk_grown (g := gb366) (o := .cells YN6 35 (0, 0)) (Yk BK366.out) hg (Kd.R_ne HO_3.out BK366.out (by decide))); replace HB := Ya hb; have HO369 := Ya ho; clear HO_3; clear ho hb hg hat))
     go_roundg k1
     case measure => have := HK1.out; omega
     case rel => exact ⟨(y367), (wrap64 (x4_1 + 1)), Q8, H', ⟨Q20⟩, ⟨by (with_reducible repeat (first | apply Z9 | apply Z10 | apply Z11)); exact HO369.out⟩, ⟨by (with_reducible repeat (first | refine Z25 ?_ _ | refine Z26 ?_ | refine Z27 ?_ _)); exact BK366.out⟩, ⟨Q12⟩⟩
    ·rw [if_neg c4] at H
     exact absurd H (by simp)
   ·rw [if_neg c3] at H
    have c3b0 := Z37 c3
    clear c3
    replace H := Z36.mp H
    obtain ⟨⟨t370, t373, t376, t379⟩, A60, H⟩ := H
    replace H : ((spec_raUpTo.f k1 a0).bind fun t382 => ((spec_raUpTo.f k1 a0).bind fun t385 => (some (t370, t373, t376, t379, t382, t385)))) = some (r1, r2, r3, r4, r5, r6) := H
    have A6 := Ya A60
    clear A60
    replace H := Z36.mp H
    obtain ⟨t382, A70, H⟩ := H
    replace H : ((spec_raUpTo.f k1 a0).bind fun t385 => (some (t370, t373, t376, t379, t382, t385))) = some (r1, r2, r3, r4, r5, r6) := H
    have A7 := Ya A70
    clear A70
    replace H := Z36.mp H
    obtain ⟨t385, A80, H⟩ := H
    replace H : (some (t370, t373, t376, t379, t382, t385)) = some (r1, r2, r3, r4, r5, r6) := H
    have A8 := Ya A80
    clear A80
    simp only [Option.some.injEq, Prod.mk.injEq] at H
    obtain ⟨rfl, rfl, rfl, rfl, rfl, rfl⟩ := H
    obtain ⟨Ao9, co9, rfl⟩ := Z19 HO_3.out
    go_wp2_with (first | ((with_reducible refine gate_callee (f := 78) rfl ?_); refine Yz 15 Try.func78 #[.slice Ao9 x3_1.length co9] ?_; (with_reducible refine (spec_foStart.calls k1 _ _ x3_1 t370 t373 t376 t379 _ (Yc (Kd.R_reads' HO_3.out).2.2) ((Kd.R_reads' HO_3.out).2.1) A6.out).mono ?_); rintro e w10 ⟨v371, v374, v377, v380, rfl, ho0, ho1, ho2, ho3, hb⟩; refine ⟨_, rfl, ?_⟩; have HO372 := Yl (Kd.R_new' ho0 (Z18 (Yr HO_3.out))); have HO375 := Yl (Kd.R_new' ho1 (Z18 (Yr HO_3.out))); have HO378 := Yl ho2; have HO381 := Yl (Kd.R_new' ho3 (Z18 (Yr HO_3.out))); replace HO_3 := Ya (Z12 (Z16 (Z16 (Z16 (Z17 (Yr HO_3.out) hb) (Kd.R_base ho0)) (Kd.R_base ho1)) (Kd.R_base ho3)) (fun _ h_ => h_.1)); replace BK366 := Yb BK366 hb; replace HB := Yh hb; (try clear hb ho0 ho1 ho2 ho3)) | ((with_reducible refine gate_callee (f := 82) rfl ?_); refine Yz 17 Try.func82 #[.int .i64 a0] ?_; (with_reducible refine (spec_raUpTo.calls k1 a0 t382 _ A7.out).mono ?_); rintro e w11 ⟨v383, rfl, ho0, hb⟩; refine ⟨_, rfl, ?_⟩; replace HO378 := Yw HO378 hb; have HO384 := Yl (Kd.R_new' (Kd.R_new' (Kd.R_new' (Kd.R_new' ho0 (Z18 (Yr HO_3.out))) (Z18 (Yr HO372.out))) (Z18 (Yr HO375.out))) (Z18 (Yr HO381.out))); replace HO_3 := Ya (Kd.R_elder' (Yr HO_3.out) (Kd.R_base ho0) hb); replace HO372 := Ya (Kd.R_elder' (Yr HO372.out) (Kd.R_base ho0) hb); replace HO375 := Ya (Kd.R_elder' (Yr HO375.out) (Kd.R_base ho0) hb); replace HO381 := Ya (Kd.R_elder' (Yr HO381.out) (Kd.R_base ho0) hb); replace BK366 := Yb BK366 hb; replace HB := Yh hb; (try clear hb ho0)) | ((with_reducible refine gate_callee (f := 82) rfl ?_); refine Yz 19 Try.func82 #[.int .i64 a0] ?_; (with_reducible refine (spec_raUpTo.calls k1 a0 t385 _ A8.out).mono ?_); rintro e w12 ⟨v386, rfl, ho0, hb⟩; refine ⟨_, rfl, ?_⟩; replace HO378 := Yw HO378 hb; have HO387 := Yl (Kd.R_new' (Kd.R_new' (Kd.R_new' (Kd.R_new' (Kd.R_new' ho0 (Z18 (Yr HO_3.out))) (Z18 (Yr HO372.out))) (Z18 (Yr HO375.out))) (Z18 (Yr HO381.out))) (Z18 (Yr HO384.out))); replace HO_3 := Ya (Kd.R_elder' (Yr HO_3.out) (Kd.R_base ho0) hb); replace HO372 := Ya (Kd.R_elder' (Yr HO372.out) (Kd.R_base ho0) hb); replace HO375 := Ya (Kd.R_elder' (Yr HO375.out) (Kd.R_base ho0) hb); replace HO381 := Ya (Kd.R_elder' (Yr HO381.out) (Kd.R_base ho0) hb); replace HO384 := Ya (Kd.R_elder' (Yr HO384.out) (Kd.R_base ho0) hb); replace BK366 := Yb BK366 hb; replace HB := Yh hb; (try clear hb ho0); obtain ⟨Ao13, co13, rfl⟩ := Z19 HO387.out; obtain ⟨Ao14, co14, rfl⟩ := Z19 HO384.out; obtain ⟨Ao15, co15, rfl⟩ := Z19 HO381.out; obtain ⟨Ao16, co16, rfl⟩ := Z19 HO378.out; obtain ⟨Ao17, co17, rfl⟩ := Z19 HO375.out; obtain ⟨Ao18, co18, rfl⟩ := Z19 HO372.out; obtain ⟨hcz19_0, hcz19_1, hcz19_2, hcz19_3, hcz19_4, hcz19_5, hfz19_0, hfz19_1, hfz19_2, hfz19_3, hfz19_4, hfz19_5⟩ := Y6 BK366.out))
    refine bodyPost_ret (results_cell_row rfl _ _ gb366 35 #[.slice Ao18 t370.length co18, .slice Ao17 t373.length co17, .slice Ao16 t376.length co16, .slice Ao15 t379.length co15, .slice Ao14 t382.length co14, .slice Ao13 t385.length co13] (0, 0) _ rfl (Yk (Yv6 BK366.out)) Try.underlying35 rfl (by kernel_rfl)) rfl ?_
    exact ⟨_, _, _, _, _, _, Q2, Yj (Yf6 HO372.out BK366.out) (fun _ hk => ⟨hk.1.1.1.1.1, ⟨hk.1.1.1.1.2, ⟨hk.1.1.2, hk.1.2⟩⟩⟩), Yj (Yf6 HO375.out BK366.out) (fun _ hk => ⟨hk.1.1.1.1.1, ⟨hk.1.1.1.1.2, ⟨hk.1.1.2, hk.1.2⟩⟩⟩), Yj (Yf6 HO378.out BK366.out) (fun _ hk => trivial), Yj (Yf6 HO381.out BK366.out) (fun _ hk => ⟨hk.1.1.1.1.1, ⟨hk.1.1.1.1.2, ⟨hk.1.1.2, hk.1.2⟩⟩⟩), Yj (Yf6 HO384.out BK366.out) (fun _ hk => ⟨hk.1.1.1.1.2, ⟨hk.1.1.1.2, ⟨hk.1.1.2, hk.1.2⟩⟩⟩), Yj (Yf6 HO387.out BK366.out) (fun _ hk => ⟨hk.1.1.1.1.2, ⟨hk.1.1.1.2, ⟨hk.1.1.2, hk.1.2⟩⟩⟩), Q12⟩
def spec_foSwapperAt.l0 : Nat → Int → List Int → List Int → List Bool → List Int → List Int → List Int → Option (List Int × List Int × List Bool × List Int × List Int × List Int × Bool)
 | 0, _, _, _, _, _, _, _ => none
 | k + 1, x1, x408000, x408001, x408002, x408003, x408004, x408005 => if x1 > 0 then ((spec_foSwap.f k x408000 x408001 x408002 x408003 x408004 x408005).bind fun bt408 => (if bt408.2.2.2.2.2.2 < 0 then (some (([] : List Int), ([] : List Int), ([] : List Bool), ([] : List Int), ([] : List Int), ([] : List Int), false)) else (spec_foSwapperAt.l0 k (wrap64 (x1 - 1)) bt408.1 bt408.2.1 bt408.2.2.1 bt408.2.2.2.1 bt408.2.2.2.2.1 bt408.2.2.2.2.2.1))) else (some (x408000, x408001, x408002, x408003, x408004, x408005, true))
def spec_foSwapperAt.f (k : Nat) (a0 : Int) (a1 : Int) : Option (List Int × List Int × List Bool × List Int × List Int × List Int × Bool) := (spec_foSwapper.f k a0).bind fun bt389 => (spec_foSwapperAt.l0 k a1 bt389.1 bt389.2.1 bt389.2.2.1 bt389.2.2.2.1 bt389.2.2.2.2.1 bt389.2.2.2.2.2)
theorem spec_foSwapperAt.mono_l : ∀ k, (∀ y0 y1 y2 y3 y4 y5 y6, LeO (spec_foSwapperAt.l0 k y0 y1 y2 y3 y4 y5 y6) (spec_foSwapperAt.l0 (k + 1) y0 y1 y2 y3 y4 y5 y6))
 | 0 => fun _ _ _ _ _ _ _ r h => by simp [spec_foSwapperAt.l0] at h
 | k + 1 => by
  have ih0 := spec_foSwapperAt.mono_l k
  ·intro y0 y1 y2 y3 y4 y5 y6
   unfold spec_foSwapperAt.l0
   repeat' first
   | (with_reducible exact ih0 _ _ _ _ _ _ _)
   | (with_reducible exact spec_foSwap.mono _ _ _ _ _ _ _)
   | (with_reducible exact spec_foSwapper.mono _ _)
   | (with_reducible exact LeO.refl _)
   | (with_reducible exact LeO.none _)
   | (with_reducible refine LeO.ite ?_ ?_)
   | (with_reducible refine LeO.bind ?_ (fun _ => ?_))
   | exact ih0 _ _ _ _ _ _ _
   | exact spec_foSwap.mono _ _ _ _ _ _ _
   | exact spec_foSwapper.mono _ _
   | exact LeO.none _
   | refine LeO.ite ?_ ?_
   | refine LeO.bind ?_ (fun _ => ?_)
theorem spec_foSwapperAt.mono : ∀ a0 a1 k, LeO (spec_foSwapperAt.f k a0 a1) (spec_foSwapperAt.f (k + 1) a0 a1) := by
 intro a0 a1 k
 have ih0 := spec_foSwapperAt.mono_l k
 unfold spec_foSwapperAt.f
 repeat' first
   | (with_reducible exact ih0 _ _ _ _ _ _ _)
   | (with_reducible exact spec_foSwap.mono _ _ _ _ _ _ _)
   | (with_reducible exact spec_foSwapper.mono _ _)
   | (with_reducible exact LeO.refl _)
   | (with_reducible exact LeO.none _)
   | (with_reducible refine LeO.ite ?_ ?_)
   | (with_reducible refine LeO.bind ?_ (fun _ => ?_))
   | exact ih0 _ _ _ _ _ _ _
   | exact spec_foSwap.mono _ _ _ _ _ _ _
   | exact spec_foSwapper.mono _ _
   | exact LeO.none _
   | refine LeO.ite ?_ ?_
   | refine LeO.bind ?_ (fun _ => ?_)
set_option maxHeartbeats 8000000 in
set_option maxRecDepth 100000 in
theorem spec_foSwapperAt.calls (k : Nat) (a0 : Int) (a1 : Int) (r1 : List Int) (r2 : List Int) (r3 : List Bool) (r4 : List Int) (r5 : List Int) (r6 : List Int) (r7 : Bool) (w : World) (h : spec_foSwapperAt.f k a0 a1 = some (r1, r2, r3, r4, r5, r6, r7)) :
  Calls Try.prog 46 #[.int .i64 a0, .int .i64 a1] w fun e w' => ∃ v0_ v1_ v2_ v3_ v4_ v5_ : Value, e = .returned (.tuple #[.agg #[v0_, v1_, v2_, v3_, v4_, v5_], .bool r7]) ∧ Kd.R (Kd.int .i64) 3 w' w.heap.size (fun k_ => some k_ ≠ (v1_ : Value).ownBlock ∧ some k_ ≠ (v3_ : Value).ownBlock ∧ some k_ ≠ (v4_ : Value).ownBlock ∧ some k_ ≠ (v5_ : Value).ownBlock) v0_ r1 ∧ Kd.R (Kd.int .i64) 3 w' w.heap.size (fun k_ => some k_ ≠ (v0_ : Value).ownBlock ∧ some k_ ≠ (v3_ : Value).ownBlock ∧ some k_ ≠ (v4_ : Value).ownBlock ∧ some k_ ≠ (v5_ : Value).ownBlock) v1_ r2 ∧ Kd.R Kd.bool 4 w' w.heap.size (fun _ => True) v2_ r3 ∧ Kd.R (Kd.int .i64) 3 w' w.heap.size (fun k_ => some k_ ≠ (v0_ : Value).ownBlock ∧ some k_ ≠ (v1_ : Value).ownBlock ∧ some k_ ≠ (v4_ : Value).ownBlock ∧ some k_ ≠ (v5_ : Value).ownBlock) v3_ r4 ∧ Kd.R (Kd.int .i64) 3 w' w.heap.size (fun k_ => some k_ ≠ (v0_ : Value).ownBlock ∧ some k_ ≠ (v1_ : Value).ownBlock ∧ some k_ ≠ (v3_ : Value).ownBlock ∧ some k_ ≠ (v5_ : Value).ownBlock) v4_ r5 ∧ Kd.R (Kd.int .i64) 3 w' w.heap.size (fun k_ => some k_ ≠ (v0_ : Value).ownBlock ∧ some k_ ≠ (v1_ : Value).ownBlock ∧ some k_ ≠ (v3_ : Value).ownBlock ∧ some k_ ≠ (v4_ : Value).ownBlock) v5_ r6 ∧ Below w.heap.size w w' := by
 have hu35 := Try.underlying35
 have HB := Ya (Below.refl w.heap.size w)
 have H : ((spec_foSwapper.f k a0).bind fun bt389 => (spec_foSwapperAt.l0 k a1 bt389.1 bt389.2.1 bt389.2.2.1 bt389.2.2.2.1 bt389.2.2.2.2.1 bt389.2.2.2.2.2)) = some (r1, r2, r3, r4, r5, r6, r7) := h
 clear h
 replace H := Z36.mp H
 obtain ⟨⟨t389, t392, t395, t398, t401, t404⟩, A30, H⟩ := H
 replace H : (spec_foSwapperAt.l0 k a1 t389 t392 t395 t398 t401 t404) = some (r1, r2, r3, r4, r5, r6, r7) := H
 have A3 := Ya A30
 clear A30
 have H' := Ya H
 clear H
 go_enter Try.func46, Try.ntmps46
 go_wp2_with (first | ((with_reducible refine gate_dst (N := 4) rfl ?_); refine Yx 4 YN6 35 ?_; intro gb388 hg w4 hbox hb; have BK388 := Ya hbox; have GE388 := Yg hg; replace HB := Yh hb; clear hb hbox hg) | ((with_reducible refine gate_callee (f := 68) rfl ?_); refine Yz 10 Try.func68 #[.int .i64 a0] ?_; (with_reducible refine (spec_foSwapper.calls k a0 t389 t392 t395 t398 t401 t404 _ A3.out).mono ?_); rintro e w5 ⟨v390, v393, v396, v399, v402, v405, rfl, ho0, ho1, ho2, ho3, ho4, ho5, hb⟩; refine ⟨_, rfl, ?_⟩; have HO391 := Yl ho0; have HO394 := Yl ho1; have HO397 := Yl ho2; have HO400 := Yl ho3; have HO403 := Yl ho4; have HO406 := Yl ho5; replace BK388 := Yb BK388 hb; replace HB := Yh hb; (try clear hb ho0 ho1 ho2 ho3 ho4 ho5)) | ((with_reducible refine gate_dst (N := 6) rfl ?_); refine Yx 6 YN6 35 ?_; intro gb407 hg w6 hbox hb; replace HO391 := Yw HO391 hb; replace HO394 := Yw HO394 hb; replace HO397 := Yw HO397 hb; replace HO400 := Yw HO400 hb; replace HO403 := Yw HO403 hb; replace HO406 := Yw HO406 hb; have BK407 := Ya hbox; have GE407 := Yg hg; replace HB := Yh hb; have NB388_407 := Yn BK388 hg; have NB407_388 := Ym BK388 hg; replace BK388 := Yb BK388 hb; clear hb hbox hg; obtain ⟨Ao7, co7, rfl⟩ := Z19 HO391.out; have hnb8 := NB407_388.out; have hnc8 := NB388_407.out; obtain ⟨hcz9_0, hcz9_1, hcz9_2, hcz9_3, hcz9_4, hcz9_5, hfz9_0, hfz9_1, hfz9_2, hfz9_3, hfz9_4, hfz9_5⟩ := Y6 BK407.out; obtain ⟨Ao10, co10, rfl⟩ := Z19 HO394.out; obtain ⟨Ao11, co11, rfl⟩ := Z19 HO397.out; obtain ⟨Ao12, co12, rfl⟩ := Z19 HO400.out; obtain ⟨Ao13, co13, rfl⟩ := Z19 HO403.out; obtain ⟨Ao14, co14, rfl⟩ := Z19 HO406.out))
 go_loopg [1] k (fun kq v1 w' => ∃ (x1_1 : Int) (x408000_1 : List Int) (x408001_1 : List Int) (x408002_1 : List Bool) (x408003_1 : List Int) (x408004_1 : List Int) (x408005_1 : List Int) (u408000 : Value) (u408001 : Value) (u408002 : Value) (u408003 : Value) (u408004 : Value) (u408005 : Value), v1 = .int .i64 x1_1 ∧ Aside0 (spec_foSwapperAt.l0 kq x1_1 x408000_1 x408001_1 x408002_1 x408003_1 x408004_1 x408005_1 = some (r1, r2, r3, r4, r5, r6, r7)) ∧ Aside0 (kq ≤ k) ∧ Aside0 (Kd.R (Kd.int .i64) 3 w' w.heap.size (fun k_ => some k_ ≠ (u408001 : Value).ownBlock ∧ some k_ ≠ (u408003 : Value).ownBlock ∧ some k_ ≠ (u408004 : Value).ownBlock ∧ some k_ ≠ (u408005 : Value).ownBlock) u408000 x408000_1) ∧ Aside0 (Kd.R (Kd.int .i64) 3 w' w.heap.size (fun k_ => some k_ ≠ (u408000 : Value).ownBlock ∧ some k_ ≠ (u408003 : Value).ownBlock ∧ some k_ ≠ (u408004 : Value).ownBlock ∧ some k_ ≠ (u408005 : Value).ownBlock) u408001 x408001_1) ∧ Aside0 (Kd.R Kd.bool 4 w' w.heap.size (fun _ => True) u408002 x408002_1) ∧ Aside0 (Kd.R (Kd.int .i64) 3 w' w.heap.size (fun k_ => some k_ ≠ (u408000 : Value).ownBlock ∧ some k_ ≠ (u408001 : Value).ownBlock ∧ some k_ ≠ (u408004 : Value).ownBlock ∧ some k_ ≠ (u408005 : Value).ownBlock) u408003 x408003_1) ∧ Aside0 (Kd.R (Kd.int .i64) 3 w' w.heap.size (fun k_ => some k_ ≠ (u408000 : Value).ownBlock ∧ some k_ ≠ (u408001 : Value).ownBlock ∧ some k_ ≠ (u408003 : Value).ownBlock ∧ some k_ ≠ (u408005 : Value).ownBlock) u408004 x408004_1) ∧ Aside0 (Kd.R (Kd.int .i64) 3 w' w.heap.size (fun k_ => some k_ ≠ (u408000 : Value).ownBlock ∧ some k_ ≠ (u408001 : Value).ownBlock ∧ some k_ ≠ (u408003 : Value).ownBlock ∧ some k_ ≠ (u408004 : Value).ownBlock) u408005 x408005_1) ∧ Aside0 (w'.heap[gb388]? = some (.cells #[(.slice none 0 0), (.slice none 0 0), (.slice none 0 0), (.slice none 0 0), (.slice none 0 0), (.slice none 0 0)] 35 (0, 0))) ∧ Aside0 (w'.heap[gb407]? = some (.cells #[u408000, u408001, u408002, u408003, u408004, u408005] 35 (0, 0))) ∧ Aside0 (Below w.heap.size w w'))
 case atStart => exact ⟨(a1), (t389), (t392), (t395), (t398), (t401), (t404), (.slice Ao7 t389.length co7), (.slice Ao10 t392.length co10), (.slice Ao11 t395.length co11), (.slice Ao12 t398.length co12), (.slice Ao13 t401.length co13), (.slice Ao14 t404.length co14), Q8, H', ⟨Nat.le_refl _⟩, ⟨Yj (Yf6 HO391.out BK407.out) (fun _ hk => ⟨hk.1.1, ⟨hk.1.2.1, ⟨hk.1.2.2.1, hk.1.2.2.2⟩⟩⟩)⟩, ⟨Yj (Yf6 HO394.out BK407.out) (fun _ hk => ⟨hk.1.1, ⟨hk.1.2.1, ⟨hk.1.2.2.1, hk.1.2.2.2⟩⟩⟩)⟩, ⟨Yj (Yf6 HO397.out BK407.out) (fun _ hk => trivial)⟩, ⟨Yj (Yf6 HO400.out BK407.out) (fun _ hk => ⟨hk.1.1, ⟨hk.1.2.1, ⟨hk.1.2.2.1, hk.1.2.2.2⟩⟩⟩)⟩, ⟨Yj (Yf6 HO403.out BK407.out) (fun _ hk => ⟨hk.1.1, ⟨hk.1.2.1, ⟨hk.1.2.2.1, hk.1.2.2.2⟩⟩⟩)⟩, ⟨Yj (Yf6 HO406.out BK407.out) (fun _ hk => ⟨hk.1.1, ⟨hk.1.2.1, ⟨hk.1.2.2.1, hk.1.2.2.2⟩⟩⟩)⟩, ⟨by (with_reducible repeat (first | refine Z25 ?_ _ | refine Z26 ?_ | refine Z27 ?_ _)); refine blk_far ?_ NB388_407.out _; (with_reducible repeat (first | refine Z25 ?_ _ | refine Z26 ?_ | refine Z27 ?_ _)); refine blk_far ?_ NB388_407.out _; (with_reducible repeat (first | refine Z25 ?_ _ | refine Z26 ?_ | refine Z27 ?_ _)); refine blk_far ?_ NB388_407.out _; (with_reducible repeat (first | refine Z25 ?_ _ | refine Z26 ?_ | refine Z27 ?_ _)); refine blk_far ?_ NB388_407.out _; (with_reducible repeat (first | refine Z25 ?_ _ | refine Z26 ?_ | refine Z27 ?_ _)); refine blk_far ?_ NB388_407.out _; (with_reducible repeat (first | refine Z25 ?_ _ | refine Z26 ?_ | refine Z27 ?_ _)); refine blk_far ?_ NB388_407.out _; (with_reducible repeat (first | refine Z25 ?_ _ | refine Z26 ?_ | refine Z27 ?_ _)); exact BK388.out⟩, ⟨by (with_reducible repeat (first | refine Z25 ?_ _ | refine Z26 ?_ | refine Z27 ?_ _)); refine Z29 (cs := #[.slice Ao7 t389.length co7, .slice Ao10 t392.length co10, .slice Ao11 t395.length co11, .slice Ao12 t398.length co12, .slice Ao13 t401.length co13, .slice none 0 0]) ?_ 5 _ rfl; (with_reducible repeat (first | refine Z25 ?_ _ | refine Z26 ?_ | refine Z27 ?_ _)); refine Z29 (cs := #[.slice Ao7 t389.length co7, .slice Ao10 t392.length co10, .slice Ao11 t395.length co11, .slice Ao12 t398.length co12, .slice none 0 0, .slice none 0 0]) ?_ 4 _ rfl; (with_reducible repeat (first | refine Z25 ?_ _ | refine Z26 ?_ | refine Z27 ?_ _)); refine Z29 (cs := #[.slice Ao7 t389.length co7, .slice Ao10 t392.length co10, .slice Ao11 t395.length co11, .slice none 0 0, .slice none 0 0, .slice none 0 0]) ?_ 3 _ rfl; (with_reducible repeat (first | refine Z25 ?_ _ | refine Z26 ?_ | refine Z27 ?_ _)); refine Z29 (cs := #[.slice Ao7 t389.length co7, .slice Ao10 t392.length co10, .slice none 0 0, .slice none 0 0, .slice none 0 0, .slice none 0 0]) ?_ 2 _ rfl; (with_reducible repeat (first | refine Z25 ?_ _ | refine Z26 ?_ | refine Z27 ?_ _)); refine Z29 (cs := #[.slice Ao7 t389.length co7, .slice none 0 0, .slice none 0 0, .slice none 0 0, .slice none 0 0, .slice none 0 0]) ?_ 1 _ rfl; (with_reducible repeat (first | refine Z25 ?_ _ | refine Z26 ?_ | refine Z27 ?_ _)); refine Z29 (cs := YN6) ?_ 0 _ rfl; (with_reducible repeat (first | refine Z25 ?_ _ | refine Z26 ?_ | refine Z27 ?_ _)); exact BK407.out⟩, ⟨Q12⟩⟩
 case round =>
  clear H'
  try clear p2
  try clear c4
  try clear c6
  try clear c8
  try clear hcz9_0
  try clear hcz9_1
  try clear hcz9_2
  try clear hcz9_3
  try clear hcz9_4
  try clear hcz9_5
  try clear hfz9_0
  try clear hfz9_1
  try clear hfz9_2
  try clear hfz9_3
  try clear hfz9_4
  try clear hfz9_5
  obtain ⟨x1_1, x408000_1, x408001_1, x408002_1, x408003_1, x408004_1, x408005_1, u408000, u408001, u408002, u408003, u408004, u408005, rfl, HA, HK1, HO_408000, HO_408001, HO_408002, HO_408003, HO_408004, HO_408005, BK388, BK407, HB⟩ := hrel
  cases gk with
  | zero => exact absurd HA.out (by simp [spec_foSwapperAt.l0])
  | succ k1 =>
   have H := HA.out
   clear HA
   simp only [spec_foSwapperAt.l0] at H
   by_cases c15 : x1_1 > 0
   ·rw [if_pos c15] at H
    have c15b0 : decide (0 < x1_1) = true := Z38 c15
    clear c15
    replace H := Z36.mp H
    obtain ⟨⟨t408, t411, t414, t417, t420, t423, t426⟩, A160, H⟩ := H
    replace H : (if t426 < 0 then (some (([] : List Int), ([] : List Int), ([] : List Bool), ([] : List Int), ([] : List Int), ([] : List Int), false)) else (spec_foSwapperAt.l0 k1 (wrap64 (x1_1 - 1)) t408 t411 t414 t417 t420 t423)) = some (r1, r2, r3, r4, r5, r6, r7) := H
    have A16 := Ya A160
    clear A160
    by_cases c17 : t426 < 0
    ·rw [if_pos c17] at H
     have c17b0 := Z38 c17
     clear c17
     simp only [Option.some.injEq, Prod.mk.injEq] at H
     obtain ⟨rfl, rfl, rfl, rfl, rfl, rfl, rfl⟩ := H
     have hnb18 := NB407_388.out
     have hnc18 := NB388_407.out
     obtain ⟨hcz19_0, hcz19_1, hcz19_2, hcz19_3, hcz19_4, hcz19_5, hfz19_0, hfz19_1, hfz19_2, hfz19_3, hfz19_4, hfz19_5⟩ := Y6 BK407.out
     obtain ⟨Ao20, co20, rfl⟩ := Z19 HO_408000.out
     obtain ⟨Ao21, co21, rfl⟩ := Z19 HO_408001.out
     obtain ⟨Ao22, co22, rfl⟩ := Z19 HO_408002.out
     obtain ⟨Ao23, co23, rfl⟩ := Z19 HO_408003.out
     obtain ⟨Ao24, co24, rfl⟩ := Z19 HO_408004.out
     obtain ⟨Ao25, co25, rfl⟩ := Z19 HO_408005.out
     go_wp2_with (first | ((with_reducible refine gate_callee (f := 55) rfl ?_); refine Yz 17 Try.func55 #[.agg #[.slice Ao20 x408000_1.length co20, .slice Ao21 x408001_1.length co21, .slice Ao22 x408002_1.length co22, .slice Ao23 x408003_1.length co23, .slice Ao24 x408004_1.length co24, .slice Ao25 x408005_1.length co25]] ?_; (with_reducible refine (spec_foSwap.calls k1 _ _ x408000_1 _ _ x408001_1 _ _ x408002_1 _ _ x408003_1 _ _ x408004_1 _ _ x408005_1 t408 t411 t414 t417 t420 t423 t426 _ (Yc (Kd.R_reads' HO_408000.out).2.2) ((Kd.R_reads' HO_408000.out).2.1) (Yc (Kd.R_reads' HO_408001.out).2.2) ((Kd.R_reads' HO_408001.out).2.1) (Yc (Kd.R_reads' HO_408002.out).2.2) ((Kd.R_reads' HO_408002.out).2.1) (Yc (Kd.R_reads' HO_408003.out).2.2) ((Kd.R_reads' HO_408003.out).2.1) (Yc (Kd.R_reads' HO_408004.out).2.2) ((Kd.R_reads' HO_408004.out).2.1) (Yc (Kd.R_reads' HO_408005.out).2.2) ((Kd.R_reads' HO_408005.out).2.1) A16.out).mono ?_); rintro e w26 ⟨v409, v412, v415, v418, v421, v424, rfl, ho0, ho1, ho2, ho3, ho4, ho5, hb⟩; refine ⟨_, rfl, ?_⟩; have HO410 := Yl (Kd.R_new' (Kd.R_new' (Kd.R_new' (Kd.R_new' (Kd.R_new' ho0 (Z18 (Yr HO_408000.out))) (Z18 (Yr HO_408001.out))) (Z18 (Yr HO_408003.out))) (Z18 (Yr HO_408004.out))) (Z18 (Yr HO_408005.out))); have HO413 := Yl (Kd.R_new' (Kd.R_new' (Kd.R_new' (Kd.R_new' (Kd.R_new' ho1 (Z18 (Yr HO_408000.out))) (Z18 (Yr HO_408001.out))) (Z18 (Yr HO_408003.out))) (Z18 (Yr HO_408004.out))) (Z18 (Yr HO_408005.out))); have HO416 := Yl (Kd.R_new' ho2 (Z18 (Yr HO_408002.out))); replace HO_408002 := Ya (Kd.R_elder' (Yr HO_408002.out) (Kd.R_base ho2) hb); have HO419 := Yl (Kd.R_new' (Kd.R_new' (Kd.R_new' (Kd.R_new' (Kd.R_new' ho3 (Z18 (Yr HO_408000.out))) (Z18 (Yr HO_408001.out))) (Z18 (Yr HO_408003.out))) (Z18 (Yr HO_408004.out))) (Z18 (Yr HO_408005.out))); have HO422 := Yl (Kd.R_new' (Kd.R_new' (Kd.R_new' (Kd.R_new' (Kd.R_new' ho4 (Z18 (Yr HO_408000.out))) (Z18 (Yr HO_408001.out))) (Z18 (Yr HO_408003.out))) (Z18 (Yr HO_408004.out))) (Z18 (Yr HO_408005.out))); have HO425 := Yl (Kd.R_new' (Kd.R_new' (Kd.R_new' (Kd.R_new' (Kd.R_new' ho5 (Z18 (Yr HO_408000.out))) (Z18 (Yr HO_408001.out))) (Z18 (Yr HO_408003.out))) (Z18 (Yr HO_408004.out))) (Z18 (Yr HO_408005.out))); replace HO_408000 := Ya (Z12 (Z16 (Z16 (Z16 (Z16 (Z16 (Z17 (Yr HO_408000.out) hb) (Kd.R_base ho0)) (Kd.R_base ho1)) (Kd.R_base ho3)) (Kd.R_base ho4)) (Kd.R_base ho5)) (fun _ h_ => h_.1)); replace HO_408001 := Ya (Z12 (Z16 (Z16 (Z16 (Z16 (Z16 (Z17 (Yr HO_408001.out) hb) (Kd.R_base ho0)) (Kd.R_base ho1)) (Kd.R_base ho3)) (Kd.R_base ho4)) (Kd.R_base ho5)) (fun _ h_ => h_.1)); replace HO_408003 := Ya (Z12 (Z16 (Z16 (Z16 (Z16 (Z16 (Z17 (Yr HO_408003.out) hb) (Kd.R_base ho0)) (Kd.R_base ho1)) (Kd.R_base ho3)) (Kd.R_base ho4)) (Kd.R_base ho5)) (fun _ h_ => h_.1)); replace HO_408004 := Ya (Z12 (Z16 (Z16 (Z16 (Z16 (Z16 (Z17 (Yr HO_408004.out) hb) (Kd.R_base ho0)) (Kd.R_base ho1)) (Kd.R_base ho3)) (Kd.R_base ho4)) (Kd.R_base ho5)) (fun _ h_ => h_.1)); replace HO_408005 := Ya (Z12 (Z16 (Z16 (Z16 (Z16 (Z16 (Z17 (Yr HO_408005.out) hb) (Kd.R_base ho0)) (Kd.R_base ho1)) (Kd.R_base ho3)) (Kd.R_base ho4)) (Kd.R_base ho5)) (fun _ h_ => h_.1)); replace BK388 := Yb BK388 hb; replace BK407 := Yb BK407 hb; replace HB := Yh hb; (try clear hb ho0 ho1 ho2 ho3 ho4 ho5)) | ((with_reducible refine gate_dst (N := 7) rfl ?_); refine Yx 7 YN6 35 ?_; intro gb427 hg w27 hbox hb; replace HO_408000 := Yw HO_408000 hb; replace HO_408001 := Yw HO_408001 hb; replace HO_408002 := Yw HO_408002 hb; replace HO_408003 := Yw HO_408003 hb; replace HO_408004 := Yw HO_408004 hb; replace HO_408005 := Yw HO_408005 hb; replace HO410 := Yw HO410 hb; replace HO413 := Yw HO413 hb; replace HO416 := Yw HO416 hb; replace HO419 := Yw HO419 hb; replace HO422 := Yw HO422 hb; replace HO425 := Yw HO425 hb; have BK427 := Ya hbox; have GE427 := Yg hg; replace HB := Yh hb; have NB388_427 := Yn BK388 hg; have NB427_388 := Ym BK388 hg; replace BK388 := Yb BK388 hb; have NB407_427 := Yn BK407 hg; have NB427_407 := Ym BK407 hg; replace BK407 := Yb BK407 hb; clear hb hbox hg; obtain ⟨Ao28, co28, rfl⟩ := Z19 HO410.out; have hnb29 := NB427_388.out; have hnc29 := NB388_427.out; have hnb30 := NB427_407.out; have hnc30 := NB407_427.out; have hz31 := Y6 BK427.out; obtain ⟨Ao32, co32, rfl⟩ := Z19 HO413.out; obtain ⟨Ao33, co33, rfl⟩ := Z19 HO416.out; obtain ⟨Ao34, co34, rfl⟩ := Z19 HO419.out; obtain ⟨Ao35, co35, rfl⟩ := Z19 HO422.out; obtain ⟨Ao36, co36, rfl⟩ := Z19 HO425.out; have hz37 := Y6 BK388.out))
     refine bodyPost_ret (results_ct rfl _ _ gb388 35 YN6 (0, 0) _ rfl (Yk (Yv6 (Yo6 BK388.out NB388_427.out))) Try.underlying35 rfl (by kernel_rfl)) rfl ?_
     exact ⟨_, _, _, _, _, _, Q2, Q6, Q6, Q6, Q6, Q6, Q6, Q12⟩
    ·rw [if_neg c17] at H
     have c17b0 := Z37 c17
     clear c17
     have H' := Ya H
     clear H
     have hnb38 := NB407_388.out
     have hnc38 := NB388_407.out
     have hz39 := Y6 BK407.out
     obtain ⟨Ao40, co40, rfl⟩ := Z19 HO_408000.out
     obtain ⟨Ao41, co41, rfl⟩ := Z19 HO_408001.out
     obtain ⟨Ao42, co42, rfl⟩ := Z19 HO_408002.out
     obtain ⟨Ao43, co43, rfl⟩ := Z19 HO_408003.out
     obtain ⟨Ao44, co44, rfl⟩ := Z19 HO_408004.out
     obtain ⟨Ao45, co45, rfl⟩ := Z19 HO_408005.out
     go_wp2_with (first | ((with_reducible refine gate_callee (f := 55) rfl ?_); refine Yz 17 Try.func55 #[.agg #[.slice Ao40 x408000_1.length co40, .slice Ao41 x408001_1.length co41, .slice Ao42 x408002_1.length co42, .slice Ao43 x408003_1.length co43, .slice Ao44 x408004_1.length co44, .slice Ao45 x408005_1.length co45]] ?_; (with_reducible refine (spec_foSwap.calls k1 _ _ x408000_1 _ _ x408001_1 _ _ x408002_1 _ _ x408003_1 _ _ x408004_1 _ _ x408005_1 t408 t411 t414 t417 t420 t423 t426 _ (Yc (Kd.R_reads' HO_408000.out).2.2) ((Kd.R_reads' HO_408000.out).2.1) (Yc (Kd.R_reads' HO_408001.out).2.2) ((Kd.R_reads' HO_408001.out).2.1) (Yc (Kd.R_reads' HO_408002.out).2.2) ((Kd.R_reads' HO_408002.out).2.1) (Yc (Kd.R_reads' HO_408003.out).2.2) ((Kd.R_reads' HO_408003.out).2.1) (Yc (Kd.R_reads' HO_408004.out).2.2) ((Kd.R_reads' HO_408004.out).2.1) (Yc (Kd.R_reads' HO_408005.out).2.2) ((Kd.R_reads' HO_408005.out).2.1) A16.out).mono ?_); rintro e w46 ⟨v409, v412, v415, v418, v421, v424, rfl, ho0, ho1, ho2, ho3, ho4, ho5, hb⟩; refine ⟨_, rfl, ?_⟩; have HO410 := Yl (Kd.R_new' (Kd.R_new' (Kd.R_new' (Kd.R_new' (Kd.R_new' ho0 (Z18 (Yr HO_408000.out))) (Z18 (Yr HO_408001.out))) (Z18 (Yr HO_408003.out))) (Z18 (Yr HO_408004.out))) (Z18 (Yr HO_408005.out))); have HO413 := Yl (Kd.R_new' (Kd.R_new' (Kd.R_new' (Kd.R_new' (Kd.R_new' ho1 (Z18 (Yr HO_408000.out))) (Z18 (Yr HO_408001.out))) (Z18 (Yr HO_408003.out))) (Z18 (Yr HO_408004.out))) (Z18 (Yr HO_408005.out))); have HO416 := Yl (Kd.R_new' ho2 (Z18 (Yr HO_408002.out))); replace HO_408002 := Ya (Kd.R_elder' (Yr HO_408002.out) (Kd.R_base ho2) hb); have HO419 := Yl (Kd.R_new' (Kd.R_new' (Kd.R_new' (Kd.R_new' (Kd.R_new' ho3 (Z18 (Yr HO_408000.out))) (Z18 (Yr HO_408001.out))) (Z18 (Yr HO_408003.out))) (Z18 (Yr HO_408004.out))) (Z18 (Yr HO_408005.out))); have HO422 := Yl (Kd.R_new' (Kd.R_new' (Kd.R_new' (Kd.R_new' (Kd.R_new' ho4 (Z18 (Yr HO_408000.out))) (Z18 (Yr HO_408001.out))) (Z18 (Yr HO_408003.out))) (Z18 (Yr HO_408004.out))) (Z18 (Yr HO_408005.out))); have HO425 := Yl (Kd.R_new' (Kd.R_new' (Kd.R_new' (Kd.R_new' (Kd.R_new' ho5 (Z18 (Yr HO_408000.out))) (Z18 (Yr HO_408001.out))) (Z18 (Yr HO_408003.out))) (Z18 (Yr HO_408004.out))) (Z18 (Yr HO_408005.out))); replace HO_408000 := Ya (Z12 (Z16 (Z16 (Z16 (Z16 (Z16 (Z17 (Yr HO_408000.out) hb) (Kd.R_base ho0)) (Kd.R_base ho1)) (Kd.R_base ho3)) (Kd.R_base ho4)) (Kd.R_base ho5)) (fun _ h_ => h_.1)); replace HO_408001 := Ya (Z12 (Z16 (Z16 (Z16 (Z16 (Z16 (Z17 (Yr HO_408001.out) hb) (Kd.R_base ho0)) (Kd.R_base ho1)) (Kd.R_base ho3)) (Kd.R_base ho4)) (Kd.R_base ho5)) (fun _ h_ => h_.1)); replace HO_408003 := Ya (Z12 (Z16 (Z16 (Z16 (Z16 (Z16 (Z17 (Yr HO_408003.out) hb) (Kd.R_base ho0)) (Kd.R_base ho1)) (Kd.R_base ho3)) (Kd.R_base ho4)) (Kd.R_base ho5)) (fun _ h_ => h_.1)); replace HO_408004 := Ya (Z12 (Z16 (Z16 (Z16 (Z16 (Z16 (Z17 (Yr HO_408004.out) hb) (Kd.R_base ho0)) (Kd.R_base ho1)) (Kd.R_base ho3)) (Kd.R_base ho4)) (Kd.R_base ho5)) (fun _ h_ => h_.1)); replace HO_408005 := Ya (Z12 (Z16 (Z16 (Z16 (Z16 (Z16 (Z17 (Yr HO_408005.out) hb) (Kd.R_base ho0)) (Kd.R_base ho1)) (Kd.R_base ho3)) (Kd.R_base ho4)) (Kd.R_base ho5)) (fun _ h_ => h_.1)); replace BK388 := Yb BK388 hb; replace BK407 := Yb BK407 hb; replace HB := Yh hb; (try clear hb ho0 ho1 ho2 ho3 ho4 ho5)) | ((with_reducible refine gate_dst (N := 7) rfl ?_); refine Yx 7 YN6 35 ?_; intro gb427 hg w47 hbox hb; replace HO_408000 := Yw HO_408000 hb; replace HO_408001 := Yw HO_408001 hb; replace HO_408002 := Yw HO_408002 hb; replace HO_408003 := Yw HO_408003 hb; replace HO_408004 := Yw HO_408004 hb; replace HO_408005 := Yw HO_408005 hb; replace HO410 := Yw HO410 hb; replace HO413 := Yw HO413 hb; replace HO416 := Yw HO416 hb; replace HO419 := Yw HO419 hb; replace HO422 := Yw HO422 hb; replace HO425 := Yw HO425 hb; have BK427 := Ya hbox; have GE427 := Yg hg; replace HB := Yh hb; have NB388_427 := Yn BK388 hg; have NB427_388 := Ym BK388 hg; replace BK388 := Yb BK388 hb; have NB407_427 := Yn BK407 hg; have NB427_407 := Ym BK407 hg; replace BK407 := Yb BK407 hb; clear hb hbox hg; obtain ⟨Ao48, co48, rfl⟩ := Z19 HO410.out; have hnb49 := NB427_388.out; have hnc49 := NB388_427.out; have hnb50 := NB427_407.out; have hnc50 := NB407_427.out; have hz51 := Y6 BK427.out; obtain ⟨Ao52, co52, rfl⟩ := Z19 HO413.out; obtain ⟨Ao53, co53, rfl⟩ := Z19 HO416.out; obtain ⟨Ao54, co54, rfl⟩ := Z19 HO419.out; obtain ⟨Ao55, co55, rfl⟩ := Z19 HO422.out; obtain ⟨Ao56, co56, rfl⟩ := Z19 HO425.out; have hz57 := Y6 BK407.out))
     go_roundg k1
     case measure => have := HK1.out; omega
     case rel => exact ⟨(wrap64 (x1_1 - 1)), (t408), (t411), (t414), (t417), (t420), (t423), (.slice Ao48 t408.length co48), (.slice Ao52 t411.length co52), (.slice Ao53 t414.length co53), (.slice Ao54 t417.length co54), (.slice Ao55 t420.length co55), (.slice Ao56 t423.length co56), Q8, H', ⟨Q20⟩, ⟨Yj (Yd6 HO410.out BK427.out BK407.out) (fun _ hk => ⟨hk.1.1.1.1.1.1.1.1, ⟨hk.1.1.1.1.1.1.1.2.1, ⟨hk.1.1.1.1.1.1.1.2.2.1, hk.1.1.1.1.1.1.1.2.2.2⟩⟩⟩)⟩, ⟨Yj (Yd6 HO413.out BK427.out BK407.out) (fun _ hk => ⟨hk.1.1.1.1.1.1.1.1, ⟨hk.1.1.1.1.1.1.1.2.1, ⟨hk.1.1.1.1.1.1.1.2.2.1, hk.1.1.1.1.1.1.1.2.2.2⟩⟩⟩)⟩, ⟨Yj (Yd6 HO416.out BK427.out BK407.out) (fun _ hk => trivial)⟩, ⟨Yj (Yd6 HO419.out BK427.out BK407.out) (fun _ hk => ⟨hk.1.1.1.1.1.1.1.1, ⟨hk.1.1.1.1.1.1.1.2.1, ⟨hk.1.1.1.1.1.1.1.2.2.1, hk.1.1.1.1.1.1.1.2.2.2⟩⟩⟩)⟩, ⟨Yj (Yd6 HO422.out BK427.out BK407.out) (fun _ hk => ⟨hk.1.1.1.1.1.1.1.1, ⟨hk.1.1.1.1.1.1.1.2.1, ⟨hk.1.1.1.1.1.1.1.2.2.1, hk.1.1.1.1.1.1.1.2.2.2⟩⟩⟩)⟩, ⟨Yj (Yd6 HO425.out BK427.out BK407.out) (fun _ hk => ⟨hk.1.1.1.1.1.1.1.1, ⟨hk.1.1.1.1.1.1.1.2.1, ⟨hk.1.1.1.1.1.1.1.2.2.1, hk.1.1.1.1.1.1.1.2.2.2⟩⟩⟩)⟩, ⟨by (with_reducible repeat (first | refine Z25 ?_ _ | refine Z26 ?_ | refine Z27 ?_ _)); refine blk_far ?_ NB388_407.out _; (with_reducible repeat (first | refine Z25 ?_ _ | refine Z26 ?_ | refine Z27 ?_ _)); refine blk_far ?_ NB388_407.out _; (with_reducible repeat (first | refine Z25 ?_ _ | refine Z26 ?_ | refine Z27 ?_ _)); refine blk_far ?_ NB388_407.out _; (with_reducible repeat (first | refine Z25 ?_ _ | refine Z26 ?_ | refine Z27 ?_ _)); refine blk_far ?_ NB388_407.out _; (with_reducible repeat (first | refine Z25 ?_ _ | refine Z26 ?_ | refine Z27 ?_ _)); refine blk_far ?_ NB388_407.out _; (with_reducible repeat (first | refine Z25 ?_ _ | refine Z26 ?_ | refine Z27 ?_ _)); refine blk_far ?_ NB388_407.out _; (with_reducible repeat (first | refine Z25 ?_ _ | refine Z26 ?_ | refine Z27 ?_ _)); refine blk_far ?_ NB388_427.out _; (with_reducible repeat (first | refine Z25 ?_ _ | refine Z26 ?_ | refine Z27 ?_ _)); refine blk_far ?_ NB388_427.out _; (with_reducible repeat (first | refine Z25 ?_ _ | refine Z26 ?_ | refine Z27 ?_ _)); refine blk_far ?_ NB388_427.out _; (with_reducible repeat (first | refine Z25 ?_ _ | refine Z26 ?_ | refine Z27 ?_ _)); refine blk_far ?_ NB388_427.out _; (with_reducible repeat (first | refine Z25 ?_ _ | refine Z26 ?_ | refine Z27 ?_ _)); refine blk_far ?_ NB388_427.out _; (with_reducible repeat (first | refine Z25 ?_ _ | refine Z26 ?_ | refine Z27 ?_ _)); refine blk_far ?_ NB388_427.out _; (with_reducible repeat (first | refine Z25 ?_ _ | refine Z26 ?_ | refine Z27 ?_ _)); exact BK388.out⟩, ⟨by (with_reducible repeat (first | refine Z25 ?_ _ | refine Z26 ?_ | refine Z27 ?_ _)); refine Z29 (cs := #[.slice Ao48 t408.length co48, .slice Ao52 t411.length co52, .slice Ao53 t414.length co53, .slice Ao54 t417.length co54, .slice Ao55 t420.length co55, .slice Ao45 x408005_1.length co45]) ?_ 5 _ rfl; (with_reducible repeat (first | refine Z25 ?_ _ | refine Z26 ?_ | refine Z27 ?_ _)); refine Z29 (cs := #[.slice Ao48 t408.length co48, .slice Ao52 t411.length co52, .slice Ao53 t414.length co53, .slice Ao54 t417.length co54, .slice Ao44 x408004_1.length co44, .slice Ao45 x408005_1.length co45]) ?_ 4 _ rfl; (with_reducible repeat (first | refine Z25 ?_ _ | refine Z26 ?_ | refine Z27 ?_ _)); refine Z29 (cs := #[.slice Ao48 t408.length co48, .slice Ao52 t411.length co52, .slice Ao53 t414.length co53, .slice Ao43 x408003_1.length co43, .slice Ao44 x408004_1.length co44, .slice Ao45 x408005_1.length co45]) ?_ 3 _ rfl; (with_reducible repeat (first | refine Z25 ?_ _ | refine Z26 ?_ | refine Z27 ?_ _)); refine Z29 (cs := #[.slice Ao48 t408.length co48, .slice Ao52 t411.length co52, .slice Ao42 x408002_1.length co42, .slice Ao43 x408003_1.length co43, .slice Ao44 x408004_1.length co44, .slice Ao45 x408005_1.length co45]) ?_ 2 _ rfl; (with_reducible repeat (first | refine Z25 ?_ _ | refine Z26 ?_ | refine Z27 ?_ _)); refine Z29 (cs := #[.slice Ao48 t408.length co48, .slice Ao41 x408001_1.length co41, .slice Ao42 x408002_1.length co42, .slice Ao43 x408003_1.length co43, .slice Ao44 x408004_1.length co44, .slice Ao45 x408005_1.length co45]) ?_ 1 _ rfl; (with_reducible repeat (first | refine Z25 ?_ _ | refine Z26 ?_ | refine Z27 ?_ _)); refine Z29 (cs := #[.slice Ao40 x408000_1.length co40, .slice Ao41 x408001_1.length co41, .slice Ao42 x408002_1.length co42, .slice Ao43 x408003_1.length co43, .slice Ao44 x408004_1.length co44, .slice Ao45 x408005_1.length co45]) ?_ 0 _ rfl; (with_reducible repeat (first | refine Z25 ?_ _ | refine Z26 ?_ | refine Z27 ?_ _)); refine blk_far ?_ NB407_427.out _; (with_reducible repeat (first | refine Z25 ?_ _ | refine Z26 ?_ | refine Z27 ?_ _)); refine blk_far ?_ NB407_427.out _; (with_reducible repeat (first | refine Z25 ?_ _ | refine Z26 ?_ | refine Z27 ?_ _)); refine blk_far ?_ NB407_427.out _; (with_reducible repeat (first | refine Z25 ?_ _ | refine Z26 ?_ | refine Z27 ?_ _)); refine blk_far ?_ NB407_427.out _; (with_reducible repeat (first | refine Z25 ?_ _ | refine Z26 ?_ | refine Z27 ?_ _)); refine blk_far ?_ NB407_427.out _; (with_reducible repeat (first | refine Z25 ?_ _ | refine Z26 ?_ | refine Z27 ?_ _)); refine blk_far ?_ NB407_427.out _; (with_reducible repeat (first | refine Z25 ?_ _ | refine Z26 ?_ | refine Z27 ?_ _)); exact BK407.out⟩, ⟨Q12⟩⟩
   ·rw [if_neg c15] at H
    have c15b0 : decide (0 < x1_1) = false := Z37 c15
    clear c15
    simp only [Option.some.injEq, Prod.mk.injEq] at H
    obtain ⟨rfl, rfl, rfl, rfl, rfl, rfl, rfl⟩ := H
    have hnb58 := NB407_388.out
    have hnc58 := NB388_407.out
    have hz59 := Y6 BK407.out
    obtain ⟨Ao60, co60, rfl⟩ := Z19 HO_408000.out
    have hz61 := Y6 BK388.out
    obtain ⟨Ao62, co62, rfl⟩ := Z19 HO_408001.out
    obtain ⟨Ao63, co63, rfl⟩ := Z19 HO_408002.out
    obtain ⟨Ao64, co64, rfl⟩ := Z19 HO_408003.out
    obtain ⟨Ao65, co65, rfl⟩ := Z19 HO_408004.out
    obtain ⟨Ao66, co66, rfl⟩ := Z19 HO_408005.out
    go_wp2
    refine bodyPost_ret (results_ct rfl _ _ gb388 35 #[.slice Ao60 x408000_1.length co60, .slice Ao62 x408001_1.length co62, .slice Ao63 x408002_1.length co63, .slice Ao64 x408003_1.length co64, .slice Ao65 x408004_1.length co65, .slice Ao66 x408005_1.length co66] (0, 0) _ rfl (Yk (Yv6 BK388.out)) Try.underlying35 rfl (by kernel_rfl)) rfl ?_
    exact ⟨_, _, _, _, _, _, Q2, Yj (Yf6 HO_408000.out BK388.out) (fun _ hk => ⟨hk.1.1, ⟨hk.1.2.1, ⟨hk.1.2.2.1, hk.1.2.2.2⟩⟩⟩), Yj (Yf6 HO_408001.out BK388.out) (fun _ hk => ⟨hk.1.1, ⟨hk.1.2.1, ⟨hk.1.2.2.1, hk.1.2.2.2⟩⟩⟩), Yj (Yf6 HO_408002.out BK388.out) (fun _ hk => trivial), Yj (Yf6 HO_408003.out BK388.out) (fun _ hk => ⟨hk.1.1, ⟨hk.1.2.1, ⟨hk.1.2.2.1, hk.1.2.2.2⟩⟩⟩), Yj (Yf6 HO_408004.out BK388.out) (fun _ hk => ⟨hk.1.1, ⟨hk.1.2.1, ⟨hk.1.2.2.1, hk.1.2.2.2⟩⟩⟩), Yj (Yf6 HO_408005.out BK388.out) (fun _ hk => ⟨hk.1.1, ⟨hk.1.2.1, ⟨hk.1.2.2.1, hk.1.2.2.2⟩⟩⟩), Q12⟩
def spec_l1Has.l0 : Nat → Int → List Int → Int → Int → Option (Bool)
 | 0, _, _, _, _ => none
 | k + 1, x1, x7, x8, x9 => if x9 < x8 then (if 0 ≤ x9 then (if x9 < (x7.length : Int) then (if (rd x7 x9) = x1 then (some true) else (spec_l1Has.l0 k x1 x7 x8 (wrap64 (x9 + 1)))) else (none)) else (none)) else (some false)
def spec_l1Has.f (k : Nat) (l0 : List Int) (a1 : Int) : Option (Bool) := spec_l1Has.l0 k a1 l0 (l0.length : Int) 0
theorem spec_l1Has.mono_l : ∀ k, (∀ y0 y1 y2 y3, LeO (spec_l1Has.l0 k y0 y1 y2 y3) (spec_l1Has.l0 (k + 1) y0 y1 y2 y3))
 | 0 => fun _ _ _ _ r h => by simp [spec_l1Has.l0] at h
 | k + 1 => by
  have ih0 := spec_l1Has.mono_l k
  ·intro y0 y1 y2 y3
   unfold spec_l1Has.l0
   repeat' first
   | (with_reducible exact ih0 _ _ _ _)
   | (with_reducible exact LeO.refl _)
   | (with_reducible exact LeO.none _)
   | (with_reducible refine LeO.ite ?_ ?_)
   | (with_reducible refine LeO.bind ?_ (fun _ => ?_))
   | exact ih0 _ _ _ _
   | exact LeO.none _
   | refine LeO.ite ?_ ?_
   | refine LeO.bind ?_ (fun _ => ?_)
theorem spec_l1Has.mono : ∀ a0 a1 k, LeO (spec_l1Has.f k a0 a1) (spec_l1Has.f (k + 1) a0 a1) := by
 intro a0 a1 k
 have ih0 := spec_l1Has.mono_l k
 unfold spec_l1Has.f
 repeat' first
   | (with_reducible exact ih0 _ _ _ _)
   | (with_reducible exact LeO.refl _)
   | (with_reducible exact LeO.none _)
   | (with_reducible refine LeO.ite ?_ ?_)
   | (with_reducible refine LeO.bind ?_ (fun _ => ?_))
   | exact ih0 _ _ _ _
   | exact LeO.none _
   | refine LeO.ite ?_ ?_
   | refine LeO.bind ?_ (fun _ => ?_)
set_option maxHeartbeats 8000000 in
set_option maxRecDepth 100000 in
theorem spec_l1Has.calls (k : Nat) (A0 : Option Addr) (c0 : Nat) (l0 : List Int) (a1 : Int) (r : Bool) (w : World) (hr0 : Kd.C (Kd.int .i64) w A0 l0.length l0) (hc0 : l0.length ≤ c0) (h : spec_l1Has.f k l0 a1 = some r) :
  Calls Try.prog 83 #[.slice A0 l0.length c0, .int .i64 a1] w fun e w' => e = .returned (.bool r) ∧ Drawn0 w w' := by
 have HR0 := Ya hr0
 have HC0 := Ya hc0
 clear hr0 hc0
 have H : (spec_l1Has.l0 k a1 l0 (l0.length : Int) 0) = some r := h
 clear h
 have H' := Ya H
 clear H
 go_enter Try.func83, Try.ntmps83
 go_wp2
 go_loopg [9] k (fun kq v9 w' => ∃ (x9_1 : Int), v9 = .int .i64 x9_1 ∧ Aside0 (spec_l1Has.l0 kq a1 l0 (l0.length : Int) x9_1 = some r) ∧ Aside0 (kq ≤ k) ∧ Drawn0 w w')
 case atStart => exact ⟨(0), Q8, H', ⟨Nat.le_refl _⟩, Q5⟩
 case round =>
  clear H'
  try clear p2
  obtain ⟨x9_1, rfl, HA, HK1, ⟨m1, rfl⟩⟩ := hrel
  cases gk with
  | zero => exact absurd HA.out (by simp [spec_l1Has.l0])
  | succ k1 =>
   have H := HA.out
   clear HA
   simp only [spec_l1Has.l0] at H
   by_cases c3 : x9_1 < (l0.length : Int)
   ·rw [if_pos c3] at H
    have c3b0 := Z38 c3
    clear c3
    by_cases c4 : 0 ≤ x9_1
    ·rw [if_pos c4] at H
     have c4b0 := Z38 c4
     clear c4
     by_cases c5 : x9_1 < (l0.length : Int)
     ·rw [if_pos c5] at H
      have c5b0 := Z38 c5
      clear c5
      by_cases c6 : (rd l0 x9_1) = a1
      ·rw [if_pos c6] at H
       have c6b0 : ((rd l0 x9_1) == a1) = true := beq_iff_eq.mpr c6
       have c6b1 : ((rd l0 x9_1) != a1) = false := bne_eq_false_iff_eq.mpr c6
       clear c6
       obtain rfl := Option.some.inj H
       have p428 : 0 ≤ (x9_1 : Int) := Z30 Q1
       have q428 : x9_1 < (l0.length : Int) := Z30 Q1
       obtain ⟨ad428, e428, hx428_0⟩ := Kd.at_int HR0.out x9_1 p428 q428
       cases e428
       replace p428 := eq_true p428
       replace q428 := eq_true q428
       go_wp2
       go_ret
       exact ⟨Q13, Q5⟩
      ·rw [if_neg c6] at H
       have c6b0 : ((rd l0 x9_1) == a1) = false := beq_eq_false_iff_ne.mpr c6
       have c6b1 : ((rd l0 x9_1) != a1) = true := bne_iff_ne.mpr c6
       have H' := Ya H
       clear H
       have p428 : 0 ≤ (x9_1 : Int) := Z30 Q1
       have q428 : x9_1 < (l0.length : Int) := Z30 Q1
       obtain ⟨ad428, e428, hx428_0⟩ := Kd.at_int HR0.out x9_1 p428 q428
       cases e428
       replace p428 := eq_true p428
       replace q428 := eq_true q428
       go_wp2
       go_roundg k1
       case measure => have := HK1.out; omega
       case rel => exact ⟨(wrap64 (x9_1 + 1)), Q8, H', ⟨Q20⟩, Q5⟩
     ·rw [if_neg c5] at H
      exact absurd H (by simp)
    ·rw [if_neg c4] at H
     exact absurd H (by simp)
   ·rw [if_neg c3] at H
    have c3b0 := Z37 c3
    clear c3
    obtain rfl := Option.some.inj H
    go_wp2
    go_ret
    exact ⟨Q13, Q5⟩
def spec_raPermutation.l0 : Nat → List Int → List Int → Int → Int → Option (Bool)
 | 0, _, _, _, _ => none
 | k + 1, x0, x5, x6, x7 => if x7 < x6 then (if 0 ≤ x7 then (if x7 < (x5.length : Int) then (if x7 ≥ 12 then (some false) else ((spec_l1In.f (rd x5 x7) 0 (wrap64 ((x0.length : Int) - 1))).bind fun t430 => (if t430 = true then (if x7 ≤ (x0.length : Int) then ((spec_l1Has.f k (x0.take (x7 : Int).toNat) (rd x5 x7)).bind fun t432 => (if t432 = true then (some false) else (spec_raPermutation.l0 k x0 x5 x6 (wrap64 (x7 + 1))))) else (none)) else (some false)))) else (none)) else (none)) else (some true)
def spec_raPermutation.f (k : Nat) (l0 : List Int) : Option (Bool) := spec_raPermutation.l0 k l0 l0 (l0.length : Int) 0
theorem spec_raPermutation.mono_l : ∀ k, (∀ y0 y1 y2 y3, LeO (spec_raPermutation.l0 k y0 y1 y2 y3) (spec_raPermutation.l0 (k + 1) y0 y1 y2 y3))
 | 0 => fun _ _ _ _ r h => by simp [spec_raPermutation.l0] at h
 | k + 1 => by
  have ih0 := spec_raPermutation.mono_l k
  ·intro y0 y1 y2 y3
   unfold spec_raPermutation.l0
   repeat' first
   | (with_reducible exact ih0 _ _ _ _)
   | (with_reducible exact spec_l1Has.mono _ _ _)
   | (with_reducible exact LeO.refl _)
   | (with_reducible exact LeO.none _)
   | (with_reducible refine LeO.ite ?_ ?_)
   | (with_reducible refine LeO.bind ?_ (fun _ => ?_))
   | exact ih0 _ _ _ _
   | exact spec_l1Has.mono _ _ _
   | exact LeO.none _
   | refine LeO.ite ?_ ?_
   | refine LeO.bind ?_ (fun _ => ?_)
theorem spec_raPermutation.mono : ∀ a0 k, LeO (spec_raPermutation.f k a0) (spec_raPermutation.f (k + 1) a0) := by
 intro a0 k
 have ih0 := spec_raPermutation.mono_l k
 unfold spec_raPermutation.f
 repeat' first
   | (with_reducible exact ih0 _ _ _ _)
   | (with_reducible exact spec_l1Has.mono _ _ _)
   | (with_reducible exact LeO.refl _)
   | (with_reducible exact LeO.none _)
   | (with_reducible refine LeO.ite ?_ ?_)
   | (with_reducible refine LeO.bind ?_ (fun _ => ?_))
   | exact ih0 _ _ _ _
   | exact spec_l1Has.mono _ _ _
   | exact LeO.none _
   | refine LeO.ite ?_ ?_
   | refine LeO.bind ?_ (fun _ => ?_)
set_option maxHeartbeats 8000000 in
set_option maxRecDepth 100000 in
theorem spec_raPermutation.calls (k : Nat) (A0 : Option Addr) (c0 : Nat) (l0 : List Int) (r : Bool) (w : World) (hr0 : Kd.C (Kd.int .i64) w A0 l0.length l0) (hc0 : l0.length ≤ c0) (h : spec_raPermutation.f k l0 = some r) :
  Calls Try.prog 69 #[.slice A0 l0.length c0] w fun e w' => e = .returned (.bool r) ∧ Drawn0 w w' := by
 have HR0 := Ya hr0
 have HC0 := Ya hc0
 clear hr0 hc0
 have H : (spec_raPermutation.l0 k l0 l0 (l0.length : Int) 0) = some r := h
 clear h
 have H' := Ya H
 clear H
 go_enter Try.func69, Try.ntmps69
 go_wp2
 go_loopg [7] k (fun kq v7 w' => ∃ (x7_1 : Int), v7 = .int .i64 x7_1 ∧ Aside0 (spec_raPermutation.l0 kq l0 l0 (l0.length : Int) x7_1 = some r) ∧ Aside0 (kq ≤ k) ∧ Drawn0 w w')
 case atStart => exact ⟨(0), Q8, H', ⟨Nat.le_refl _⟩, Q5⟩
 case round =>
  clear H'
  obtain ⟨x7_1, rfl, HA, HK1, ⟨m1, rfl⟩⟩ := hrel
  cases gk with
  | zero => exact absurd HA.out (by simp [spec_raPermutation.l0])
  | succ k1 =>
   have H := HA.out
   clear HA
   simp only [spec_raPermutation.l0] at H
   by_cases c2 : x7_1 < (l0.length : Int)
   ·rw [if_pos c2] at H
    have c2b0 := Z38 c2
    clear c2
    by_cases c3 : 0 ≤ x7_1
    ·rw [if_pos c3] at H
     have c3b0 := Z38 c3
     clear c3
     by_cases c4 : x7_1 < (l0.length : Int)
     ·rw [if_pos c4] at H
      have c4b0 := Z38 c4
      clear c4
      by_cases c5 : x7_1 ≥ 12
      ·rw [if_pos c5] at H
       have c5b0 : decide (12 ≤ x7_1) = true := Z38 c5
       clear c5
       obtain rfl := Option.some.inj H
       have p429 : 0 ≤ (x7_1 : Int) := Z30 Q1
       have q429 : x7_1 < (l0.length : Int) := Z30 Q1
       obtain ⟨ad429, e429, hx429_0⟩ := Kd.at_int HR0.out x7_1 p429 q429
       cases e429
       replace p429 := eq_true p429
       replace q429 := eq_true q429
       go_wp2
       go_ret
       exact ⟨Q13, Q5⟩
      ·rw [if_neg c5] at H
       have c5b0 : decide (12 ≤ x7_1) = false := Z37 c5
       clear c5
       replace H := Z36.mp H
       obtain ⟨t430, A60, H⟩ := H
       replace H : (if t430 = true then (if x7_1 ≤ (l0.length : Int) then ((spec_l1Has.f k1 (l0.take (x7_1 : Int).toNat) (rd l0 x7_1)).bind fun t432 => (if t432 = true then (some false) else (spec_raPermutation.l0 k1 l0 l0 (l0.length : Int) (wrap64 (x7_1 + 1))))) else (none)) else (some false)) = some r := H
       have A6 := Ya A60
       clear A60
       by_cases c7 : t430 = true
       ·subst c7
        have H1 : (if x7_1 ≤ (l0.length : Int) then ((spec_l1Has.f k1 (l0.take (x7_1 : Int).toNat) (rd l0 x7_1)).bind fun t432 => (if t432 = true then (some false) else (spec_raPermutation.l0 k1 l0 l0 (l0.length : Int) (wrap64 (x7_1 + 1))))) else (none)) = some r := by rw [if_pos rfl] at H; exact H
        clear H
        have H := H1
        clear H1
        have c8b0 := eq_true (Z30 Q1 : 0 ≤ x7_1)
        by_cases c9 : x7_1 ≤ (l0.length : Int)
        ·rw [if_pos c9] at H
         have c9b0 := eq_true c9
         have c9b1 := Z38 c9
         have HLEc9 := Ya c9
         clear c9
         replace H := Z36.mp H
         obtain ⟨t432, A100, H⟩ := H
         replace H : (if t432 = true then (some false) else (spec_raPermutation.l0 k1 l0 l0 (l0.length : Int) (wrap64 (x7_1 + 1)))) = some r := H
         have A10 := Ya A100
         clear A100
         by_cases c11 : t432 = true
         ·subst c11
          have H1 : (some false) = some r := by rw [if_pos rfl] at H; exact H
          clear H
          have H := H1
          clear H1
          obtain rfl := Option.some.inj H
          have p429 : 0 ≤ (x7_1 : Int) := Z30 Q1
          have q429 : x7_1 < (l0.length : Int) := Z30 Q1
          obtain ⟨ad429, e429, hx429_0⟩ := Kd.at_int HR0.out x7_1 p429 q429
          cases e429
          replace p429 := eq_true p429
          replace q429 := eq_true q429
          go_wp2_with (first | (go_at_call 44; (with_reducible refine (spec_l1In.calls (rd l0 x7_1) 0 (wrap64 ((l0.length : Int) - 1)) true _ A6.out).mono ?_); rintro e w' ⟨rfl, ⟨nd, rfl⟩⟩; obtain ⟨i012, hi012, _, hsz12, _⟩ := info_parts info3; obtain ⟨hcut12, hA12, hC12⟩ := print_take_of (P := Try.prog) (Value.int .i64) 0 22 3 .i64 Try.underlying22 hi012 hsz12 (some ad429) c0 l0 x7_1 (Z30 Q1) (Z30 Q1) HC0.out; have HR431 := Ya (Kd.C_of_reads (h1 := fun _ => rfl) (hA12 _ (Kd.reads_of_C HR0.out))); have HC431 := Ya hC12; clear hA12 hC12 hi012 hsz12) | (go_at_call 83; (first | (with_reducible refine (spec_l1Has.calls k1 _ _ (l0.take (x7_1 : Int).toNat) (rd l0 x7_1) true _ ?side1 ?side2 A10.out).mono ?_) | (refine lenEq (show (l0.take (x7_1 : Int).toNat).length = (x7_1 : Int).toNat from (by rw [Z32]; have h_ := (‹Aside0 (x7_1 ≤ (l0.length : Int))›).out; omega)) ?_; (with_reducible refine (spec_l1Has.calls k1 _ _ (l0.take (x7_1 : Int).toNat) (rd l0 x7_1) true _ ?side1 ?side2 A10.out).mono ?_))); (case side1 => exact Yc HR431.out); (case side2 => exact HC431.out); rintro e w' ⟨rfl, ⟨nd, rfl⟩⟩))
          go_ret
          exact ⟨Q13, Q5⟩
         ·replace c11 := Bool.eq_false_iff.mpr c11
          subst c11
          have H1 : (spec_raPermutation.l0 k1 l0 l0 (l0.length : Int) (wrap64 (x7_1 + 1))) = some r := by rw [if_neg (show ¬ (false = true) by decide)] at H; exact H
          clear H
          have H := H1
          clear H1
          have H' := Ya H
          clear H
          have p429 : 0 ≤ (x7_1 : Int) := Z30 Q1
          have q429 : x7_1 < (l0.length : Int) := Z30 Q1
          obtain ⟨ad429, e429, hx429_0⟩ := Kd.at_int HR0.out x7_1 p429 q429
          cases e429
          replace p429 := eq_true p429
          replace q429 := eq_true q429
          go_wp2_with (first | (go_at_call 44; (with_reducible refine (spec_l1In.calls (rd l0 x7_1) 0 (wrap64 ((l0.length : Int) - 1)) true _ A6.out).mono ?_); rintro e w' ⟨rfl, ⟨nd, rfl⟩⟩; obtain ⟨i013, hi013, _, hsz13, _⟩ := info_parts info3; obtain ⟨hcut13, hA13, hC13⟩ := print_take_of (P := Try.prog) (Value.int .i64) 0 22 3 .i64 Try.underlying22 hi013 hsz13 (some ad429) c0 l0 x7_1 (Z30 Q1) (Z30 Q1) HC0.out; have HR431 := Ya (Kd.C_of_reads (h1 := fun _ => rfl) (hA13 _ (Kd.reads_of_C HR0.out))); have HC431 := Ya hC13; clear hA13 hC13 hi013 hsz13) | (go_at_call 83; (first | (with_reducible refine (spec_l1Has.calls k1 _ _ (l0.take (x7_1 : Int).toNat) (rd l0 x7_1) false _ ?side1 ?side2 A10.out).mono ?_) | (refine lenEq (show (l0.take (x7_1 : Int).toNat).length = (x7_1 : Int).toNat from (by rw [Z32]; have h_ := (‹Aside0 (x7_1 ≤ (l0.length : Int))›).out; omega)) ?_; (with_reducible refine (spec_l1Has.calls k1 _ _ (l0.take (x7_1 : Int).toNat) (rd l0 x7_1) false _ ?side1 ?side2 A10.out).mono ?_))); (case side1 => exact Yc HR431.out); (case side2 => exact HC431.out); rintro e w' ⟨rfl, ⟨nd, rfl⟩⟩))
          go_roundg k1
          case measure => have := HK1.out; omega
          case rel => exact ⟨(wrap64 (x7_1 + 1)), Q8, H', ⟨Q20⟩, Q5⟩
        ·rw [if_neg c9] at H
         exact absurd H (by simp)
       ·replace c7 := Bool.eq_false_iff.mpr c7
        subst c7
        have H1 : (some false) = some r := by rw [if_neg (show ¬ (false = true) by decide)] at H; exact H
        clear H
        have H := H1
        clear H1
        obtain rfl := Option.some.inj H
        have p429 : 0 ≤ (x7_1 : Int) := Z30 Q1
        have q429 : x7_1 < (l0.length : Int) := Z30 Q1
        obtain ⟨ad429, e429, hx429_0⟩ := Kd.at_int HR0.out x7_1 p429 q429
        cases e429
        replace p429 := eq_true p429
        replace q429 := eq_true q429
        go_wp2_with (first | (go_at_call 44; (with_reducible refine (spec_l1In.calls (rd l0 x7_1) 0 (wrap64 ((l0.length : Int) - 1)) false _ A6.out).mono ?_); rintro e w' ⟨rfl, ⟨nd, rfl⟩⟩))
        go_ret
        exact ⟨Q13, Q5⟩
     ·rw [if_neg c4] at H
      exact absurd H (by simp)
    ·rw [if_neg c3] at H
     exact absurd H (by simp)
   ·rw [if_neg c2] at H
    have c2b0 := Z37 c2
    clear c2
    obtain rfl := Option.some.inj H
    go_wp2
    go_ret
    exact ⟨Q13, Q5⟩
end Go.Proofs.Ytpfakdhfffehaaa.MFnExactStepSwapper
