/- Functions of the program as Lean functions, each with the proof that its call comes to just that: laid for this claim by this session's own program. -/
import Derived.Test.YtpfakdhfffehaaaMFnExactSwapperAtx0
import Derived.Test.YtpfakdhfffehaaaMFnExactSwapperAtx1
import Derived.Test.YtpfakdhfffehaaaMFnExactSwapperAtx4
import Derived.Test.YtpfakdhfffehaaaMFnExactSwapperAtx5
import Derived.Test.YtpfakdhfffehaaaMFnExactSwapperAtx6
namespace Go.Proofs.Ytpfakdhfffehaaa.MFnExactSwapperAt
open Go.RowKit Go.Proofs.YtpfakdhfffehaaaW.PrintWords Go.Proofs.YtpfakdhfffehaaaW.PrintLast Go.Proofs.YtpfakdhfffehaaaW.PrintMore
attribute [local go_sem] max2_int min2_int max_two min_two max_three min_three max_four min_four   -- for this text's walks alone
set_option linter.unusedVariables false
set_option linter.unusedSimpArgs false

/-! ### spec_foSwapper: function 68 -/
def spec_foSwapper.l0 : Nat → Int → List Int → Int → Option (List Int × List Int × List Bool × List Int × List Int × List Int)
 | 0, _, _, _ => none
 | k + 1, x0, x3, x4 => if x4 ≤ x0 then (if x3.length < 17592186044416 then (spec_foSwapper.l0 k x0 (x3 ++ [x4]) (wrap64 (x4 + 1))) else (none)) else ((spec_foStart.f k x3).bind fun bt195 => ((spec_raUpTo.f k x0).bind fun t207 => ((spec_raUpTo.f k x0).bind fun t210 => (some (bt195.1, bt195.2.1, bt195.2.2.1, bt195.2.2.2, t207, t210)))))
def spec_foSwapper.f (k : Nat) (a0 : Int) : Option (List Int × List Int × List Bool × List Int × List Int × List Int) := spec_foSwapper.l0 k a0 ([] : List Int) 2
theorem spec_foSwapper.mono_l : ∀ k, (∀ y0 y1 y2, LeO (spec_foSwapper.l0 k y0 y1 y2) (spec_foSwapper.l0 (k + 1) y0 y1 y2))
 | 0 => fun _ _ _ r h => by simp [spec_foSwapper.l0] at h
 | k + 1 => by
  have ih0 := spec_foSwapper.mono_l k
  ·intro y0 y1 y2
   unfold spec_foSwapper.l0
   repeat' first
   | (with_reducible exact ih0 _ _ _)
   | (with_reducible exact spec_foStart.mono _ _)
   | (with_reducible exact spec_raUpTo.mono _ _)
   | (with_reducible exact LeO.refl _)
   | (with_reducible exact LeO.none _)
   | (with_reducible refine LeO.ite ?_ ?_)
   | (with_reducible refine LeO.bind ?_ (fun _ => ?_))
   | exact ih0 _ _ _
   | exact spec_foStart.mono _ _
   | exact spec_raUpTo.mono _ _
   | exact LeO.none _
   | refine LeO.ite ?_ ?_
   | refine LeO.bind ?_ (fun _ => ?_)
theorem spec_foSwapper.mono : ∀ a0 k, LeO (spec_foSwapper.f k a0) (spec_foSwapper.f (k + 1) a0) := by
 intro a0 k
 have ih0 := spec_foSwapper.mono_l k
 unfold spec_foSwapper.f
 repeat' first
   | (with_reducible exact ih0 _ _ _)
   | (with_reducible exact spec_foStart.mono _ _)
   | (with_reducible exact spec_raUpTo.mono _ _)
   | (with_reducible exact LeO.refl _)
   | (with_reducible exact LeO.none _)
   | (with_reducible refine LeO.ite ?_ ?_)
   | (with_reducible refine LeO.bind ?_ (fun _ => ?_))
   | exact ih0 _ _ _
   | exact spec_foStart.mono _ _
   | exact spec_raUpTo.mono _ _
   | exact LeO.none _
   | refine LeO.ite ?_ ?_
   | refine LeO.bind ?_ (fun _ => ?_)
set_option maxHeartbeats 8000000 in
set_option maxRecDepth 100000 in
theorem spec_foSwapper.calls (k : Nat) (a0 : Int) (r1 : List Int) (r2 : List Int) (r3 : List Bool) (r4 : List Int) (r5 : List Int) (r6 : List Int) (w : World) (h : spec_foSwapper.f k a0 = some (r1, r2, r3, r4, r5, r6)) :
  Calls Try.prog 68 #[.int .i64 a0] w fun e w' => ∃ v0_ v1_ v2_ v3_ v4_ v5_ : Value, e = .returned (.agg #[v0_, v1_, v2_, v3_, v4_, v5_]) ∧ Kd.R (Kd.int .i64) 3 w' w.heap.size (fun k_ => some k_ ≠ (v1_ : Value).ownBlock ∧ some k_ ≠ (v3_ : Value).ownBlock ∧ some k_ ≠ (v4_ : Value).ownBlock ∧ some k_ ≠ (v5_ : Value).ownBlock) v0_ r1 ∧ Kd.R (Kd.int .i64) 3 w' w.heap.size (fun k_ => some k_ ≠ (v0_ : Value).ownBlock ∧ some k_ ≠ (v3_ : Value).ownBlock ∧ some k_ ≠ (v4_ : Value).ownBlock ∧ some k_ ≠ (v5_ : Value).ownBlock) v1_ r2 ∧ Kd.R Kd.bool 4 w' w.heap.size (fun _ => True) v2_ r3 ∧ Kd.R (Kd.int .i64) 3 w' w.heap.size (fun k_ => some k_ ≠ (v0_ : Value).ownBlock ∧ some k_ ≠ (v1_ : Value).ownBlock ∧ some k_ ≠ (v4_ : Value).ownBlock ∧ some k_ ≠ (v5_ : Value).ownBlock) v3_ r4 ∧ Kd.R (Kd.int .i64) 3 w' w.heap.size (fun k_ => some k_ ≠ (v0_ : Value).ownBlock ∧ some k_ ≠ (v1_ : Value).ownBlock ∧ some k_ ≠ (v3_ : Value).ownBlock ∧ some k_ ≠ (v5_ : Value).ownBlock) v4_ r5 ∧ Kd.R (Kd.int .i64) 3 w' w.heap.size (fun k_ => some k_ ≠ (v0_ : Value).ownBlock ∧ some k_ ≠ (v1_ : Value).ownBlock ∧ some k_ ≠ (v3_ : Value).ownBlock ∧ some k_ ≠ (v4_ : Value).ownBlock) v5_ r6 ∧ Below w.heap.size w w' := by
 have hu35 := Try.underlying35
 have HB := Ya (Below.refl w.heap.size w)
 have H : (spec_foSwapper.l0 k a0 ([] : List Int) 2) = some (r1, r2, r3, r4, r5, r6) := h
 clear h
 have H' := Ya H
 clear H
 go_enter Try.func68, Try.ntmps68
 go_wp2_with (first | ((with_reducible refine gate_dst (N := 2) rfl ?_); refine Yx 2 #[.slice none 0 0, .slice none 0 0, .slice none 0 0, .slice none 0 0, .slice none 0 0, .slice none 0 0] 35 ?_; intro gb191 hg w2 hbox hb; have BK191 := Ya hbox; have GW191 := Yg hg Q0; have GE191 := GW191; replace HB := Ya (Z8 Q0 hb); clear hb hbox hg))
 go_loopg [3, 4] k (fun kq v3 v4 w' => ∃ (x3_1 : List Int) (x4_1 : Int), v4 = .int .i64 x4_1 ∧ Aside0 (spec_foSwapper.l0 kq a0 x3_1 x4_1 = some (r1, r2, r3, r4, r5, r6)) ∧ Aside0 (kq ≤ k) ∧ Aside0 (Kd.R (Kd.int .i64) 3 w' w.heap.size (fun _ => True) v3 x3_1) ∧ Aside0 (w'.heap[gb191]? = some (.cells #[(.slice none 0 0), (.slice none 0 0), (.slice none 0 0), (.slice none 0 0), (.slice none 0 0), (.slice none 0 0)] 35 (0, 0))) ∧ Aside0 (Below w.heap.size w w'))
 case atStart => exact ⟨(([] : List Int)), (2), Q15, H', ⟨Nat.le_refl _⟩, ⟨Q2⟩, ⟨by (with_reducible repeat (first | refine Z26 ?_ _ | refine Z27 ?_ | refine Z28 ?_ _)); exact BK191.out⟩, ⟨Q67⟩⟩
 case round =>
  clear H'
  try clear p2
  obtain ⟨x3_1, x4_1, rfl, HA, HK1, HO_3, BK191, HB⟩ := hrel
  cases gk with
  | zero => exact absurd HA.out (by simp [spec_foSwapper.l0])
  | succ k1 =>
   have H := HA.out
   clear HA
   simp only [spec_foSwapper.l0] at H
   by_cases c3 : x4_1 ≤ a0
   ·rw [if_pos c3] at H
    have c3b0 : decide (x4_1 ≤ a0) = true := Z39 c3
    clear c3
    by_cases c4 : x3_1.length < 17592186044416
    ·rw [if_pos c4] at H
     have LMc4 := Ya c4
     clear c4
     obtain ⟨y192, hy192⟩ : ∃ y_ : List Int, y_ = (x3_1 ++ [x4_1]) := ⟨_, rfl⟩
     replace H : (spec_foSwapper.l0 k1 a0 y192 (wrap64 (x4_1 + 1))) = some (r1, r2, r3, r4, r5, r6) := by first | (rw [hy192]; with_reducible exact H) | (have H2_ := (Option.bind_some _ _).symm.trans H; rw [hy192]; with_reducible exact H2_) | (have H2_ := (Option.bind_some _ _).symm.trans H; with_reducible exact H2_) | with_reducible exact H | (rw [hy192]; exact H) | exact H
     have Ny192 := Ya hy192
     clear hy192
     have H' := Ya H
     clear H
     go_wp2_with (first | ((with_reducible refine gate_builtin (b := .append) (xs := #[.tmp 10, .tmp 12]) rfl ?_); at_builtin; refine Kd.R_append (Kd.int .i64) (w0 := w) w.heap.size rfl (.tmp 10) (.tmp 12) 22 3 (.int .i64 0) 8 rfl Try.underlying22 info3 rfl (by decide) (by omega) u3 x3_1 x4_1 [.int .i64 x4_1] (fun _ => True) (fun _ => False) rfl rfl ?aP (fun _ hk => hk.elim) ?aF ?aO ?aB ?aS ?aL ?_; (case aP => exact rfl); (case aB => exact Q26); (case aF => exact (fun _ _ => trivial)); (case aO => exact (Yr HO_3.out)); (case aS => exact (Z7 Q26)); (case aL => have := LMc4.out; omega); intro v193 w5 ho hb hg hat; rw [← Ny192.out] at ho; replace BK191 := Ya (blk_grown (g := gb191) (o := .cells #[.slice none 0 0, .slice none 0 0, .slice none 0 0, .slice none 0 0, .slice none 0 0, .slice none 0 0] 35 (0, 0)) (Yk BK191.out) hg (Kd.R_ne HO_3.out BK191.out (by decide))); replace HB := Ya hb; have HO194 := Ya ho; clear HO_3; clear ho hb hg hat))
     go_roundg k1
     case measure => have := HK1.out; omega
     case rel => exact ⟨(y192), (wrap64 (x4_1 + 1)), Q15, H', ⟨Q55⟩, ⟨by (with_reducible repeat (first | apply Z9 | apply Z10 | apply Z11)); exact HO194.out⟩, ⟨by (with_reducible repeat (first | refine Z26 ?_ _ | refine Z27 ?_ | refine Z28 ?_ _)); exact BK191.out⟩, ⟨Q67⟩⟩
    ·rw [if_neg c4] at H
     exact absurd H (by simp)
   ·rw [if_neg c3] at H
    have c3b0 : decide (x4_1 ≤ a0) = false := Z38 c3
    clear c3
    replace H := Z37.mp H
    obtain ⟨⟨t195, t198, t201, t204⟩, A60, H⟩ := H
    replace H : ((spec_raUpTo.f k1 a0).bind fun t207 => ((spec_raUpTo.f k1 a0).bind fun t210 => (some (t195, t198, t201, t204, t207, t210)))) = some (r1, r2, r3, r4, r5, r6) := H
    have A6 := Ya A60
    clear A60
    replace H := Z37.mp H
    obtain ⟨t207, A70, H⟩ := H
    replace H : ((spec_raUpTo.f k1 a0).bind fun t210 => (some (t195, t198, t201, t204, t207, t210))) = some (r1, r2, r3, r4, r5, r6) := H
    have A7 := Ya A70
    clear A70
    replace H := Z37.mp H
    obtain ⟨t210, A80, H⟩ := H
    replace H : (some (t195, t198, t201, t204, t207, t210)) = some (r1, r2, r3, r4, r5, r6) := H
    have A8 := Ya A80
    clear A80
    simp only [Option.some.injEq, Prod.mk.injEq] at H
    obtain ⟨rfl, rfl, rfl, rfl, rfl, rfl⟩ := H
    obtain ⟨Ao9, co9, eo9⟩ := Z19 HO_3.out
    subst eo9
    go_wp2_with (first | ((with_reducible refine gate_callee (f := 78) rfl ?_); refine goesL_ (some 15) rfl rfl Try.func78 (by kernel_rfl) rfl #[.slice Ao9 x3_1.length co9] rfl Q1 ?_; (with_reducible refine (spec_foStart.calls k1 _ _ x3_1 t195 t198 t201 t204 _ ?side1 ?side2 A6.out).mono ?_); (case side1 => repeat (first | exact (Kd.R_reads' HO_3.out).2.2 | (with_reducible refine Z20 ?_ _) | (with_reducible refine Z21 ?_ _) | (with_reducible refine Z22 ?_))); (case side2 => exact (Kd.R_reads' HO_3.out).2.1); rintro e w10 ⟨v196, v199, v202, v205, rfl, ho0, ho1, ho2, ho3, hb⟩; refine ⟨_, rfl, ?_⟩; have HO197 := Ya (Kd.R_lower (Kd.R_new' ho0 (Z18 (Yr HO_3.out))) (Z7 Q26)); have HO200 := Ya (Kd.R_lower (Kd.R_new' ho1 (Z18 (Yr HO_3.out))) (Z7 Q26)); have HO203 := Ya (Kd.R_lower ho2 (Z7 Q26)); have HO206 := Ya (Kd.R_lower (Kd.R_new' ho3 (Z18 (Yr HO_3.out))) (Z7 Q26)); replace HO_3 := Ya (Z12 (Z16 (Z16 (Z16 (Z17 (Yr HO_3.out) hb) (Kd.R_base ho0)) (Kd.R_base ho1)) (Kd.R_base ho3)) (fun _ h_ => h_.1)); replace BK191 := Yb BK191 hb; replace HB := Ya (Z8 Q26 hb); (try clear hb); (try clear hb2); (try clear hk); (try clear hi); (try clear ho0); (try clear ho1); (try clear ho2); (try clear ho3)) | ((with_reducible refine gate_callee (f := 82) rfl ?_); refine goesL_ (some 17) rfl rfl Try.func82 (by kernel_rfl) rfl #[.int .i64 a0] rfl Q1 ?_; (with_reducible refine (spec_raUpTo.calls k1 a0 t207 _ A7.out).mono ?_); rintro e w11 ⟨v208, rfl, ho0, hb⟩; refine ⟨_, rfl, ?_⟩; replace HO203 := Ya (Z14 (Yr HO203.out) hb); have HO209 := Ya (Kd.R_lower (Kd.R_new' (Kd.R_new' (Kd.R_new' (Kd.R_new' ho0 (Z18 (Yr HO_3.out))) (Z18 (Yr HO197.out))) (Z18 (Yr HO200.out))) (Z18 (Yr HO206.out))) (Z7 Q26)); replace HO_3 := Ya (Kd.R_elder' (Yr HO_3.out) (Kd.R_base ho0) hb); replace HO197 := Ya (Kd.R_elder' (Yr HO197.out) (Kd.R_base ho0) hb); replace HO200 := Ya (Kd.R_elder' (Yr HO200.out) (Kd.R_base ho0) hb); replace HO206 := Ya (Kd.R_elder' (Yr HO206.out) (Kd.R_base ho0) hb); replace BK191 := Yb BK191 hb; replace HB := Ya (Z8 Q26 hb); (try clear hb); (try clear hb2); (try clear hk); (try clear hi); (try clear ho0)) | ((with_reducible refine gate_callee (f := 82) rfl ?_); refine goesL_ (some 19) rfl rfl Try.func82 (by kernel_rfl) rfl #[.int .i64 a0] rfl Q1 ?_; (with_reducible refine (spec_raUpTo.calls k1 a0 t210 _ A8.out).mono ?_); rintro e w12 ⟨v211, rfl, ho0, hb⟩; refine ⟨_, rfl, ?_⟩; replace HO203 := Ya (Z14 (Yr HO203.out) hb); have HO212 := Ya (Kd.R_lower (Kd.R_new' (Kd.R_new' (Kd.R_new' (Kd.R_new' (Kd.R_new' ho0 (Z18 (Yr HO_3.out))) (Z18 (Yr HO197.out))) (Z18 (Yr HO200.out))) (Z18 (Yr HO206.out))) (Z18 (Yr HO209.out))) (Z7 Q26)); replace HO_3 := Ya (Kd.R_elder' (Yr HO_3.out) (Kd.R_base ho0) hb); replace HO197 := Ya (Kd.R_elder' (Yr HO197.out) (Kd.R_base ho0) hb); replace HO200 := Ya (Kd.R_elder' (Yr HO200.out) (Kd.R_base ho0) hb); replace HO206 := Ya (Kd.R_elder' (Yr HO206.out) (Kd.R_base ho0) hb); replace HO209 := Ya (Kd.R_elder' (Yr HO209.out) (Kd.R_base ho0) hb); replace BK191 := Yb BK191 hb; replace HB := Ya (Z8 Q26 hb); (try clear hb); (try clear hb2); (try clear hk); (try clear hi); (try clear ho0); obtain ⟨Ao13, co13, eo13⟩ := Z19 HO212.out; subst eo13; obtain ⟨Ao14, co14, eo14⟩ := Z19 HO209.out; subst eo14; obtain ⟨Ao15, co15, eo15⟩ := Z19 HO206.out; subst eo15; obtain ⟨Ao16, co16, eo16⟩ := Z19 HO203.out; subst eo16; obtain ⟨Ao17, co17, eo17⟩ := Z19 HO200.out; subst eo17; obtain ⟨Ao18, co18, eo18⟩ := Z19 HO197.out; subst eo18; obtain ⟨hcz19_0, hcz19_1, hcz19_2, hcz19_3, hcz19_4, hcz19_5, hfz19_0, hfz19_1, hfz19_2, hfz19_3, hfz19_4, hfz19_5⟩ := Y6 BK191.out))
    refine bodyPost_ret (results_cell_row rfl _ _ gb191 35 #[.slice Ao18 t195.length co18, .slice Ao17 t198.length co17, .slice Ao16 t201.length co16, .slice Ao15 t204.length co15, .slice Ao14 t207.length co14, .slice Ao13 t210.length co13] (0, 0) _ rfl (by (with_reducible repeat (first | refine Z26 ?_ _ | refine Z27 ?_ | refine Z28 ?_ _)); refine Z30 (cs := #[.slice Ao18 t195.length co18, .slice Ao17 t198.length co17, .slice Ao16 t201.length co16, .slice Ao15 t204.length co15, .slice Ao14 t207.length co14, .slice none 0 0]) ?_ 5 _ rfl; (with_reducible repeat (first | refine Z26 ?_ _ | refine Z27 ?_ | refine Z28 ?_ _)); refine Z30 (cs := #[.slice Ao18 t195.length co18, .slice Ao17 t198.length co17, .slice Ao16 t201.length co16, .slice Ao15 t204.length co15, .slice none 0 0, .slice none 0 0]) ?_ 4 _ rfl; (with_reducible repeat (first | refine Z26 ?_ _ | refine Z27 ?_ | refine Z28 ?_ _)); refine Z30 (cs := #[.slice Ao18 t195.length co18, .slice Ao17 t198.length co17, .slice Ao16 t201.length co16, .slice none 0 0, .slice none 0 0, .slice none 0 0]) ?_ 3 _ rfl; (with_reducible repeat (first | refine Z26 ?_ _ | refine Z27 ?_ | refine Z28 ?_ _)); refine Z30 (cs := #[.slice Ao18 t195.length co18, .slice Ao17 t198.length co17, .slice none 0 0, .slice none 0 0, .slice none 0 0, .slice none 0 0]) ?_ 2 _ rfl; (with_reducible repeat (first | refine Z26 ?_ _ | refine Z27 ?_ | refine Z28 ?_ _)); refine Z30 (cs := #[.slice Ao18 t195.length co18, .slice none 0 0, .slice none 0 0, .slice none 0 0, .slice none 0 0, .slice none 0 0]) ?_ 1 _ rfl; (with_reducible repeat (first | refine Z26 ?_ _ | refine Z27 ?_ | refine Z28 ?_ _)); refine Z30 (cs := #[.slice none 0 0, .slice none 0 0, .slice none 0 0, .slice none 0 0, .slice none 0 0, .slice none 0 0]) ?_ 0 _ rfl; (with_reducible repeat (first | refine Z26 ?_ _ | refine Z27 ?_ | refine Z28 ?_ _)); exact BK191.out) Try.underlying35 rfl (by kernel_rfl)) rfl ?_
    exact ⟨_, _, _, _, _, _, Q9, by (with_reducible repeat (first | apply Z9 | apply Z10 | apply Z11)); exact Z12 (Z13 (p := ⟨gb191, 5, none⟩) (Z13 (p := ⟨gb191, 4, none⟩) (Z13 (p := ⟨gb191, 3, none⟩) (Z13 (p := ⟨gb191, 2, none⟩) (Z13 (p := ⟨gb191, 1, none⟩) (Z13 (p := ⟨gb191, 0, none⟩) (Z15 HO197.out BK191.out (by decide)) (fun _ hk => hk.2) (.slice Ao18 t195.length co18)) (fun _ hk => hk.2) (.slice Ao17 t198.length co17)) (fun _ hk => hk.2) (.slice Ao16 t201.length co16)) (fun _ hk => hk.2) (.slice Ao15 t204.length co15)) (fun _ hk => hk.2) (.slice Ao14 t207.length co14)) (fun _ hk => hk.2) (.slice Ao13 t210.length co13)) (fun _ hk => ⟨hk.1.1.1.1.1, ⟨hk.1.1.1.1.2, ⟨hk.1.1.2, hk.1.2⟩⟩⟩), by (with_reducible repeat (first | apply Z9 | apply Z10 | apply Z11)); exact Z12 (Z13 (p := ⟨gb191, 5, none⟩) (Z13 (p := ⟨gb191, 4, none⟩) (Z13 (p := ⟨gb191, 3, none⟩) (Z13 (p := ⟨gb191, 2, none⟩) (Z13 (p := ⟨gb191, 1, none⟩) (Z13 (p := ⟨gb191, 0, none⟩) (Z15 HO200.out BK191.out (by decide)) (fun _ hk => hk.2) (.slice Ao18 t195.length co18)) (fun _ hk => hk.2) (.slice Ao17 t198.length co17)) (fun _ hk => hk.2) (.slice Ao16 t201.length co16)) (fun _ hk => hk.2) (.slice Ao15 t204.length co15)) (fun _ hk => hk.2) (.slice Ao14 t207.length co14)) (fun _ hk => hk.2) (.slice Ao13 t210.length co13)) (fun _ hk => ⟨hk.1.1.1.1.1, ⟨hk.1.1.1.1.2, ⟨hk.1.1.2, hk.1.2⟩⟩⟩), by (with_reducible repeat (first | apply Z9 | apply Z10 | apply Z11)); exact Z12 (Z13 (p := ⟨gb191, 5, none⟩) (Z13 (p := ⟨gb191, 4, none⟩) (Z13 (p := ⟨gb191, 3, none⟩) (Z13 (p := ⟨gb191, 2, none⟩) (Z13 (p := ⟨gb191, 1, none⟩) (Z13 (p := ⟨gb191, 0, none⟩) (Z15 HO203.out BK191.out (by decide)) (fun _ hk => hk.2) (.slice Ao18 t195.length co18)) (fun _ hk => hk.2) (.slice Ao17 t198.length co17)) (fun _ hk => hk.2) (.slice Ao16 t201.length co16)) (fun _ hk => hk.2) (.slice Ao15 t204.length co15)) (fun _ hk => hk.2) (.slice Ao14 t207.length co14)) (fun _ hk => hk.2) (.slice Ao13 t210.length co13)) (fun _ hk => trivial), by (with_reducible repeat (first | apply Z9 | apply Z10 | apply Z11)); exact Z12 (Z13 (p := ⟨gb191, 5, none⟩) (Z13 (p := ⟨gb191, 4, none⟩) (Z13 (p := ⟨gb191, 3, none⟩) (Z13 (p := ⟨gb191, 2, none⟩) (Z13 (p := ⟨gb191, 1, none⟩) (Z13 (p := ⟨gb191, 0, none⟩) (Z15 HO206.out BK191.out (by decide)) (fun _ hk => hk.2) (.slice Ao18 t195.length co18)) (fun _ hk => hk.2) (.slice Ao17 t198.length co17)) (fun _ hk => hk.2) (.slice Ao16 t201.length co16)) (fun _ hk => hk.2) (.slice Ao15 t204.length co15)) (fun _ hk => hk.2) (.slice Ao14 t207.length co14)) (fun _ hk => hk.2) (.slice Ao13 t210.length co13)) (fun _ hk => ⟨hk.1.1.1.1.1, ⟨hk.1.1.1.1.2, ⟨hk.1.1.2, hk.1.2⟩⟩⟩), by (with_reducible repeat (first | apply Z9 | apply Z10 | apply Z11)); exact Z12 (Z13 (p := ⟨gb191, 5, none⟩) (Z13 (p := ⟨gb191, 4, none⟩) (Z13 (p := ⟨gb191, 3, none⟩) (Z13 (p := ⟨gb191, 2, none⟩) (Z13 (p := ⟨gb191, 1, none⟩) (Z13 (p := ⟨gb191, 0, none⟩) (Z15 HO209.out BK191.out (by decide)) (fun _ hk => hk.2) (.slice Ao18 t195.length co18)) (fun _ hk => hk.2) (.slice Ao17 t198.length co17)) (fun _ hk => hk.2) (.slice Ao16 t201.length co16)) (fun _ hk => hk.2) (.slice Ao15 t204.length co15)) (fun _ hk => hk.2) (.slice Ao14 t207.length co14)) (fun _ hk => hk.2) (.slice Ao13 t210.length co13)) (fun _ hk => ⟨hk.1.1.1.1.2, ⟨hk.1.1.1.2, ⟨hk.1.1.2, hk.1.2⟩⟩⟩), by (with_reducible repeat (first | apply Z9 | apply Z10 | apply Z11)); exact Z12 (Z13 (p := ⟨gb191, 5, none⟩) (Z13 (p := ⟨gb191, 4, none⟩) (Z13 (p := ⟨gb191, 3, none⟩) (Z13 (p := ⟨gb191, 2, none⟩) (Z13 (p := ⟨gb191, 1, none⟩) (Z13 (p := ⟨gb191, 0, none⟩) (Z15 HO212.out BK191.out (by decide)) (fun _ hk => hk.2) (.slice Ao18 t195.length co18)) (fun _ hk => hk.2) (.slice Ao17 t198.length co17)) (fun _ hk => hk.2) (.slice Ao16 t201.length co16)) (fun _ hk => hk.2) (.slice Ao15 t204.length co15)) (fun _ hk => hk.2) (.slice Ao14 t207.length co14)) (fun _ hk => hk.2) (.slice Ao13 t210.length co13)) (fun _ hk => ⟨hk.1.1.1.1.2, ⟨hk.1.1.1.2, ⟨hk.1.1.2, hk.1.2⟩⟩⟩), Q67⟩

/-! ### spec_foSwapperAt: function 46 -/
def spec_foSwapperAt.l0 : Nat → Int → List Int → List Int → List Bool → List Int → List Int → List Int → Option (List Int × List Int × List Bool × List Int × List Int × List Int × Bool)
 | 0, _, _, _, _, _, _, _ => none
 | k + 1, x1, x233000, x233001, x233002, x233003, x233004, x233005 => if x1 > 0 then ((spec_foSwap.f k x233000 x233001 x233002 x233003 x233004 x233005).bind fun bt233 => (if bt233.2.2.2.2.2.2 < 0 then (some (([] : List Int), ([] : List Int), ([] : List Bool), ([] : List Int), ([] : List Int), ([] : List Int), false)) else (spec_foSwapperAt.l0 k (wrap64 (x1 - 1)) bt233.1 bt233.2.1 bt233.2.2.1 bt233.2.2.2.1 bt233.2.2.2.2.1 bt233.2.2.2.2.2.1))) else (some (x233000, x233001, x233002, x233003, x233004, x233005, true))
def spec_foSwapperAt.f (k : Nat) (a0 : Int) (a1 : Int) : Option (List Int × List Int × List Bool × List Int × List Int × List Int × Bool) := (spec_foSwapper.f k a0).bind fun bt214 => (spec_foSwapperAt.l0 k a1 bt214.1 bt214.2.1 bt214.2.2.1 bt214.2.2.2.1 bt214.2.2.2.2.1 bt214.2.2.2.2.2)
theorem spec_foSwapperAt.mono_l : ∀ k, (∀ y0 y1 y2 y3 y4 y5 y6, LeO (spec_foSwapperAt.l0 k y0 y1 y2 y3 y4 y5 y6) (spec_foSwapperAt.l0 (k + 1) y0 y1 y2 y3 y4 y5 y6))
 | 0 => fun _ _ _ _ _ _ _ r h => by simp [spec_foSwapperAt.l0] at h
 | k + 1 => by
  have ih0 := spec_foSwapperAt.mono_l k
  ·intro y0 y1 y2 y3 y4 y5 y6
   unfold spec_foSwapperAt.l0
   repeat' first
   | (with_reducible exact ih0 _ _ _ _ _ _ _)
   | (with_reducible exact spec_foSwap.mono _ _ _ _ _ _ _)
   | (with_reducible exact spec_foSwapper.mono _ _)
   | (with_reducible exact LeO.refl _)
   | (with_reducible exact LeO.none _)
   | (with_reducible refine LeO.ite ?_ ?_)
   | (with_reducible refine LeO.bind ?_ (fun _ => ?_))
   | exact ih0 _ _ _ _ _ _ _
   | exact spec_foSwap.mono _ _ _ _ _ _ _
   | exact spec_foSwapper.mono _ _
   | exact LeO.none _
   | refine LeO.ite ?_ ?_
   | refine LeO.bind ?_ (fun _ => ?_)
theorem spec_foSwapperAt.mono : ∀ a0 a1 k, LeO (spec_foSwapperAt.f k a0 a1) (spec_foSwapperAt.f (k + 1) a0 a1) := by
 intro a0 a1 k
 have ih0 := spec_foSwapperAt.mono_l k
 unfold spec_foSwapperAt.f
 repeat' first
   | (with_reducible exact ih0 _ _ _ _ _ _ _)
   | (with_reducible exact spec_foSwap.mono _ _ _ _ _ _ _)
   | (with_reducible exact spec_foSwapper.mono _ _)
   | (with_reducible exact LeO.refl _)
   | (with_reducible exact LeO.none _)
   | (with_reducible refine LeO.ite ?_ ?_)
   | (with_reducible refine LeO.bind ?_ (fun _ => ?_))
   | exact ih0 _ _ _ _ _ _ _
   | exact spec_foSwap.mono _ _ _ _ _ _ _
   | exact spec_foSwapper.mono _ _
   | exact LeO.none _
   | refine LeO.ite ?_ ?_
   | refine LeO.bind ?_ (fun _ => ?_)
set_option maxHeartbeats 8000000 in
set_option maxRecDepth 100000 in
theorem spec_foSwapperAt.calls (k : Nat) (a0 : Int) (a1 : Int) (r1 : List Int) (r2 : List Int) (r3 : List Bool) (r4 : List Int) (r5 : List Int) (r6 : List Int) (r7 : Bool) (w : World) (h : spec_foSwapperAt.f k a0 a1 = some (r1, r2, r3, r4, r5, r6, r7)) :
  Calls Try.prog 46 #[.int .i64 a0, .int .i64 a1] w fun e w' => ∃ v0_ v1_ v2_ v3_ v4_ v5_ : Value, e = .returned (.tuple #[.agg #[v0_, v1_, v2_, v3_, v4_, v5_], .bool r7]) ∧ Kd.R (Kd.int .i64) 3 w' w.heap.size (fun k_ => some k_ ≠ (v1_ : Value).ownBlock ∧ some k_ ≠ (v3_ : Value).ownBlock ∧ some k_ ≠ (v4_ : Value).ownBlock ∧ some k_ ≠ (v5_ : Value).ownBlock) v0_ r1 ∧ Kd.R (Kd.int .i64) 3 w' w.heap.size (fun k_ => some k_ ≠ (v0_ : Value).ownBlock ∧ some k_ ≠ (v3_ : Value).ownBlock ∧ some k_ ≠ (v4_ : Value).ownBlock ∧ some k_ ≠ (v5_ : Value).ownBlock) v1_ r2 ∧ Kd.R Kd.bool 4 w' w.heap.size (fun _ => True) v2_ r3 ∧ Kd.R (Kd.int .i64) 3 w' w.heap.size (fun k_ => some k_ ≠ (v0_ : Value).ownBlock ∧ some k_ ≠ (v1_ : Value).ownBlock ∧ some k_ ≠ (v4_ : Value).ownBlock ∧ some k_ ≠ (v5_ : Value).ownBlock) v3_ r4 ∧ Kd.R (Kd.int .i64) 3 w' w.heap.size (fun k_ => some k_ ≠ (v0_ : Value).ownBlock ∧ some k_ ≠ (v1_ : Value).ownBlock ∧ some k_ ≠ (v3_ : Value).ownBlock ∧ some k_ ≠ (v5_ : Value).ownBlock) v4_ r5 ∧ Kd.R (Kd.int .i64) 3 w' w.heap.size (fun k_ => some k_ ≠ (v0_ : Value).ownBlock ∧ some k_ ≠ (v1_ : Value).ownBlock ∧ some k_ ≠ (v3_ : Value).ownBlock ∧ some k_ ≠ (v4_ : Value).ownBlock) v5_ r6 ∧ Below w.heap.size w w' := by
 have hu35 := Try.underlying35
 have HB := Ya (Below.refl w.heap.size w)
 have H : ((spec_foSwapper.f k a0).bind fun bt214 => (spec_foSwapperAt.l0 k a1 bt214.1 bt214.2.1 bt214.2.2.1 bt214.2.2.2.1 bt214.2.2.2.2.1 bt214.2.2.2.2.2)) = some (r1, r2, r3, r4, r5, r6, r7) := h
 clear h
 replace H := Z37.mp H
 obtain ⟨⟨t214, t217, t220, t223, t226, t229⟩, A30, H⟩ := H
 replace H : (spec_foSwapperAt.l0 k a1 t214 t217 t220 t223 t226 t229) = some (r1, r2, r3, r4, r5, r6, r7) := H
 have A3 := Ya A30
 clear A30
 have H' := Ya H
 clear H
 go_enter Try.func46, Try.ntmps46
 go_wp2_with (first | ((with_reducible refine gate_dst (N := 4) rfl ?_); refine Yx 4 #[.slice none 0 0, .slice none 0 0, .slice none 0 0, .slice none 0 0, .slice none 0 0, .slice none 0 0] 35 ?_; intro gb213 hg w4 hbox hb; have BK213 := Ya hbox; have GW213 := Yg hg Q0; have GE213 := GW213; replace HB := Ya (Z8 Q0 hb); clear hb hbox hg) | ((with_reducible refine gate_callee (f := 68) rfl ?_); refine goesL_ (some 10) rfl rfl Try.func68 (by kernel_rfl) rfl #[.int .i64 a0] rfl Q1 ?_; (with_reducible refine (spec_foSwapper.calls k a0 t214 t217 t220 t223 t226 t229 _ A3.out).mono ?_); rintro e w5 ⟨v215, v218, v221, v224, v227, v230, rfl, ho0, ho1, ho2, ho3, ho4, ho5, hb⟩; refine ⟨_, rfl, ?_⟩; have HO216 := Ya (Kd.R_lower ho0 (Z7 Q31)); have HO219 := Ya (Kd.R_lower ho1 (Z7 Q31)); have HO222 := Ya (Kd.R_lower ho2 (Z7 Q31)); have HO225 := Ya (Kd.R_lower ho3 (Z7 Q31)); have HO228 := Ya (Kd.R_lower ho4 (Z7 Q31)); have HO231 := Ya (Kd.R_lower ho5 (Z7 Q31)); replace BK213 := Yb BK213 hb; replace HB := Ya (Z8 Q31 hb); (try clear hb); (try clear hb2); (try clear hk); (try clear hi); (try clear ho0); (try clear ho1); (try clear ho2); (try clear ho3); (try clear ho4); (try clear ho5)) | ((with_reducible refine gate_dst (N := 6) rfl ?_); refine Yx 6 #[.slice none 0 0, .slice none 0 0, .slice none 0 0, .slice none 0 0, .slice none 0 0, .slice none 0 0] 35 ?_; intro gb232 hg w6 hbox hb; replace HO216 := Ya (Z14 (Yr HO216.out) hb); replace HO219 := Ya (Z14 (Yr HO219.out) hb); replace HO222 := Ya (Z14 (Yr HO222.out) hb); replace HO225 := Ya (Z14 (Yr HO225.out) hb); replace HO228 := Ya (Z14 (Yr HO228.out) hb); replace HO231 := Ya (Z14 (Yr HO231.out) hb); have BK232 := Ya hbox; have GW232 := Yg hg Q31; have GE232 := GW232; replace HB := Ya (Z8 Q31 hb); have NB213_232 := Yn BK213 hg; have NB232_213 := Ym BK213 hg; replace BK213 := Yb BK213 hb; clear hb hbox hg; obtain ⟨Ao7, co7, eo7⟩ := Z19 HO216.out; subst eo7; have hnb8 := NB232_213.out; have hnc8 := NB213_232.out; obtain ⟨hcz9_0, hcz9_1, hcz9_2, hcz9_3, hcz9_4, hcz9_5, hfz9_0, hfz9_1, hfz9_2, hfz9_3, hfz9_4, hfz9_5⟩ := Y6 BK232.out; obtain ⟨Ao10, co10, eo10⟩ := Z19 HO219.out; subst eo10; obtain ⟨Ao11, co11, eo11⟩ := Z19 HO222.out; subst eo11; obtain ⟨Ao12, co12, eo12⟩ := Z19 HO225.out; subst eo12; obtain ⟨Ao13, co13, eo13⟩ := Z19 HO228.out; subst eo13; obtain ⟨Ao14, co14, eo14⟩ := Z19 HO231.out; subst eo14))
 go_loopg [1] k (fun kq v1 w' => ∃ (x1_1 : Int) (x233000_1 : List Int) (x233001_1 : List Int) (x233002_1 : List Bool) (x233003_1 : List Int) (x233004_1 : List Int) (x233005_1 : List Int) (u233000 : Value) (u233001 : Value) (u233002 : Value) (u233003 : Value) (u233004 : Value) (u233005 : Value), v1 = .int .i64 x1_1 ∧ Aside0 (spec_foSwapperAt.l0 kq x1_1 x233000_1 x233001_1 x233002_1 x233003_1 x233004_1 x233005_1 = some (r1, r2, r3, r4, r5, r6, r7)) ∧ Aside0 (kq ≤ k) ∧ Aside0 (Kd.R (Kd.int .i64) 3 w' w.heap.size (fun k_ => some k_ ≠ (u233001 : Value).ownBlock ∧ some k_ ≠ (u233003 : Value).ownBlock ∧ some k_ ≠ (u233004 : Value).ownBlock ∧ some k_ ≠ (u233005 : Value).ownBlock) u233000 x233000_1) ∧ Aside0 (Kd.R (Kd.int .i64) 3 w' w.heap.size (fun k_ => some k_ ≠ (u233000 : Value).ownBlock ∧ some k_ ≠ (u233003 : Value).ownBlock ∧ some k_ ≠ (u233004 : Value).ownBlock ∧ some k_ ≠ (u233005 : Value).ownBlock) u233001 x233001_1) ∧ Aside0 (Kd.R Kd.bool 4 w' w.heap.size (fun _ => True) u233002 x233002_1) ∧ Aside0 (Kd.R (Kd.int .i64) 3 w' w.heap.size (fun k_ => some k_ ≠ (u233000 : Value).ownBlock ∧ some k_ ≠ (u233001 : Value).ownBlock ∧ some k_ ≠ (u233004 : Value).ownBlock ∧ some k_ ≠ (u233005 : Value).ownBlock) u233003 x233003_1) ∧ Aside0 (Kd.R (Kd.int .i64) 3 w' w.heap.size (fun k_ => some k_ ≠ (u233000 : Value).ownBlock ∧ some k_ ≠ (u233001 : Value).ownBlock ∧ some k_ ≠ (u233003 : Value).ownBlock ∧ some k_ ≠ (u233005 : Value).ownBlock) u233004 x233004_1) ∧ Aside0 (Kd.R (Kd.int .i64) 3 w' w.heap.size (fun k_ => some k_ ≠ (u233000 : Value).ownBlock ∧ some k_ ≠ (u233001 : Value).ownBlock ∧ some k_ ≠ (u233003 : Value).ownBlock ∧ some k_ ≠ (u233004 : Value).ownBlock) u233005 x233005_1) ∧ Aside0 (w'.heap[gb213]? = some (.cells #[(.slice none 0 0), (.slice none 0 0), (.slice none 0 0), (.slice none 0 0), (.slice none 0 0), (.slice none 0 0)] 35 (0, 0))) ∧ Aside0 (w'.heap[gb232]? = some (.cells #[u233000, u233001, u233002, u233003, u233004, u233005] 35 (0, 0))) ∧ Aside0 (Below w.heap.size w w'))
 case atStart => exact ⟨(a1), (t214), (t217), (t220), (t223), (t226), (t229), (.slice Ao7 t214.length co7), (.slice Ao10 t217.length co10), (.slice Ao11 t220.length co11), (.slice Ao12 t223.length co12), (.slice Ao13 t226.length co13), (.slice Ao14 t229.length co14), Q15, H', ⟨Nat.le_refl _⟩, ⟨by (with_reducible repeat (first | apply Z9 | apply Z10 | apply Z11)); exact Z12 (Z13 (p := ⟨gb232, 5, none⟩) (Z13 (p := ⟨gb232, 4, none⟩) (Z13 (p := ⟨gb232, 3, none⟩) (Z13 (p := ⟨gb232, 2, none⟩) (Z13 (p := ⟨gb232, 1, none⟩) (Z13 (p := ⟨gb232, 0, none⟩) (Z15 HO216.out BK232.out (by decide)) (fun _ hk => hk.2) (.slice Ao7 t214.length co7)) (fun _ hk => hk.2) (.slice Ao10 t217.length co10)) (fun _ hk => hk.2) (.slice Ao11 t220.length co11)) (fun _ hk => hk.2) (.slice Ao12 t223.length co12)) (fun _ hk => hk.2) (.slice Ao13 t226.length co13)) (fun _ hk => hk.2) (.slice Ao14 t229.length co14)) (fun _ hk => ⟨hk.1.1, ⟨hk.1.2.1, ⟨hk.1.2.2.1, hk.1.2.2.2⟩⟩⟩)⟩, ⟨by (with_reducible repeat (first | apply Z9 | apply Z10 | apply Z11)); exact Z12 (Z13 (p := ⟨gb232, 5, none⟩) (Z13 (p := ⟨gb232, 4, none⟩) (Z13 (p := ⟨gb232, 3, none⟩) (Z13 (p := ⟨gb232, 2, none⟩) (Z13 (p := ⟨gb232, 1, none⟩) (Z13 (p := ⟨gb232, 0, none⟩) (Z15 HO219.out BK232.out (by decide)) (fun _ hk => hk.2) (.slice Ao7 t214.length co7)) (fun _ hk => hk.2) (.slice Ao10 t217.length co10)) (fun _ hk => hk.2) (.slice Ao11 t220.length co11)) (fun _ hk => hk.2) (.slice Ao12 t223.length co12)) (fun _ hk => hk.2) (.slice Ao13 t226.length co13)) (fun _ hk => hk.2) (.slice Ao14 t229.length co14)) (fun _ hk => ⟨hk.1.1, ⟨hk.1.2.1, ⟨hk.1.2.2.1, hk.1.2.2.2⟩⟩⟩)⟩, ⟨by (with_reducible repeat (first | apply Z9 | apply Z10 | apply Z11)); exact Z12 (Z13 (p := ⟨gb232, 5, none⟩) (Z13 (p := ⟨gb232, 4, none⟩) (Z13 (p := ⟨gb232, 3, none⟩) (Z13 (p := ⟨gb232, 2, none⟩) (Z13 (p := ⟨gb232, 1, none⟩) (Z13 (p := ⟨gb232, 0, none⟩) (Z15 HO222.out BK232.out (by decide)) (fun _ hk => hk.2) (.slice Ao7 t214.length co7)) (fun _ hk => hk.2) (.slice Ao10 t217.length co10)) (fun _ hk => hk.2) (.slice Ao11 t220.length co11)) (fun _ hk => hk.2) (.slice Ao12 t223.length co12)) (fun _ hk => hk.2) (.slice Ao13 t226.length co13)) (fun _ hk => hk.2) (.slice Ao14 t229.length co14)) (fun _ hk => trivial)⟩, ⟨by (with_reducible repeat (first | apply Z9 | apply Z10 | apply Z11)); exact Z12 (Z13 (p := ⟨gb232, 5, none⟩) (Z13 (p := ⟨gb232, 4, none⟩) (Z13 (p := ⟨gb232, 3, none⟩) (Z13 (p := ⟨gb232, 2, none⟩) (Z13 (p := ⟨gb232, 1, none⟩) (Z13 (p := ⟨gb232, 0, none⟩) (Z15 HO225.out BK232.out (by decide)) (fun _ hk => hk.2) (.slice Ao7 t214.length co7)) (fun _ hk => hk.2) (.slice Ao10 t217.length co10)) (fun _ hk => hk.2) (.slice Ao11 t220.length co11)) (fun _ hk => hk.2) (.slice Ao12 t223.length co12)) (fun _ hk => hk.2) (.slice Ao13 t226.length co13)) (fun _ hk => hk.2) (.slice Ao14 t229.length co14)) (fun _ hk => ⟨hk.1.1, ⟨hk.1.2.1, ⟨hk.1.2.2.1, hk.1.2.2.2⟩⟩⟩)⟩, ⟨by (with_reducible repeat (first | apply Z9 | apply Z10 | apply Z11)); exact Z12 (Z13 (p := ⟨gb232, 5, none⟩) (Z13 (p := ⟨gb232, 4, none⟩) (Z13 (p := ⟨gb232, 3, none⟩) (Z13 (p := ⟨gb232, 2, none⟩) (Z13 (p := ⟨gb232, 1, none⟩) (Z13 (p := ⟨gb232, 0, none⟩) (Z15 HO228.out BK232.out (by decide)) (fun _ hk => hk.2) (.slice Ao7 t214.length co7)) (fun _ hk => hk.2) (.slice Ao10 t217.length co10)) (fun _ hk => hk.2) (.slice Ao11 t220.length co11)) (fun _ hk => hk.2) (.slice Ao12 t223.length co12)) (fun _ hk => hk.2) (.slice Ao13 t226.length co13)) (fun _ hk => hk.2) (.slice Ao14 t229.length co14)) (fun _ hk => ⟨hk.1.1, ⟨hk.1.2.1, ⟨hk.1.2.2.1, hk.1.2.2.2⟩⟩⟩)⟩, ⟨by (with_reducible repeat (first | apply Z9 | apply Z10 | apply Z11)); exact Z12 (Z13 (p := ⟨gb232, 5, none⟩) (Z13 (p := ⟨gb232, 4, none⟩) (Z13 (p := ⟨gb232, 3, none⟩) (Z13 (p := ⟨gb232, 2, none⟩) (Z13 (p := ⟨gb232, 1, none⟩) (Z13 (p := ⟨gb232, 0, none⟩) (Z15 HO231.out BK232.out (by decide)) (fun _ hk => hk.2) (.slice Ao7 t214.length co7)) (fun _ hk => hk.2) (.slice Ao10 t217.length co10)) (fun _ hk => hk.2) (.slice Ao11 t220.length co11)) (fun _ hk => hk.2) (.slice Ao12 t223.length co12)) (fun _ hk => hk.2) (.slice Ao13 t226.length co13)) (fun _ hk => hk.2) (.slice Ao14 t229.length co14)) (fun _ hk => ⟨hk.1.1, ⟨hk.1.2.1, ⟨hk.1.2.2.1, hk.1.2.2.2⟩⟩⟩)⟩, ⟨by (with_reducible repeat (first | refine Z26 ?_ _ | refine Z27 ?_ | refine Z28 ?_ _)); refine blk_far ?_ NB213_232.out _; (with_reducible repeat (first | refine Z26 ?_ _ | refine Z27 ?_ | refine Z28 ?_ _)); refine blk_far ?_ NB213_232.out _; (with_reducible repeat (first | refine Z26 ?_ _ | refine Z27 ?_ | refine Z28 ?_ _)); refine blk_far ?_ NB213_232.out _; (with_reducible repeat (first | refine Z26 ?_ _ | refine Z27 ?_ | refine Z28 ?_ _)); refine blk_far ?_ NB213_232.out _; (with_reducible repeat (first | refine Z26 ?_ _ | refine Z27 ?_ | refine Z28 ?_ _)); refine blk_far ?_ NB213_232.out _; (with_reducible repeat (first | refine Z26 ?_ _ | refine Z27 ?_ | refine Z28 ?_ _)); refine blk_far ?_ NB213_232.out _; (with_reducible repeat (first | refine Z26 ?_ _ | refine Z27 ?_ | refine Z28 ?_ _)); exact BK213.out⟩, ⟨by (with_reducible repeat (first | refine Z26 ?_ _ | refine Z27 ?_ | refine Z28 ?_ _)); refine Z30 (cs := #[.slice Ao7 t214.length co7, .slice Ao10 t217.length co10, .slice Ao11 t220.length co11, .slice Ao12 t223.length co12, .slice Ao13 t226.length co13, .slice none 0 0]) ?_ 5 _ rfl; (with_reducible repeat (first | refine Z26 ?_ _ | refine Z27 ?_ | refine Z28 ?_ _)); refine Z30 (cs := #[.slice Ao7 t214.length co7, .slice Ao10 t217.length co10, .slice Ao11 t220.length co11, .slice Ao12 t223.length co12, .slice none 0 0, .slice none 0 0]) ?_ 4 _ rfl; (with_reducible repeat (first | refine Z26 ?_ _ | refine Z27 ?_ | refine Z28 ?_ _)); refine Z30 (cs := #[.slice Ao7 t214.length co7, .slice Ao10 t217.length co10, .slice Ao11 t220.length co11, .slice none 0 0, .slice none 0 0, .slice none 0 0]) ?_ 3 _ rfl; (with_reducible repeat (first | refine Z26 ?_ _ | refine Z27 ?_ | refine Z28 ?_ _)); refine Z30 (cs := #[.slice Ao7 t214.length co7, .slice Ao10 t217.length co10, .slice none 0 0, .slice none 0 0, .slice none 0 0, .slice none 0 0]) ?_ 2 _ rfl; (with_reducible repeat (first | refine Z26 ?_ _ | refine Z27 ?_ | refine Z28 ?_ _)); refine Z30 (cs := #[.slice Ao7 t214.length co7, .slice none 0 0, .slice none 0 0, .slice none 0 0, .slice none 0 0, .slice none 0 0]) ?_ 1 _ rfl; (with_reducible repeat (first | refine Z26 ?_ _ | refine Z27 ?_ | refine Z28 ?_ _)); refine Z30 (cs := #[.slice none 0 0, .slice none 0 0, .slice none 0 0, .slice none 0 0, .slice none 0 0, .slice none 0 0]) ?_ 0 _ rfl; (with_reducible repeat (first | refine Z26 ?_ _ | refine Z27 ?_ | refine Z28 ?_ _)); exact BK232.out⟩, ⟨Q78⟩⟩
 case round =>
  clear H'
  try clear p2
  try clear c4
  try clear c6
  try clear c8
  try clear hcz9_0
  try clear hcz9_1
  try clear hcz9_2
  try clear hcz9_3
  try clear hcz9_4
  try clear hcz9_5
  try clear hfz9_0
  try clear hfz9_1
  try clear hfz9_2
  try clear hfz9_3
  try clear hfz9_4
  try clear hfz9_5
  obtain ⟨x1_1, x233000_1, x233001_1, x233002_1, x233003_1, x233004_1, x233005_1, u233000, u233001, u233002, u233003, u233004, u233005, rfl, HA, HK1, HO_233000, HO_233001, HO_233002, HO_233003, HO_233004, HO_233005, BK213, BK232, HB⟩ := hrel
  cases gk with
  | zero => exact absurd HA.out (by simp [spec_foSwapperAt.l0])
  | succ k1 =>
   have H := HA.out
   clear HA
   simp only [spec_foSwapperAt.l0] at H
   by_cases c15 : x1_1 > 0
   ·rw [if_pos c15] at H
    have c15b0 : decide (0 < x1_1) = true := Z39 c15
    clear c15
    replace H := Z37.mp H
    obtain ⟨⟨t233, t236, t239, t242, t245, t248, t251⟩, A160, H⟩ := H
    replace H : (if t251 < 0 then (some (([] : List Int), ([] : List Int), ([] : List Bool), ([] : List Int), ([] : List Int), ([] : List Int), false)) else (spec_foSwapperAt.l0 k1 (wrap64 (x1_1 - 1)) t233 t236 t239 t242 t245 t248)) = some (r1, r2, r3, r4, r5, r6, r7) := H
    have A16 := Ya A160
    clear A160
    by_cases c17 : t251 < 0
    ·rw [if_pos c17] at H
     have c17b0 : decide (t251 < 0) = true := Z39 c17
     clear c17
     simp only [Option.some.injEq, Prod.mk.injEq] at H
     obtain ⟨rfl, rfl, rfl, rfl, rfl, rfl, rfl⟩ := H
     have hnb18 := NB232_213.out
     have hnc18 := NB213_232.out
     obtain ⟨hcz19_0, hcz19_1, hcz19_2, hcz19_3, hcz19_4, hcz19_5, hfz19_0, hfz19_1, hfz19_2, hfz19_3, hfz19_4, hfz19_5⟩ := Y6 BK232.out
     obtain ⟨Ao20, co20, eo20⟩ := Z19 HO_233000.out
     subst eo20
     obtain ⟨Ao21, co21, eo21⟩ := Z19 HO_233001.out
     subst eo21
     obtain ⟨Ao22, co22, eo22⟩ := Z19 HO_233002.out
     subst eo22
     obtain ⟨Ao23, co23, eo23⟩ := Z19 HO_233003.out
     subst eo23
     obtain ⟨Ao24, co24, eo24⟩ := Z19 HO_233004.out
     subst eo24
     obtain ⟨Ao25, co25, eo25⟩ := Z19 HO_233005.out
     subst eo25
     go_wp2_with (first | ((with_reducible refine gate_callee (f := 55) rfl ?_); refine goesL_ (some 17) rfl rfl Try.func55 (by kernel_rfl) rfl #[.agg #[.slice Ao20 x233000_1.length co20, .slice Ao21 x233001_1.length co21, .slice Ao22 x233002_1.length co22, .slice Ao23 x233003_1.length co23, .slice Ao24 x233004_1.length co24, .slice Ao25 x233005_1.length co25]] rfl Q1 ?_; (with_reducible refine (spec_foSwap.calls k1 _ _ x233000_1 _ _ x233001_1 _ _ x233002_1 _ _ x233003_1 _ _ x233004_1 _ _ x233005_1 t233 t236 t239 t242 t245 t248 t251 _ ?side1 ?side2 ?side3 ?side4 ?side5 ?side6 ?side7 ?side8 ?side9 ?side10 ?side11 ?side12 A16.out).mono ?_); (case side1 => repeat (first | exact (Kd.R_reads' HO_233000.out).2.2 | (with_reducible refine Z20 ?_ _) | (with_reducible refine Z21 ?_ _) | (with_reducible refine Z22 ?_))); (case side2 => exact (Kd.R_reads' HO_233000.out).2.1); (case side3 => repeat (first | exact (Kd.R_reads' HO_233001.out).2.2 | (with_reducible refine Z20 ?_ _) | (with_reducible refine Z21 ?_ _) | (with_reducible refine Z22 ?_))); (case side4 => exact (Kd.R_reads' HO_233001.out).2.1); (case side5 => repeat (first | exact (Kd.R_reads' HO_233002.out).2.2 | (with_reducible refine Z20 ?_ _) | (with_reducible refine Z21 ?_ _) | (with_reducible refine Z22 ?_))); (case side6 => exact (Kd.R_reads' HO_233002.out).2.1); (case side7 => repeat (first | exact (Kd.R_reads' HO_233003.out).2.2 | (with_reducible refine Z20 ?_ _) | (with_reducible refine Z21 ?_ _) | (with_reducible refine Z22 ?_))); (case side8 => exact (Kd.R_reads' HO_233003.out).2.1); (case side9 => repeat (first | exact (Kd.R_reads' HO_233004.out).2.2 | (with_reducible refine Z20 ?_ _) | (with_reducible refine Z21 ?_ _) | (with_reducible refine Z22 ?_))); (case side10 => exact (Kd.R_reads' HO_233004.out).2.1); (case side11 => repeat (first | exact (Kd.R_reads' HO_233005.out).2.2 | (with_reducible refine Z20 ?_ _) | (with_reducible refine Z21 ?_ _) | (with_reducible refine Z22 ?_))); (case side12 => exact (Kd.R_reads' HO_233005.out).2.1); rintro e w26 ⟨v234, v237, v240, v243, v246, v249, rfl, ho0, ho1, ho2, ho3, ho4, ho5, hb⟩; refine ⟨_, rfl, ?_⟩; have HO235 := Ya (Kd.R_lower (Kd.R_new' (Kd.R_new' (Kd.R_new' (Kd.R_new' (Kd.R_new' ho0 (Z18 (Yr HO_233000.out))) (Z18 (Yr HO_233001.out))) (Z18 (Yr HO_233003.out))) (Z18 (Yr HO_233004.out))) (Z18 (Yr HO_233005.out))) (Z7 Q14)); have HO238 := Ya (Kd.R_lower (Kd.R_new' (Kd.R_new' (Kd.R_new' (Kd.R_new' (Kd.R_new' ho1 (Z18 (Yr HO_233000.out))) (Z18 (Yr HO_233001.out))) (Z18 (Yr HO_233003.out))) (Z18 (Yr HO_233004.out))) (Z18 (Yr HO_233005.out))) (Z7 Q14)); have HO241 := Ya (Kd.R_lower (Kd.R_new' ho2 (Z18 (Yr HO_233002.out))) (Z7 Q14)); replace HO_233002 := Ya (Kd.R_elder' (Yr HO_233002.out) (Kd.R_base ho2) hb); have HO244 := Ya (Kd.R_lower (Kd.R_new' (Kd.R_new' (Kd.R_new' (Kd.R_new' (Kd.R_new' ho3 (Z18 (Yr HO_233000.out))) (Z18 (Yr HO_233001.out))) (Z18 (Yr HO_233003.out))) (Z18 (Yr HO_233004.out))) (Z18 (Yr HO_233005.out))) (Z7 Q14)); have HO247 := Ya (Kd.R_lower (Kd.R_new' (Kd.R_new' (Kd.R_new' (Kd.R_new' (Kd.R_new' ho4 (Z18 (Yr HO_233000.out))) (Z18 (Yr HO_233001.out))) (Z18 (Yr HO_233003.out))) (Z18 (Yr HO_233004.out))) (Z18 (Yr HO_233005.out))) (Z7 Q14)); have HO250 := Ya (Kd.R_lower (Kd.R_new' (Kd.R_new' (Kd.R_new' (Kd.R_new' (Kd.R_new' ho5 (Z18 (Yr HO_233000.out))) (Z18 (Yr HO_233001.out))) (Z18 (Yr HO_233003.out))) (Z18 (Yr HO_233004.out))) (Z18 (Yr HO_233005.out))) (Z7 Q14)); replace HO_233000 := Ya (Z12 (Z16 (Z16 (Z16 (Z16 (Z16 (Z17 (Yr HO_233000.out) hb) (Kd.R_base ho0)) (Kd.R_base ho1)) (Kd.R_base ho3)) (Kd.R_base ho4)) (Kd.R_base ho5)) (fun _ h_ => h_.1)); replace HO_233001 := Ya (Z12 (Z16 (Z16 (Z16 (Z16 (Z16 (Z17 (Yr HO_233001.out) hb) (Kd.R_base ho0)) (Kd.R_base ho1)) (Kd.R_base ho3)) (Kd.R_base ho4)) (Kd.R_base ho5)) (fun _ h_ => h_.1)); replace HO_233003 := Ya (Z12 (Z16 (Z16 (Z16 (Z16 (Z16 (Z17 (Yr HO_233003.out) hb) (Kd.R_base ho0)) (Kd.R_base ho1)) (Kd.R_base ho3)) (Kd.R_base ho4)) (Kd.R_base ho5)) (fun _ h_ => h_.1)); replace HO_233004 := Ya (Z12 (Z16 (Z16 (Z16 (Z16 (Z16 (Z17 (Yr HO_233004.out) hb) (Kd.R_base ho0)) (Kd.R_base ho1)) (Kd.R_base ho3)) (Kd.R_base ho4)) (Kd.R_base ho5)) (fun _ h_ => h_.1)); replace HO_233005 := Ya (Z12 (Z16 (Z16 (Z16 (Z16 (Z16 (Z17 (Yr HO_233005.out) hb) (Kd.R_base ho0)) (Kd.R_base ho1)) (Kd.R_base ho3)) (Kd.R_base ho4)) (Kd.R_base ho5)) (fun _ h_ => h_.1)); replace BK213 := Yb BK213 hb; replace BK232 := Yb BK232 hb; replace HB := Ya (Z8 Q14 hb); (try clear hb); (try clear hb2); (try clear hk); (try clear hi); (try clear ho0); (try clear ho1); (try clear ho2); (try clear ho3); (try clear ho4); (try clear ho5)) | ((with_reducible refine gate_dst (N := 7) rfl ?_); refine Yx 7 #[.slice none 0 0, .slice none 0 0, .slice none 0 0, .slice none 0 0, .slice none 0 0, .slice none 0 0] 35 ?_; intro gb252 hg w27 hbox hb; replace HO_233000 := Ya (Z14 (Yr HO_233000.out) hb); replace HO_233001 := Ya (Z14 (Yr HO_233001.out) hb); replace HO_233002 := Ya (Z14 (Yr HO_233002.out) hb); replace HO_233003 := Ya (Z14 (Yr HO_233003.out) hb); replace HO_233004 := Ya (Z14 (Yr HO_233004.out) hb); replace HO_233005 := Ya (Z14 (Yr HO_233005.out) hb); replace HO235 := Ya (Z14 (Yr HO235.out) hb); replace HO238 := Ya (Z14 (Yr HO238.out) hb); replace HO241 := Ya (Z14 (Yr HO241.out) hb); replace HO244 := Ya (Z14 (Yr HO244.out) hb); replace HO247 := Ya (Z14 (Yr HO247.out) hb); replace HO250 := Ya (Z14 (Yr HO250.out) hb); have BK252 := Ya hbox; have GW252 := Yg hg Q14; have GE252 := GW252; replace HB := Ya (Z8 Q14 hb); have NB213_252 := Yn BK213 hg; have NB252_213 := Ym BK213 hg; replace BK213 := Yb BK213 hb; have NB232_252 := Yn BK232 hg; have NB252_232 := Ym BK232 hg; replace BK232 := Yb BK232 hb; clear hb hbox hg; obtain ⟨Ao28, co28, eo28⟩ := Z19 HO235.out; subst eo28; have hnb29 := NB252_213.out; have hnc29 := NB213_252.out; have hnb30 := NB252_232.out; have hnc30 := NB232_252.out; obtain ⟨hcz31_0, hcz31_1, hcz31_2, hcz31_3, hcz31_4, hcz31_5, hfz31_0, hfz31_1, hfz31_2, hfz31_3, hfz31_4, hfz31_5⟩ := Y6 BK252.out; obtain ⟨Ao32, co32, eo32⟩ := Z19 HO238.out; subst eo32; obtain ⟨Ao33, co33, eo33⟩ := Z19 HO241.out; subst eo33; obtain ⟨Ao34, co34, eo34⟩ := Z19 HO244.out; subst eo34; obtain ⟨Ao35, co35, eo35⟩ := Z19 HO247.out; subst eo35; obtain ⟨Ao36, co36, eo36⟩ := Z19 HO250.out; subst eo36; obtain ⟨hcz37_0, hcz37_1, hcz37_2, hcz37_3, hcz37_4, hcz37_5, hfz37_0, hfz37_1, hfz37_2, hfz37_3, hfz37_4, hfz37_5⟩ := Y6 BK213.out))
     refine bodyPost_ret (results_ct rfl _ _ gb213 35 #[.slice none 0 0, .slice none 0 0, .slice none 0 0, .slice none 0 0, .slice none 0 0, .slice none 0 0] (0, 0) _ rfl (by (with_reducible repeat (first | refine Z26 ?_ _ | refine Z27 ?_ | refine Z28 ?_ _)); refine Z30 (cs := #[.slice none 0 0, .slice none 0 0, .slice none 0 0, .slice none 0 0, .slice none 0 0, .slice none 0 0]) ?_ 5 _ rfl; (with_reducible repeat (first | refine Z26 ?_ _ | refine Z27 ?_ | refine Z28 ?_ _)); refine Z30 (cs := #[.slice none 0 0, .slice none 0 0, .slice none 0 0, .slice none 0 0, .slice none 0 0, .slice none 0 0]) ?_ 4 _ rfl; (with_reducible repeat (first | refine Z26 ?_ _ | refine Z27 ?_ | refine Z28 ?_ _)); refine Z30 (cs := #[.slice none 0 0, .slice none 0 0, .slice none 0 0, .slice none 0 0, .slice none 0 0, .slice none 0 0]) ?_ 3 _ rfl; (with_reducible repeat (first | refine Z26 ?_ _ | refine Z27 ?_ | refine Z28 ?_ _)); refine Z30 (cs := #[.slice none 0 0, .slice none 0 0, .slice none 0 0, .slice none 0 0, .slice none 0 0, .slice none 0 0]) ?_ 2 _ rfl; (with_reducible repeat (first | refine Z26 ?_ _ | refine Z27 ?_ | refine Z28 ?_ _)); refine Z30 (cs := #[.slice none 0 0, .slice none 0 0, .slice none 0 0, .slice none 0 0, .slice none 0 0, .slice none 0 0]) ?_ 1 _ rfl; (with_reducible repeat (first | refine Z26 ?_ _ | refine Z27 ?_ | refine Z28 ?_ _)); refine Z30 (cs := #[.slice none 0 0, .slice none 0 0, .slice none 0 0, .slice none 0 0, .slice none 0 0, .slice none 0 0]) ?_ 0 _ rfl; (with_reducible repeat (first | refine Z26 ?_ _ | refine Z27 ?_ | refine Z28 ?_ _)); refine blk_far ?_ NB213_252.out _; (with_reducible repeat (first | refine Z26 ?_ _ | refine Z27 ?_ | refine Z28 ?_ _)); refine blk_far ?_ NB213_252.out _; (with_reducible repeat (first | refine Z26 ?_ _ | refine Z27 ?_ | refine Z28 ?_ _)); refine blk_far ?_ NB213_252.out _; (with_reducible repeat (first | refine Z26 ?_ _ | refine Z27 ?_ | refine Z28 ?_ _)); refine blk_far ?_ NB213_252.out _; (with_reducible repeat (first | refine Z26 ?_ _ | refine Z27 ?_ | refine Z28 ?_ _)); refine blk_far ?_ NB213_252.out _; (with_reducible repeat (first | refine Z26 ?_ _ | refine Z27 ?_ | refine Z28 ?_ _)); refine blk_far ?_ NB213_252.out _; (with_reducible repeat (first | refine Z26 ?_ _ | refine Z27 ?_ | refine Z28 ?_ _)); exact BK213.out) Try.underlying35 rfl (by kernel_rfl)) rfl ?_
     exact ⟨_, _, _, _, _, _, Q9, Q2, Q2, Q2, Q2, Q2, Q2, Q76⟩
    ·rw [if_neg c17] at H
     have c17b0 : decide (t251 < 0) = false := Z38 c17
     clear c17
     have H' := Ya H
     clear H
     have hnb38 := NB232_213.out
     have hnc38 := NB213_232.out
     obtain ⟨hcz39_0, hcz39_1, hcz39_2, hcz39_3, hcz39_4, hcz39_5, hfz39_0, hfz39_1, hfz39_2, hfz39_3, hfz39_4, hfz39_5⟩ := Y6 BK232.out
     obtain ⟨Ao40, co40, eo40⟩ := Z19 HO_233000.out
     subst eo40
     obtain ⟨Ao41, co41, eo41⟩ := Z19 HO_233001.out
     subst eo41
     obtain ⟨Ao42, co42, eo42⟩ := Z19 HO_233002.out
     subst eo42
     obtain ⟨Ao43, co43, eo43⟩ := Z19 HO_233003.out
     subst eo43
     obtain ⟨Ao44, co44, eo44⟩ := Z19 HO_233004.out
     subst eo44
     obtain ⟨Ao45, co45, eo45⟩ := Z19 HO_233005.out
     subst eo45
     go_wp2_with (first | ((with_reducible refine gate_callee (f := 55) rfl ?_); refine goesL_ (some 17) rfl rfl Try.func55 (by kernel_rfl) rfl #[.agg #[.slice Ao40 x233000_1.length co40, .slice Ao41 x233001_1.length co41, .slice Ao42 x233002_1.length co42, .slice Ao43 x233003_1.length co43, .slice Ao44 x233004_1.length co44, .slice Ao45 x233005_1.length co45]] rfl Q1 ?_; (with_reducible refine (spec_foSwap.calls k1 _ _ x233000_1 _ _ x233001_1 _ _ x233002_1 _ _ x233003_1 _ _ x233004_1 _ _ x233005_1 t233 t236 t239 t242 t245 t248 t251 _ ?side1 ?side2 ?side3 ?side4 ?side5 ?side6 ?side7 ?side8 ?side9 ?side10 ?side11 ?side12 A16.out).mono ?_); (case side1 => repeat (first | exact (Kd.R_reads' HO_233000.out).2.2 | (with_reducible refine Z20 ?_ _) | (with_reducible refine Z21 ?_ _) | (with_reducible refine Z22 ?_))); (case side2 => exact (Kd.R_reads' HO_233000.out).2.1); (case side3 => repeat (first | exact (Kd.R_reads' HO_233001.out).2.2 | (with_reducible refine Z20 ?_ _) | (with_reducible refine Z21 ?_ _) | (with_reducible refine Z22 ?_))); (case side4 => exact (Kd.R_reads' HO_233001.out).2.1); (case side5 => repeat (first | exact (Kd.R_reads' HO_233002.out).2.2 | (with_reducible refine Z20 ?_ _) | (with_reducible refine Z21 ?_ _) | (with_reducible refine Z22 ?_))); (case side6 => exact (Kd.R_reads' HO_233002.out).2.1); (case side7 => repeat (first | exact (Kd.R_reads' HO_233003.out).2.2 | (with_reducible refine Z20 ?_ _) | (with_reducible refine Z21 ?_ _) | (with_reducible refine Z22 ?_))); (case side8 => exact (Kd.R_reads' HO_233003.out).2.1); (case side9 => repeat (first | exact (Kd.R_reads' HO_233004.out).2.2 | (with_reducible refine Z20 ?_ _) | (with_reducible refine Z21 ?_ _) | (with_reducible refine Z22 ?_))); (case side10 => exact (Kd.R_reads' HO_233004.out).2.1); (case side11 => repeat (first | exact (Kd.R_reads' HO_233005.out).2.2 | (with_reducible refine Z20 ?_ _) | (with_reducible refine Z21 ?_ _) | (with_reducible refine Z22 ?_))); (case side12 => exact (Kd.R_reads' HO_233005.out).2.1); rintro e w46 ⟨v234, v237, v240, v243, v246, v249, rfl, ho0, ho1, ho2, ho3, ho4, ho5, hb⟩; refine ⟨_, rfl, ?_⟩; have HO235 := Ya (Kd.R_lower (Kd.R_new' (Kd.R_new' (Kd.R_new' (Kd.R_new' (Kd.R_new' ho0 (Z18 (Yr HO_233000.out))) (Z18 (Yr HO_233001.out))) (Z18 (Yr HO_233003.out))) (Z18 (Yr HO_233004.out))) (Z18 (Yr HO_233005.out))) (Z7 Q14)); have HO238 := Ya (Kd.R_lower (Kd.R_new' (Kd.R_new' (Kd.R_new' (Kd.R_new' (Kd.R_new' ho1 (Z18 (Yr HO_233000.out))) (Z18 (Yr HO_233001.out))) (Z18 (Yr HO_233003.out))) (Z18 (Yr HO_233004.out))) (Z18 (Yr HO_233005.out))) (Z7 Q14)); have HO241 := Ya (Kd.R_lower (Kd.R_new' ho2 (Z18 (Yr HO_233002.out))) (Z7 Q14)); replace HO_233002 := Ya (Kd.R_elder' (Yr HO_233002.out) (Kd.R_base ho2) hb); have HO244 := Ya (Kd.R_lower (Kd.R_new' (Kd.R_new' (Kd.R_new' (Kd.R_new' (Kd.R_new' ho3 (Z18 (Yr HO_233000.out))) (Z18 (Yr HO_233001.out))) (Z18 (Yr HO_233003.out))) (Z18 (Yr HO_233004.out))) (Z18 (Yr HO_233005.out))) (Z7 Q14)); have HO247 := Ya (Kd.R_lower (Kd.R_new' (Kd.R_new' (Kd.R_new' (Kd.R_new' (Kd.R_new' ho4 (Z18 (Yr HO_233000.out))) (Z18 (Yr HO_233001.out))) (Z18 (Yr HO_233003.out))) (Z18 (Yr HO_233004.out))) (Z18 (Yr HO_233005.out))) (Z7 Q14)); have HO250 := Ya (Kd.R_lower (Kd.R_new' (Kd.R_new' (Kd.R_new' (Kd.R_new' (Kd.R_new' ho5 (Z18 (Yr HO_233000.out))) (Z18 (Yr HO_233001.out))) (Z18 (Yr HO_233003.out))) (Z18 (Yr HO_233004.out))) (Z18 (Yr HO_233005.out))) (Z7 Q14)); replace HO_233000 := Ya (Z12 (Z16 (Z16 (Z16 (Z16 (Z16 (Z17 (Yr HO_233000.out) hb) (Kd.R_base ho0)) (Kd.R_base ho1)) (Kd.R_base ho3)) (Kd.R_base ho4)) (Kd.R_base ho5)) (fun _ h_ => h_.1)); replace HO_233001 := Ya (Z12 (Z16 (Z16 (Z16 (Z16 (Z16 (Z17 (Yr HO_233001.out) hb) (Kd.R_base ho0)) (Kd.R_base ho1)) (Kd.R_base ho3)) (Kd.R_base ho4)) (Kd.R_base ho5)) (fun _ h_ => h_.1)); replace HO_233003 := Ya (Z12 (Z16 (Z16 (Z16 (Z16 (Z16 (Z17 (Yr HO_233003.out) hb) (Kd.R_base ho0)) (Kd.R_base ho1)) (Kd.R_base ho3)) (Kd.R_base ho4)) (Kd.R_base ho5)) (fun _ h_ => h_.1)); replace HO_233004 := Ya (Z12 (Z16 (Z16 (Z16 (Z16 (Z16 (Z17 (Yr HO_233004.out) hb) (Kd.R_base ho0)) (Kd.R_base ho1)) (Kd.R_base ho3)) (Kd.R_base ho4)) (Kd.R_base ho5)) (fun _ h_ => h_.1)); replace HO_233005 := Ya (Z12 (Z16 (Z16 (Z16 (Z16 (Z16 (Z17 (Yr HO_233005.out) hb) (Kd.R_base ho0)) (Kd.R_base ho1)) (Kd.R_base ho3)) (Kd.R_base ho4)) (Kd.R_base ho5)) (fun _ h_ => h_.1)); replace BK213 := Yb BK213 hb; replace BK232 := Yb BK232 hb; replace HB := Ya (Z8 Q14 hb); (try clear hb); (try clear hb2); (try clear hk); (try clear hi); (try clear ho0); (try clear ho1); (try clear ho2); (try clear ho3); (try clear ho4); (try clear ho5)) | ((with_reducible refine gate_dst (N := 7) rfl ?_); refine Yx 7 #[.slice none 0 0, .slice none 0 0, .slice none 0 0, .slice none 0 0, .slice none 0 0, .slice none 0 0] 35 ?_; intro gb252 hg w47 hbox hb; replace HO_233000 := Ya (Z14 (Yr HO_233000.out) hb); replace HO_233001 := Ya (Z14 (Yr HO_233001.out) hb); replace HO_233002 := Ya (Z14 (Yr HO_233002.out) hb); replace HO_233003 := Ya (Z14 (Yr HO_233003.out) hb); replace HO_233004 := Ya (Z14 (Yr HO_233004.out) hb); replace HO_233005 := Ya (Z14 (Yr HO_233005.out) hb); replace HO235 := Ya (Z14 (Yr HO235.out) hb); replace HO238 := Ya (Z14 (Yr HO238.out) hb); replace HO241 := Ya (Z14 (Yr HO241.out) hb); replace HO244 := Ya (Z14 (Yr HO244.out) hb); replace HO247 := Ya (Z14 (Yr HO247.out) hb); replace HO250 := Ya (Z14 (Yr HO250.out) hb); have BK252 := Ya hbox; have GW252 := Yg hg Q14; have GE252 := GW252; replace HB := Ya (Z8 Q14 hb); have NB213_252 := Yn BK213 hg; have NB252_213 := Ym BK213 hg; replace BK213 := Yb BK213 hb; have NB232_252 := Yn BK232 hg; have NB252_232 := Ym BK232 hg; replace BK232 := Yb BK232 hb; clear hb hbox hg; obtain ⟨Ao48, co48, eo48⟩ := Z19 HO235.out; subst eo48; have hnb49 := NB252_213.out; have hnc49 := NB213_252.out; have hnb50 := NB252_232.out; have hnc50 := NB232_252.out; obtain ⟨hcz51_0, hcz51_1, hcz51_2, hcz51_3, hcz51_4, hcz51_5, hfz51_0, hfz51_1, hfz51_2, hfz51_3, hfz51_4, hfz51_5⟩ := Y6 BK252.out; obtain ⟨Ao52, co52, eo52⟩ := Z19 HO238.out; subst eo52; obtain ⟨Ao53, co53, eo53⟩ := Z19 HO241.out; subst eo53; obtain ⟨Ao54, co54, eo54⟩ := Z19 HO244.out; subst eo54; obtain ⟨Ao55, co55, eo55⟩ := Z19 HO247.out; subst eo55; obtain ⟨Ao56, co56, eo56⟩ := Z19 HO250.out; subst eo56; obtain ⟨hcz57_0, hcz57_1, hcz57_2, hcz57_3, hcz57_4, hcz57_5, hfz57_0, hfz57_1, hfz57_2, hfz57_3, hfz57_4, hfz57_5⟩ := Y6 BK232.out))
     go_roundg k1
     case measure => have := HK1.out; omega
     case rel => exact ⟨(wrap64 (x1_1 - 1)), (t233), (t236), (t239), (t242), (t245), (t248), (.slice Ao48 t233.length co48), (.slice Ao52 t236.length co52), (.slice Ao53 t239.length co53), (.slice Ao54 t242.length co54), (.slice Ao55 t245.length co55), (.slice Ao56 t248.length co56), Q15, H', ⟨Q55⟩, ⟨by (with_reducible repeat (first | apply Z9 | apply Z10 | apply Z11)); exact Z12 (Z13 (p := ⟨gb232, 5, none⟩) (Z13 (p := ⟨gb232, 4, none⟩) (Z13 (p := ⟨gb232, 3, none⟩) (Z13 (p := ⟨gb232, 2, none⟩) (Z13 (p := ⟨gb232, 1, none⟩) (Z13 (p := ⟨gb232, 0, none⟩) (Z13 (p := ⟨gb252, 5, none⟩) (Z13 (p := ⟨gb252, 4, none⟩) (Z13 (p := ⟨gb252, 3, none⟩) (Z13 (p := ⟨gb252, 2, none⟩) (Z13 (p := ⟨gb252, 1, none⟩) (Z13 (p := ⟨gb252, 0, none⟩) (Z15 (Z15 HO235.out BK252.out (by decide)) BK232.out (by decide)) (fun _ hk => hk.1.2) (.slice Ao48 t233.length co48)) (fun _ hk => hk.1.2) (.slice Ao52 t236.length co52)) (fun _ hk => hk.1.2) (.slice Ao53 t239.length co53)) (fun _ hk => hk.1.2) (.slice Ao54 t242.length co54)) (fun _ hk => hk.1.2) (.slice Ao55 t245.length co55)) (fun _ hk => hk.1.2) (.slice Ao56 t248.length co56)) (fun _ hk => hk.2) (.slice Ao48 t233.length co48)) (fun _ hk => hk.2) (.slice Ao52 t236.length co52)) (fun _ hk => hk.2) (.slice Ao53 t239.length co53)) (fun _ hk => hk.2) (.slice Ao54 t242.length co54)) (fun _ hk => hk.2) (.slice Ao55 t245.length co55)) (fun _ hk => hk.2) (.slice Ao56 t248.length co56)) (fun _ hk => ⟨hk.1.1.1.1.1.1.1.1, ⟨hk.1.1.1.1.1.1.1.2.1, ⟨hk.1.1.1.1.1.1.1.2.2.1, hk.1.1.1.1.1.1.1.2.2.2⟩⟩⟩)⟩, ⟨by (with_reducible repeat (first | apply Z9 | apply Z10 | apply Z11)); exact Z12 (Z13 (p := ⟨gb232, 5, none⟩) (Z13 (p := ⟨gb232, 4, none⟩) (Z13 (p := ⟨gb232, 3, none⟩) (Z13 (p := ⟨gb232, 2, none⟩) (Z13 (p := ⟨gb232, 1, none⟩) (Z13 (p := ⟨gb232, 0, none⟩) (Z13 (p := ⟨gb252, 5, none⟩) (Z13 (p := ⟨gb252, 4, none⟩) (Z13 (p := ⟨gb252, 3, none⟩) (Z13 (p := ⟨gb252, 2, none⟩) (Z13 (p := ⟨gb252, 1, none⟩) (Z13 (p := ⟨gb252, 0, none⟩) (Z15 (Z15 HO238.out BK252.out (by decide)) BK232.out (by decide)) (fun _ hk => hk.1.2) (.slice Ao48 t233.length co48)) (fun _ hk => hk.1.2) (.slice Ao52 t236.length co52)) (fun _ hk => hk.1.2) (.slice Ao53 t239.length co53)) (fun _ hk => hk.1.2) (.slice Ao54 t242.length co54)) (fun _ hk => hk.1.2) (.slice Ao55 t245.length co55)) (fun _ hk => hk.1.2) (.slice Ao56 t248.length co56)) (fun _ hk => hk.2) (.slice Ao48 t233.length co48)) (fun _ hk => hk.2) (.slice Ao52 t236.length co52)) (fun _ hk => hk.2) (.slice Ao53 t239.length co53)) (fun _ hk => hk.2) (.slice Ao54 t242.length co54)) (fun _ hk => hk.2) (.slice Ao55 t245.length co55)) (fun _ hk => hk.2) (.slice Ao56 t248.length co56)) (fun _ hk => ⟨hk.1.1.1.1.1.1.1.1, ⟨hk.1.1.1.1.1.1.1.2.1, ⟨hk.1.1.1.1.1.1.1.2.2.1, hk.1.1.1.1.1.1.1.2.2.2⟩⟩⟩)⟩, ⟨by (with_reducible repeat (first | apply Z9 | apply Z10 | apply Z11)); exact Z12 (Z13 (p := ⟨gb232, 5, none⟩) (Z13 (p := ⟨gb232, 4, none⟩) (Z13 (p := ⟨gb232, 3, none⟩) (Z13 (p := ⟨gb232, 2, none⟩) (Z13 (p := ⟨gb232, 1, none⟩) (Z13 (p := ⟨gb232, 0, none⟩) (Z13 (p := ⟨gb252, 5, none⟩) (Z13 (p := ⟨gb252, 4, none⟩) (Z13 (p := ⟨gb252, 3, none⟩) (Z13 (p := ⟨gb252, 2, none⟩) (Z13 (p := ⟨gb252, 1, none⟩) (Z13 (p := ⟨gb252, 0, none⟩) (Z15 (Z15 HO241.out BK252.out (by decide)) BK232.out (by decide)) (fun _ hk => hk.1.2) (.slice Ao48 t233.length co48)) (fun _ hk => hk.1.2) (.slice Ao52 t236.length co52)) (fun _ hk => hk.1.2) (.slice Ao53 t239.length co53)) (fun _ hk => hk.1.2) (.slice Ao54 t242.length co54)) (fun _ hk => hk.1.2) (.slice Ao55 t245.length co55)) (fun _ hk => hk.1.2) (.slice Ao56 t248.length co56)) (fun _ hk => hk.2) (.slice Ao48 t233.length co48)) (fun _ hk => hk.2) (.slice Ao52 t236.length co52)) (fun _ hk => hk.2) (.slice Ao53 t239.length co53)) (fun _ hk => hk.2) (.slice Ao54 t242.length co54)) (fun _ hk => hk.2) (.slice Ao55 t245.length co55)) (fun _ hk => hk.2) (.slice Ao56 t248.length co56)) (fun _ hk => trivial)⟩, ⟨by (with_reducible repeat (first | apply Z9 | apply Z10 | apply Z11)); exact Z12 (Z13 (p := ⟨gb232, 5, none⟩) (Z13 (p := ⟨gb232, 4, none⟩) (Z13 (p := ⟨gb232, 3, none⟩) (Z13 (p := ⟨gb232, 2, none⟩) (Z13 (p := ⟨gb232, 1, none⟩) (Z13 (p := ⟨gb232, 0, none⟩) (Z13 (p := ⟨gb252, 5, none⟩) (Z13 (p := ⟨gb252, 4, none⟩) (Z13 (p := ⟨gb252, 3, none⟩) (Z13 (p := ⟨gb252, 2, none⟩) (Z13 (p := ⟨gb252, 1, none⟩) (Z13 (p := ⟨gb252, 0, none⟩) (Z15 (Z15 HO244.out BK252.out (by decide)) BK232.out (by decide)) (fun _ hk => hk.1.2) (.slice Ao48 t233.length co48)) (fun _ hk => hk.1.2) (.slice Ao52 t236.length co52)) (fun _ hk => hk.1.2) (.slice Ao53 t239.length co53)) (fun _ hk => hk.1.2) (.slice Ao54 t242.length co54)) (fun _ hk => hk.1.2) (.slice Ao55 t245.length co55)) (fun _ hk => hk.1.2) (.slice Ao56 t248.length co56)) (fun _ hk => hk.2) (.slice Ao48 t233.length co48)) (fun _ hk => hk.2) (.slice Ao52 t236.length co52)) (fun _ hk => hk.2) (.slice Ao53 t239.length co53)) (fun _ hk => hk.2) (.slice Ao54 t242.length co54)) (fun _ hk => hk.2) (.slice Ao55 t245.length co55)) (fun _ hk => hk.2) (.slice Ao56 t248.length co56)) (fun _ hk => ⟨hk.1.1.1.1.1.1.1.1, ⟨hk.1.1.1.1.1.1.1.2.1, ⟨hk.1.1.1.1.1.1.1.2.2.1, hk.1.1.1.1.1.1.1.2.2.2⟩⟩⟩)⟩, ⟨by (with_reducible repeat (first | apply Z9 | apply Z10 | apply Z11)); exact Z12 (Z13 (p := ⟨gb232, 5, none⟩) (Z13 (p := ⟨gb232, 4, none⟩) (Z13 (p := ⟨gb232, 3, none⟩) (Z13 (p := ⟨gb232, 2, none⟩) (Z13 (p := ⟨gb232, 1, none⟩) (Z13 (p := ⟨gb232, 0, none⟩) (Z13 (p := ⟨gb252, 5, none⟩) (Z13 (p := ⟨gb252, 4, none⟩) (Z13 (p := ⟨gb252, 3, none⟩) (Z13 (p := ⟨gb252, 2, none⟩) (Z13 (p := ⟨gb252, 1, none⟩) (Z13 (p := ⟨gb252, 0, none⟩) (Z15 (Z15 HO247.out BK252.out (by decide)) BK232.out (by decide)) (fun _ hk => hk.1.2) (.slice Ao48 t233.length co48)) (fun _ hk => hk.1.2) (.slice Ao52 t236.length co52)) (fun _ hk => hk.1.2) (.slice Ao53 t239.length co53)) (fun _ hk => hk.1.2) (.slice Ao54 t242.length co54)) (fun _ hk => hk.1.2) (.slice Ao55 t245.length co55)) (fun _ hk => hk.1.2) (.slice Ao56 t248.length co56)) (fun _ hk => hk.2) (.slice Ao48 t233.length co48)) (fun _ hk => hk.2) (.slice Ao52 t236.length co52)) (fun _ hk => hk.2) (.slice Ao53 t239.length co53)) (fun _ hk => hk.2) (.slice Ao54 t242.length co54)) (fun _ hk => hk.2) (.slice Ao55 t245.length co55)) (fun _ hk => hk.2) (.slice Ao56 t248.length co56)) (fun _ hk => ⟨hk.1.1.1.1.1.1.1.1, ⟨hk.1.1.1.1.1.1.1.2.1, ⟨hk.1.1.1.1.1.1.1.2.2.1, hk.1.1.1.1.1.1.1.2.2.2⟩⟩⟩)⟩, ⟨by (with_reducible repeat (first | apply Z9 | apply Z10 | apply Z11)); exact Z12 (Z13 (p := ⟨gb232, 5, none⟩) (Z13 (p := ⟨gb232, 4, none⟩) (Z13 (p := ⟨gb232, 3, none⟩) (Z13 (p := ⟨gb232, 2, none⟩) (Z13 (p := ⟨gb232, 1, none⟩) (Z13 (p := ⟨gb232, 0, none⟩) (Z13 (p := ⟨gb252, 5, none⟩) (Z13 (p := ⟨gb252, 4, none⟩) (Z13 (p := ⟨gb252, 3, none⟩) (Z13 (p := ⟨gb252, 2, none⟩) (Z13 (p := ⟨gb252, 1, none⟩) (Z13 (p := ⟨gb252, 0, none⟩) (Z15 (Z15 HO250.out BK252.out (by decide)) BK232.out (by decide)) (fun _ hk => hk.1.2) (.slice Ao48 t233.length co48)) (fun _ hk => hk.1.2) (.slice Ao52 t236.length co52)) (fun _ hk => hk.1.2) (.slice Ao53 t239.length co53)) (fun _ hk => hk.1.2) (.slice Ao54 t242.length co54)) (fun _ hk => hk.1.2) (.slice Ao55 t245.length co55)) (fun _ hk => hk.1.2) (.slice Ao56 t248.length co56)) (fun _ hk => hk.2) (.slice Ao48 t233.length co48)) (fun _ hk => hk.2) (.slice Ao52 t236.length co52)) (fun _ hk => hk.2) (.slice Ao53 t239.length co53)) (fun _ hk => hk.2) (.slice Ao54 t242.length co54)) (fun _ hk => hk.2) (.slice Ao55 t245.length co55)) (fun _ hk => hk.2) (.slice Ao56 t248.length co56)) (fun _ hk => ⟨hk.1.1.1.1.1.1.1.1, ⟨hk.1.1.1.1.1.1.1.2.1, ⟨hk.1.1.1.1.1.1.1.2.2.1, hk.1.1.1.1.1.1.1.2.2.2⟩⟩⟩)⟩, ⟨by (with_reducible repeat (first | refine Z26 ?_ _ | refine Z27 ?_ | refine Z28 ?_ _)); refine blk_far ?_ NB213_232.out _; (with_reducible repeat (first | refine Z26 ?_ _ | refine Z27 ?_ | refine Z28 ?_ _)); refine blk_far ?_ NB213_232.out _; (with_reducible repeat (first | refine Z26 ?_ _ | refine Z27 ?_ | refine Z28 ?_ _)); refine blk_far ?_ NB213_232.out _; (with_reducible repeat (first | refine Z26 ?_ _ | refine Z27 ?_ | refine Z28 ?_ _)); refine blk_far ?_ NB213_232.out _; (with_reducible repeat (first | refine Z26 ?_ _ | refine Z27 ?_ | refine Z28 ?_ _)); refine blk_far ?_ NB213_232.out _; (with_reducible repeat (first | refine Z26 ?_ _ | refine Z27 ?_ | refine Z28 ?_ _)); refine blk_far ?_ NB213_232.out _; (with_reducible repeat (first | refine Z26 ?_ _ | refine Z27 ?_ | refine Z28 ?_ _)); refine blk_far ?_ NB213_252.out _; (with_reducible repeat (first | refine Z26 ?_ _ | refine Z27 ?_ | refine Z28 ?_ _)); refine blk_far ?_ NB213_252.out _; (with_reducible repeat (first | refine Z26 ?_ _ | refine Z27 ?_ | refine Z28 ?_ _)); refine blk_far ?_ NB213_252.out _; (with_reducible repeat (first | refine Z26 ?_ _ | refine Z27 ?_ | refine Z28 ?_ _)); refine blk_far ?_ NB213_252.out _; (with_reducible repeat (first | refine Z26 ?_ _ | refine Z27 ?_ | refine Z28 ?_ _)); refine blk_far ?_ NB213_252.out _; (with_reducible repeat (first | refine Z26 ?_ _ | refine Z27 ?_ | refine Z28 ?_ _)); refine blk_far ?_ NB213_252.out _; (with_reducible repeat (first | refine Z26 ?_ _ | refine Z27 ?_ | refine Z28 ?_ _)); exact BK213.out⟩, ⟨by (with_reducible repeat (first | refine Z26 ?_ _ | refine Z27 ?_ | refine Z28 ?_ _)); refine Z30 (cs := #[.slice Ao48 t233.length co48, .slice Ao52 t236.length co52, .slice Ao53 t239.length co53, .slice Ao54 t242.length co54, .slice Ao55 t245.length co55, .slice Ao45 x233005_1.length co45]) ?_ 5 _ rfl; (with_reducible repeat (first | refine Z26 ?_ _ | refine Z27 ?_ | refine Z28 ?_ _)); refine Z30 (cs := #[.slice Ao48 t233.length co48, .slice Ao52 t236.length co52, .slice Ao53 t239.length co53, .slice Ao54 t242.length co54, .slice Ao44 x233004_1.length co44, .slice Ao45 x233005_1.length co45]) ?_ 4 _ rfl; (with_reducible repeat (first | refine Z26 ?_ _ | refine Z27 ?_ | refine Z28 ?_ _)); refine Z30 (cs := #[.slice Ao48 t233.length co48, .slice Ao52 t236.length co52, .slice Ao53 t239.length co53, .slice Ao43 x233003_1.length co43, .slice Ao44 x233004_1.length co44, .slice Ao45 x233005_1.length co45]) ?_ 3 _ rfl; (with_reducible repeat (first | refine Z26 ?_ _ | refine Z27 ?_ | refine Z28 ?_ _)); refine Z30 (cs := #[.slice Ao48 t233.length co48, .slice Ao52 t236.length co52, .slice Ao42 x233002_1.length co42, .slice Ao43 x233003_1.length co43, .slice Ao44 x233004_1.length co44, .slice Ao45 x233005_1.length co45]) ?_ 2 _ rfl; (with_reducible repeat (first | refine Z26 ?_ _ | refine Z27 ?_ | refine Z28 ?_ _)); refine Z30 (cs := #[.slice Ao48 t233.length co48, .slice Ao41 x233001_1.length co41, .slice Ao42 x233002_1.length co42, .slice Ao43 x233003_1.length co43, .slice Ao44 x233004_1.length co44, .slice Ao45 x233005_1.length co45]) ?_ 1 _ rfl; (with_reducible repeat (first | refine Z26 ?_ _ | refine Z27 ?_ | refine Z28 ?_ _)); refine Z30 (cs := #[.slice Ao40 x233000_1.length co40, .slice Ao41 x233001_1.length co41, .slice Ao42 x233002_1.length co42, .slice Ao43 x233003_1.length co43, .slice Ao44 x233004_1.length co44, .slice Ao45 x233005_1.length co45]) ?_ 0 _ rfl; (with_reducible repeat (first | refine Z26 ?_ _ | refine Z27 ?_ | refine Z28 ?_ _)); refine blk_far ?_ NB232_252.out _; (with_reducible repeat (first | refine Z26 ?_ _ | refine Z27 ?_ | refine Z28 ?_ _)); refine blk_far ?_ NB232_252.out _; (with_reducible repeat (first | refine Z26 ?_ _ | refine Z27 ?_ | refine Z28 ?_ _)); refine blk_far ?_ NB232_252.out _; (with_reducible repeat (first | refine Z26 ?_ _ | refine Z27 ?_ | refine Z28 ?_ _)); refine blk_far ?_ NB232_252.out _; (with_reducible repeat (first | refine Z26 ?_ _ | refine Z27 ?_ | refine Z28 ?_ _)); refine blk_far ?_ NB232_252.out _; (with_reducible repeat (first | refine Z26 ?_ _ | refine Z27 ?_ | refine Z28 ?_ _)); refine blk_far ?_ NB232_252.out _; (with_reducible repeat (first | refine Z26 ?_ _ | refine Z27 ?_ | refine Z28 ?_ _)); exact BK232.out⟩, ⟨Q76⟩⟩
   ·rw [if_neg c15] at H
    have c15b0 : decide (0 < x1_1) = false := Z38 c15
    clear c15
    simp only [Option.some.injEq, Prod.mk.injEq] at H
    obtain ⟨rfl, rfl, rfl, rfl, rfl, rfl, rfl⟩ := H
    have hnb58 := NB232_213.out
    have hnc58 := NB213_232.out
    obtain ⟨hcz59_0, hcz59_1, hcz59_2, hcz59_3, hcz59_4, hcz59_5, hfz59_0, hfz59_1, hfz59_2, hfz59_3, hfz59_4, hfz59_5⟩ := Y6 BK232.out
    obtain ⟨Ao60, co60, eo60⟩ := Z19 HO_233000.out
    subst eo60
    obtain ⟨hcz61_0, hcz61_1, hcz61_2, hcz61_3, hcz61_4, hcz61_5, hfz61_0, hfz61_1, hfz61_2, hfz61_3, hfz61_4, hfz61_5⟩ := Y6 BK213.out
    obtain ⟨Ao62, co62, eo62⟩ := Z19 HO_233001.out
    subst eo62
    obtain ⟨Ao63, co63, eo63⟩ := Z19 HO_233002.out
    subst eo63
    obtain ⟨Ao64, co64, eo64⟩ := Z19 HO_233003.out
    subst eo64
    obtain ⟨Ao65, co65, eo65⟩ := Z19 HO_233004.out
    subst eo65
    obtain ⟨Ao66, co66, eo66⟩ := Z19 HO_233005.out
    subst eo66
    go_wp2
    refine bodyPost_ret (results_ct rfl _ _ gb213 35 #[.slice Ao60 x233000_1.length co60, .slice Ao62 x233001_1.length co62, .slice Ao63 x233002_1.length co63, .slice Ao64 x233003_1.length co64, .slice Ao65 x233004_1.length co65, .slice Ao66 x233005_1.length co66] (0, 0) _ rfl (by (with_reducible repeat (first | refine Z26 ?_ _ | refine Z27 ?_ | refine Z28 ?_ _)); refine Z30 (cs := #[.slice Ao60 x233000_1.length co60, .slice Ao62 x233001_1.length co62, .slice Ao63 x233002_1.length co63, .slice Ao64 x233003_1.length co64, .slice Ao65 x233004_1.length co65, .slice none 0 0]) ?_ 5 _ rfl; (with_reducible repeat (first | refine Z26 ?_ _ | refine Z27 ?_ | refine Z28 ?_ _)); refine Z30 (cs := #[.slice Ao60 x233000_1.length co60, .slice Ao62 x233001_1.length co62, .slice Ao63 x233002_1.length co63, .slice Ao64 x233003_1.length co64, .slice none 0 0, .slice none 0 0]) ?_ 4 _ rfl; (with_reducible repeat (first | refine Z26 ?_ _ | refine Z27 ?_ | refine Z28 ?_ _)); refine Z30 (cs := #[.slice Ao60 x233000_1.length co60, .slice Ao62 x233001_1.length co62, .slice Ao63 x233002_1.length co63, .slice none 0 0, .slice none 0 0, .slice none 0 0]) ?_ 3 _ rfl; (with_reducible repeat (first | refine Z26 ?_ _ | refine Z27 ?_ | refine Z28 ?_ _)); refine Z30 (cs := #[.slice Ao60 x233000_1.length co60, .slice Ao62 x233001_1.length co62, .slice none 0 0, .slice none 0 0, .slice none 0 0, .slice none 0 0]) ?_ 2 _ rfl; (with_reducible repeat (first | refine Z26 ?_ _ | refine Z27 ?_ | refine Z28 ?_ _)); refine Z30 (cs := #[.slice Ao60 x233000_1.length co60, .slice none 0 0, .slice none 0 0, .slice none 0 0, .slice none 0 0, .slice none 0 0]) ?_ 1 _ rfl; (with_reducible repeat (first | refine Z26 ?_ _ | refine Z27 ?_ | refine Z28 ?_ _)); refine Z30 (cs := #[.slice none 0 0, .slice none 0 0, .slice none 0 0, .slice none 0 0, .slice none 0 0, .slice none 0 0]) ?_ 0 _ rfl; (with_reducible repeat (first | refine Z26 ?_ _ | refine Z27 ?_ | refine Z28 ?_ _)); exact BK213.out) Try.underlying35 rfl (by kernel_rfl)) rfl ?_
    exact ⟨_, _, _, _, _, _, Q9, by (with_reducible repeat (first | apply Z9 | apply Z10 | apply Z11)); exact Z12 (Z13 (p := ⟨gb213, 5, none⟩) (Z13 (p := ⟨gb213, 4, none⟩) (Z13 (p := ⟨gb213, 3, none⟩) (Z13 (p := ⟨gb213, 2, none⟩) (Z13 (p := ⟨gb213, 1, none⟩) (Z13 (p := ⟨gb213, 0, none⟩) (Z15 HO_233000.out BK213.out (by decide)) (fun _ hk => hk.2) (.slice Ao60 x233000_1.length co60)) (fun _ hk => hk.2) (.slice Ao62 x233001_1.length co62)) (fun _ hk => hk.2) (.slice Ao63 x233002_1.length co63)) (fun _ hk => hk.2) (.slice Ao64 x233003_1.length co64)) (fun _ hk => hk.2) (.slice Ao65 x233004_1.length co65)) (fun _ hk => hk.2) (.slice Ao66 x233005_1.length co66)) (fun _ hk => ⟨hk.1.1, ⟨hk.1.2.1, ⟨hk.1.2.2.1, hk.1.2.2.2⟩⟩⟩), by (with_reducible repeat (first | apply Z9 | apply Z10 | apply Z11)); exact Z12 (Z13 (p := ⟨gb213, 5, none⟩) (Z13 (p := ⟨gb213, 4, none⟩) (Z13 (p := ⟨gb213, 3, none⟩) (Z13 (p := ⟨gb213, 2, none⟩) (Z13 (p := ⟨gb213, 1, none⟩) (Z13 (p := ⟨gb213, 0, none⟩) (Z15 HO_233001.out BK213.out (by decide)) (fun _ hk => hk.2) (.slice Ao60 x233000_1.length co60)) (fun _ hk => hk.2) (.slice Ao62 x233001_1.length co62)) (fun _ hk => hk.2) (.slice Ao63 x233002_1.length co63)) (fun _ hk => hk.2) (.slice Ao64 x233003_1.length co64)) (fun _ hk => hk.2) (.slice Ao65 x233004_1.length co65)) (fun _ hk => hk.2) (.slice Ao66 x233005_1.length co66)) (fun _ hk => ⟨hk.1.1, ⟨hk.1.2.1, ⟨hk.1.2.2.1, hk.1.2.2.2⟩⟩⟩), by (with_reducible repeat (first | apply Z9 | apply Z10 | apply Z11)); exact Z12 (Z13 (p := ⟨gb213, 5, none⟩) (Z13 (p := ⟨gb213, 4, none⟩) (Z13 (p := ⟨gb213, 3, none⟩) (Z13 (p := ⟨gb213, 2, none⟩) (Z13 (p := ⟨gb213, 1, none⟩) (Z13 (p := ⟨gb213, 0, none⟩) (Z15 HO_233002.out BK213.out (by decide)) (fun _ hk => hk.2) (.slice Ao60 x233000_1.length co60)) (fun _ hk => hk.2) (.slice Ao62 x233001_1.length co62)) (fun _ hk => hk.2) (.slice Ao63 x233002_1.length co63)) (fun _ hk => hk.2) (.slice Ao64 x233003_1.length co64)) (fun _ hk => hk.2) (.slice Ao65 x233004_1.length co65)) (fun _ hk => hk.2) (.slice Ao66 x233005_1.length co66)) (fun _ hk => trivial), by (with_reducible repeat (first | apply Z9 | apply Z10 | apply Z11)); exact Z12 (Z13 (p := ⟨gb213, 5, none⟩) (Z13 (p := ⟨gb213, 4, none⟩) (Z13 (p := ⟨gb213, 3, none⟩) (Z13 (p := ⟨gb213, 2, none⟩) (Z13 (p := ⟨gb213, 1, none⟩) (Z13 (p := ⟨gb213, 0, none⟩) (Z15 HO_233003.out BK213.out (by decide)) (fun _ hk => hk.2) (.slice Ao60 x233000_1.length co60)) (fun _ hk => hk.2) (.slice Ao62 x233001_1.length co62)) (fun _ hk => hk.2) (.slice Ao63 x233002_1.length co63)) (fun _ hk => hk.2) (.slice Ao64 x233003_1.length co64)) (fun _ hk => hk.2) (.slice Ao65 x233004_1.length co65)) (fun _ hk => hk.2) (.slice Ao66 x233005_1.length co66)) (fun _ hk => ⟨hk.1.1, ⟨hk.1.2.1, ⟨hk.1.2.2.1, hk.1.2.2.2⟩⟩⟩), by (with_reducible repeat (first | apply Z9 | apply Z10 | apply Z11)); exact Z12 (Z13 (p := ⟨gb213, 5, none⟩) (Z13 (p := ⟨gb213, 4, none⟩) (Z13 (p := ⟨gb213, 3, none⟩) (Z13 (p := ⟨gb213, 2, none⟩) (Z13 (p := ⟨gb213, 1, none⟩) (Z13 (p := ⟨gb213, 0, none⟩) (Z15 HO_233004.out BK213.out (by decide)) (fun _ hk => hk.2) (.slice Ao60 x233000_1.length co60)) (fun _ hk => hk.2) (.slice Ao62 x233001_1.length co62)) (fun _ hk => hk.2) (.slice Ao63 x233002_1.length co63)) (fun _ hk => hk.2) (.slice Ao64 x233003_1.length co64)) (fun _ hk => hk.2) (.slice Ao65 x233004_1.length co65)) (fun _ hk => hk.2) (.slice Ao66 x233005_1.length co66)) (fun _ hk => ⟨hk.1.1, ⟨hk.1.2.1, ⟨hk.1.2.2.1, hk.1.2.2.2⟩⟩⟩), by (with_reducible repeat (first | apply Z9 | apply Z10 | apply Z11)); exact Z12 (Z13 (p := ⟨gb213, 5, none⟩) (Z13 (p := ⟨gb213, 4, none⟩) (Z13 (p := ⟨gb213, 3, none⟩) (Z13 (p := ⟨gb213, 2, none⟩) (Z13 (p := ⟨gb213, 1, none⟩) (Z13 (p := ⟨gb213, 0, none⟩) (Z15 HO_233005.out BK213.out (by decide)) (fun _ hk => hk.2) (.slice Ao60 x233000_1.length co60)) (fun _ hk => hk.2) (.slice Ao62 x233001_1.length co62)) (fun _ hk => hk.2) (.slice Ao63 x233002_1.length co63)) (fun _ hk => hk.2) (.slice Ao64 x233003_1.length co64)) (fun _ hk => hk.2) (.slice Ao65 x233004_1.length co65)) (fun _ hk => hk.2) (.slice Ao66 x233005_1.length co66)) (fun _ hk => ⟨hk.1.1, ⟨hk.1.2.1, ⟨hk.1.2.2.1, hk.1.2.2.2⟩⟩⟩), Q78⟩

/-! ### spec_SwapperAt: function 15 -/
def spec_SwapperAt.f (k : Nat) (a0 : Int) (a1 : Int) : Option (List Int × List Int × List Bool × List Int × List Int × List Int × Bool) := (spec_foSize.f a0).bind fun t254 => (if t254 = true then ((spec_raFactorial.f k a0).bind fun t255 => ((spec_l1In.f a1 0 (wrap64 (t255 - 1))).bind fun t256 => (if t256 = true then ((spec_foSwapperAt.f k a0 a1).bind fun bt257 => (some (bt257.1, bt257.2.1, bt257.2.2.1, bt257.2.2.2.1, bt257.2.2.2.2.1, bt257.2.2.2.2.2.1, bt257.2.2.2.2.2.2))) else (some (([] : List Int), ([] : List Int), ([] : List Bool), ([] : List Int), ([] : List Int), ([] : List Int), false))))) else (some (([] : List Int), ([] : List Int), ([] : List Bool), ([] : List Int), ([] : List Int), ([] : List Int), false)))
theorem spec_SwapperAt.mono : ∀ a0 a1 k, LeO (spec_SwapperAt.f k a0 a1) (spec_SwapperAt.f (k + 1) a0 a1) := by
 intro a0 a1 k
 unfold spec_SwapperAt.f
 repeat' first
   | (with_reducible exact spec_foSwapperAt.mono _ _ _)
   | (with_reducible exact spec_raFactorial.mono _ _)
   | (with_reducible exact LeO.refl _)
   | (with_reducible exact LeO.none _)
   | (with_reducible refine LeO.ite ?_ ?_)
   | (with_reducible refine LeO.bind ?_ (fun _ => ?_))
   | exact spec_foSwapperAt.mono _ _ _
   | exact spec_raFactorial.mono _ _
   | exact LeO.none _
   | refine LeO.ite ?_ ?_
   | refine LeO.bind ?_ (fun _ => ?_)
set_option maxHeartbeats 8000000 in
set_option maxRecDepth 100000 in
theorem spec_SwapperAt.calls (k : Nat) (a0 : Int) (a1 : Int) (r1 : List Int) (r2 : List Int) (r3 : List Bool) (r4 : List Int) (r5 : List Int) (r6 : List Int) (r7 : Bool) (w : World) (h : spec_SwapperAt.f k a0 a1 = some (r1, r2, r3, r4, r5, r6, r7)) :
  Calls Try.prog 15 #[.int .i64 a0, .int .i64 a1] w fun e w' => ∃ v0_ v1_ v2_ v3_ v4_ v5_ : Value, e = .returned (.tuple #[.agg #[v0_, v1_, v2_, v3_, v4_, v5_], .bool r7]) ∧ Kd.R (Kd.int .i64) 3 w' w.heap.size (fun k_ => some k_ ≠ (v1_ : Value).ownBlock ∧ some k_ ≠ (v3_ : Value).ownBlock ∧ some k_ ≠ (v4_ : Value).ownBlock ∧ some k_ ≠ (v5_ : Value).ownBlock) v0_ r1 ∧ Kd.R (Kd.int .i64) 3 w' w.heap.size (fun k_ => some k_ ≠ (v0_ : Value).ownBlock ∧ some k_ ≠ (v3_ : Value).ownBlock ∧ some k_ ≠ (v4_ : Value).ownBlock ∧ some k_ ≠ (v5_ : Value).ownBlock) v1_ r2 ∧ Kd.R Kd.bool 4 w' w.heap.size (fun _ => True) v2_ r3 ∧ Kd.R (Kd.int .i64) 3 w' w.heap.size (fun k_ => some k_ ≠ (v0_ : Value).ownBlock ∧ some k_ ≠ (v1_ : Value).ownBlock ∧ some k_ ≠ (v4_ : Value).ownBlock ∧ some k_ ≠ (v5_ : Value).ownBlock) v3_ r4 ∧ Kd.R (Kd.int .i64) 3 w' w.heap.size (fun k_ => some k_ ≠ (v0_ : Value).ownBlock ∧ some k_ ≠ (v1_ : Value).ownBlock ∧ some k_ ≠ (v3_ : Value).ownBlock ∧ some k_ ≠ (v5_ : Value).ownBlock) v4_ r5 ∧ Kd.R (Kd.int .i64) 3 w' w.heap.size (fun k_ => some k_ ≠ (v0_ : Value).ownBlock ∧ some k_ ≠ (v1_ : Value).ownBlock ∧ some k_ ≠ (v3_ : Value).ownBlock ∧ some k_ ≠ (v4_ : Value).ownBlock) v5_ r6 ∧ Below w.heap.size w w' := by
 have hu35 := Try.underlying35
 have HB := Ya (Below.refl w.heap.size w)
 have H : ((spec_foSize.f a0).bind fun t254 => (if t254 = true then ((spec_raFactorial.f k a0).bind fun t255 => ((spec_l1In.f a1 0 (wrap64 (t255 - 1))).bind fun t256 => (if t256 = true then ((spec_foSwapperAt.f k a0 a1).bind fun bt257 => (some (bt257.1, bt257.2.1, bt257.2.2.1, bt257.2.2.2.1, bt257.2.2.2.2.1, bt257.2.2.2.2.2.1, bt257.2.2.2.2.2.2))) else (some (([] : List Int), ([] : List Int), ([] : List Bool), ([] : List Int), ([] : List Int), ([] : List Int), false))))) else (some (([] : List Int), ([] : List Int), ([] : List Bool), ([] : List Int), ([] : List Int), ([] : List Int), false)))) = some (r1, r2, r3, r4, r5, r6, r7) := h
 clear h
 replace H := Z37.mp H
 obtain ⟨t254, A30, H⟩ := H
 replace H : (if t254 = true then ((spec_raFactorial.f k a0).bind fun t255 => ((spec_l1In.f a1 0 (wrap64 (t255 - 1))).bind fun t256 => (if t256 = true then ((spec_foSwapperAt.f k a0 a1).bind fun bt257 => (some (bt257.1, bt257.2.1, bt257.2.2.1, bt257.2.2.2.1, bt257.2.2.2.2.1, bt257.2.2.2.2.2.1, bt257.2.2.2.2.2.2))) else (some (([] : List Int), ([] : List Int), ([] : List Bool), ([] : List Int), ([] : List Int), ([] : List Int), false))))) else (some (([] : List Int), ([] : List Int), ([] : List Bool), ([] : List Int), ([] : List Int), ([] : List Int), false))) = some (r1, r2, r3, r4, r5, r6, r7) := H
 have A3 := Ya A30
 clear A30
 by_cases c4 : t254 = true
 ·subst c4
  have H1 : ((spec_raFactorial.f k a0).bind fun t255 => ((spec_l1In.f a1 0 (wrap64 (t255 - 1))).bind fun t256 => (if t256 = true then ((spec_foSwapperAt.f k a0 a1).bind fun bt257 => (some (bt257.1, bt257.2.1, bt257.2.2.1, bt257.2.2.2.1, bt257.2.2.2.2.1, bt257.2.2.2.2.2.1, bt257.2.2.2.2.2.2))) else (some (([] : List Int), ([] : List Int), ([] : List Bool), ([] : List Int), ([] : List Int), ([] : List Int), false))))) = some (r1, r2, r3, r4, r5, r6, r7) := by rw [if_pos rfl] at H; exact H
  clear H
  have H := H1
  clear H1
  replace H := Z37.mp H
  obtain ⟨t255, A50, H⟩ := H
  replace H : ((spec_l1In.f a1 0 (wrap64 (t255 - 1))).bind fun t256 => (if t256 = true then ((spec_foSwapperAt.f k a0 a1).bind fun bt257 => (some (bt257.1, bt257.2.1, bt257.2.2.1, bt257.2.2.2.1, bt257.2.2.2.2.1, bt257.2.2.2.2.2.1, bt257.2.2.2.2.2.2))) else (some (([] : List Int), ([] : List Int), ([] : List Bool), ([] : List Int), ([] : List Int), ([] : List Int), false)))) = some (r1, r2, r3, r4, r5, r6, r7) := H
  have A5 := Ya A50
  clear A50
  replace H := Z37.mp H
  obtain ⟨t256, A60, H⟩ := H
  replace H : (if t256 = true then ((spec_foSwapperAt.f k a0 a1).bind fun bt257 => (some (bt257.1, bt257.2.1, bt257.2.2.1, bt257.2.2.2.1, bt257.2.2.2.2.1, bt257.2.2.2.2.2.1, bt257.2.2.2.2.2.2))) else (some (([] : List Int), ([] : List Int), ([] : List Bool), ([] : List Int), ([] : List Int), ([] : List Int), false))) = some (r1, r2, r3, r4, r5, r6, r7) := H
  have A6 := Ya A60
  clear A60
  by_cases c7 : t256 = true
  ·subst c7
   have H1 : ((spec_foSwapperAt.f k a0 a1).bind fun bt257 => (some (bt257.1, bt257.2.1, bt257.2.2.1, bt257.2.2.2.1, bt257.2.2.2.2.1, bt257.2.2.2.2.2.1, bt257.2.2.2.2.2.2))) = some (r1, r2, r3, r4, r5, r6, r7) := by rw [if_pos rfl] at H; exact H
   clear H
   have H := H1
   clear H1
   replace H := Z37.mp H
   obtain ⟨⟨t257, t260, t263, t266, t269, t272, t275⟩, A80, H⟩ := H
   replace H : (some (t257, t260, t263, t266, t269, t272, t275)) = some (r1, r2, r3, r4, r5, r6, r7) := H
   have A8 := Ya A80
   clear A80
   simp only [Option.some.injEq, Prod.mk.injEq] at H
   obtain ⟨rfl, rfl, rfl, rfl, rfl, rfl, rfl⟩ := H
   go_enter Try.func15, Try.ntmps15
   go_wp2_with (first | ((with_reducible refine gate_dst (N := 4) rfl ?_); refine Yx 4 #[.slice none 0 0, .slice none 0 0, .slice none 0 0, .slice none 0 0, .slice none 0 0, .slice none 0 0] 35 ?_; intro gb253 hg w9 hbox hb; have BK253 := Ya hbox; have GW253 := Yg hg Q0; have GE253 := GW253; replace HB := Ya (Z8 Q0 hb); clear hb hbox hg) | ((with_reducible refine gate_callee (f := 43) rfl ?_); refine goesL_ (some 7) rfl rfl Try.func43 (by kernel_rfl) rfl #[.int .i64 a0] rfl Q1 ?_; (with_reducible refine (spec_foSize.calls a0 true _ A3.out).mono ?_); rintro e w' ⟨rfl, ⟨nd, rfl⟩⟩; refine ⟨_, rfl, ?_⟩; (try (rw [drewN_self w9]; generalize hq_ : World.drewN w9 _ = w9; replace BK253 : Aside0 (w9.heap[gb253]? = some (.cells #[.slice none 0 0, .slice none 0 0, .slice none 0 0, .slice none 0 0, .slice none 0 0, .slice none 0 0] 35 (0, 0))) := ⟨Q74⟩; replace HB : Aside0 (Below w.heap.size w w9) := ⟨by rw [← hq_]; exact Q17⟩; clear hq_))) | (go_at_call 45; (with_reducible refine (spec_raFactorial.calls k a0 t255 _ A5.out).mono ?_); rintro e w' ⟨rfl, ⟨nd, rfl⟩⟩; (try (rw [drewN_self w9]; generalize hq_ : World.drewN w9 _ = w9; replace BK253 : Aside0 (w9.heap[gb253]? = some (.cells #[.slice none 0 0, .slice none 0 0, .slice none 0 0, .slice none 0 0, .slice none 0 0, .slice none 0 0] 35 (0, 0))) := ⟨Q74⟩; replace HB : Aside0 (Below w.heap.size w w9) := ⟨by rw [← hq_]; exact Q17⟩; clear hq_))) | (go_at_call 44; (with_reducible refine (spec_l1In.calls a1 0 (wrap64 (t255 - 1)) true _ A6.out).mono ?_); rintro e w' ⟨rfl, ⟨nd, rfl⟩⟩; (try (rw [drewN_self w9]; generalize hq_ : World.drewN w9 _ = w9; replace BK253 : Aside0 (w9.heap[gb253]? = some (.cells #[.slice none 0 0, .slice none 0 0, .slice none 0 0, .slice none 0 0, .slice none 0 0, .slice none 0 0] 35 (0, 0))) := ⟨Q74⟩; replace HB : Aside0 (Below w.heap.size w w9) := ⟨by rw [← hq_]; exact Q17⟩; clear hq_))) | ((with_reducible refine gate_callee (f := 46) rfl ?_); refine goesL_ (some 20) rfl rfl Try.func46 (by kernel_rfl) rfl #[.int .i64 a0, .int .i64 a1] rfl Q1 ?_; (with_reducible refine (spec_foSwapperAt.calls k a0 a1 t257 t260 t263 t266 t269 t272 t275 _ A8.out).mono ?_); rintro e w10 ⟨v258, v261, v264, v267, v270, v273, rfl, ho0, ho1, ho2, ho3, ho4, ho5, hb⟩; refine ⟨_, rfl, ?_⟩; have HO259 := Ya (Kd.R_lower ho0 (Z7 Q17)); have HO262 := Ya (Kd.R_lower ho1 (Z7 Q17)); have HO265 := Ya (Kd.R_lower ho2 (Z7 Q17)); have HO268 := Ya (Kd.R_lower ho3 (Z7 Q17)); have HO271 := Ya (Kd.R_lower ho4 (Z7 Q17)); have HO274 := Ya (Kd.R_lower ho5 (Z7 Q17)); replace BK253 := Yb BK253 hb; replace HB := Ya (Z8 Q17 hb); (try clear hb); (try clear hb2); (try clear hk); (try clear hi); (try clear ho0); (try clear ho1); (try clear ho2); (try clear ho3); (try clear ho4); (try clear ho5); obtain ⟨Ao11, co11, eo11⟩ := Z19 HO259.out; subst eo11; obtain ⟨hcz12_0, hcz12_1, hcz12_2, hcz12_3, hcz12_4, hcz12_5, hfz12_0, hfz12_1, hfz12_2, hfz12_3, hfz12_4, hfz12_5⟩ := Y6 BK253.out; obtain ⟨Ao13, co13, eo13⟩ := Z19 HO262.out; subst eo13; obtain ⟨Ao14, co14, eo14⟩ := Z19 HO265.out; subst eo14; obtain ⟨Ao15, co15, eo15⟩ := Z19 HO268.out; subst eo15; obtain ⟨Ao16, co16, eo16⟩ := Z19 HO271.out; subst eo16; obtain ⟨Ao17, co17, eo17⟩ := Z19 HO274.out; subst eo17))
   refine bodyPost_ret (results_ct rfl _ _ gb253 35 #[.slice Ao11 t257.length co11, .slice Ao13 t260.length co13, .slice Ao14 t263.length co14, .slice Ao15 t266.length co15, .slice Ao16 t269.length co16, .slice Ao17 t272.length co17] (0, 0) _ rfl (by (with_reducible repeat (first | refine Z26 ?_ _ | refine Z27 ?_ | refine Z28 ?_ _)); refine Z30 (cs := #[.slice Ao11 t257.length co11, .slice Ao13 t260.length co13, .slice Ao14 t263.length co14, .slice Ao15 t266.length co15, .slice Ao16 t269.length co16, .slice none 0 0]) ?_ 5 _ rfl; (with_reducible repeat (first | refine Z26 ?_ _ | refine Z27 ?_ | refine Z28 ?_ _)); refine Z30 (cs := #[.slice Ao11 t257.length co11, .slice Ao13 t260.length co13, .slice Ao14 t263.length co14, .slice Ao15 t266.length co15, .slice none 0 0, .slice none 0 0]) ?_ 4 _ rfl; (with_reducible repeat (first | refine Z26 ?_ _ | refine Z27 ?_ | refine Z28 ?_ _)); refine Z30 (cs := #[.slice Ao11 t257.length co11, .slice Ao13 t260.length co13, .slice Ao14 t263.length co14, .slice none 0 0, .slice none 0 0, .slice none 0 0]) ?_ 3 _ rfl; (with_reducible repeat (first | refine Z26 ?_ _ | refine Z27 ?_ | refine Z28 ?_ _)); refine Z30 (cs := #[.slice Ao11 t257.length co11, .slice Ao13 t260.length co13, .slice none 0 0, .slice none 0 0, .slice none 0 0, .slice none 0 0]) ?_ 2 _ rfl; (with_reducible repeat (first | refine Z26 ?_ _ | refine Z27 ?_ | refine Z28 ?_ _)); refine Z30 (cs := #[.slice Ao11 t257.length co11, .slice none 0 0, .slice none 0 0, .slice none 0 0, .slice none 0 0, .slice none 0 0]) ?_ 1 _ rfl; (with_reducible repeat (first | refine Z26 ?_ _ | refine Z27 ?_ | refine Z28 ?_ _)); refine Z30 (cs := #[.slice none 0 0, .slice none 0 0, .slice none 0 0, .slice none 0 0, .slice none 0 0, .slice none 0 0]) ?_ 0 _ rfl; (with_reducible repeat (first | refine Z26 ?_ _ | refine Z27 ?_ | refine Z28 ?_ _)); exact BK253.out) Try.underlying35 rfl (by kernel_rfl)) rfl ?_
   exact ⟨_, _, _, _, _, _, Q9, by (with_reducible repeat (first | apply Z9 | apply Z10 | apply Z11)); exact Z12 (Z13 (p := ⟨gb253, 5, none⟩) (Z13 (p := ⟨gb253, 4, none⟩) (Z13 (p := ⟨gb253, 3, none⟩) (Z13 (p := ⟨gb253, 2, none⟩) (Z13 (p := ⟨gb253, 1, none⟩) (Z13 (p := ⟨gb253, 0, none⟩) (Z15 HO259.out BK253.out (by decide)) (fun _ hk => hk.2) (.slice Ao11 t257.length co11)) (fun _ hk => hk.2) (.slice Ao13 t260.length co13)) (fun _ hk => hk.2) (.slice Ao14 t263.length co14)) (fun _ hk => hk.2) (.slice Ao15 t266.length co15)) (fun _ hk => hk.2) (.slice Ao16 t269.length co16)) (fun _ hk => hk.2) (.slice Ao17 t272.length co17)) (fun _ hk => ⟨hk.1.1, ⟨hk.1.2.1, ⟨hk.1.2.2.1, hk.1.2.2.2⟩⟩⟩), by (with_reducible repeat (first | apply Z9 | apply Z10 | apply Z11)); exact Z12 (Z13 (p := ⟨gb253, 5, none⟩) (Z13 (p := ⟨gb253, 4, none⟩) (Z13 (p := ⟨gb253, 3, none⟩) (Z13 (p := ⟨gb253, 2, none⟩) (Z13 (p := ⟨gb253, 1, none⟩) (Z13 (p := ⟨gb253, 0, none⟩) (Z15 HO262.out BK253.out (by decide)) (fun _ hk => hk.2) (.slice Ao11 t257.length co11)) (fun _ hk => hk.2) (.slice Ao13 t260.length co13)) (fun _ hk => hk.2) (.slice Ao14 t263.length co14)) (fun _ hk => hk.2) (.slice Ao15 t266.length co15)) (fun _ hk => hk.2) (.slice Ao16 t269.length co16)) (fun _ hk => hk.2) (.slice Ao17 t272.length co17)) (fun _ hk => ⟨hk.1.1, ⟨hk.1.2.1, ⟨hk.1.2.2.1, hk.1.2.2.2⟩⟩⟩), by (with_reducible repeat (first | apply Z9 | apply Z10 | apply Z11)); exact Z12 (Z13 (p := ⟨gb253, 5, none⟩) (Z13 (p := ⟨gb253, 4, none⟩) (Z13 (p := ⟨gb253, 3, none⟩) (Z13 (p := ⟨gb253, 2, none⟩) (Z13 (p := ⟨gb253, 1, none⟩) (Z13 (p := ⟨gb253, 0, none⟩) (Z15 HO265.out BK253.out (by decide)) (fun _ hk => hk.2) (.slice Ao11 t257.length co11)) (fun _ hk => hk.2) (.slice Ao13 t260.length co13)) (fun _ hk => hk.2) (.slice Ao14 t263.length co14)) (fun _ hk => hk.2) (.slice Ao15 t266.length co15)) (fun _ hk => hk.2) (.slice Ao16 t269.length co16)) (fun _ hk => hk.2) (.slice Ao17 t272.length co17)) (fun _ hk => trivial), by (with_reducible repeat (first | apply Z9 | apply Z10 | apply Z11)); exact Z12 (Z13 (p := ⟨gb253, 5, none⟩) (Z13 (p := ⟨gb253, 4, none⟩) (Z13 (p := ⟨gb253, 3, none⟩) (Z13 (p := ⟨gb253, 2, none⟩) (Z13 (p := ⟨gb253, 1, none⟩) (Z13 (p := ⟨gb253, 0, none⟩) (Z15 HO268.out BK253.out (by decide)) (fun _ hk => hk.2) (.slice Ao11 t257.length co11)) (fun _ hk => hk.2) (.slice Ao13 t260.length co13)) (fun _ hk => hk.2) (.slice Ao14 t263.length co14)) (fun _ hk => hk.2) (.slice Ao15 t266.length co15)) (fun _ hk => hk.2) (.slice Ao16 t269.length co16)) (fun _ hk => hk.2) (.slice Ao17 t272.length co17)) (fun _ hk => ⟨hk.1.1, ⟨hk.1.2.1, ⟨hk.1.2.2.1, hk.1.2.2.2⟩⟩⟩), by (with_reducible repeat (first | apply Z9 | apply Z10 | apply Z11)); exact Z12 (Z13 (p := ⟨gb253, 5, none⟩) (Z13 (p := ⟨gb253, 4, none⟩) (Z13 (p := ⟨gb253, 3, none⟩) (Z13 (p := ⟨gb253, 2, none⟩) (Z13 (p := ⟨gb253, 1, none⟩) (Z13 (p := ⟨gb253, 0, none⟩) (Z15 HO271.out BK253.out (by decide)) (fun _ hk => hk.2) (.slice Ao11 t257.length co11)) (fun _ hk => hk.2) (.slice Ao13 t260.length co13)) (fun _ hk => hk.2) (.slice Ao14 t263.length co14)) (fun _ hk => hk.2) (.slice Ao15 t266.length co15)) (fun _ hk => hk.2) (.slice Ao16 t269.length co16)) (fun _ hk => hk.2) (.slice Ao17 t272.length co17)) (fun _ hk => ⟨hk.1.1, ⟨hk.1.2.1, ⟨hk.1.2.2.1, hk.1.2.2.2⟩⟩⟩), by (with_reducible repeat (first | apply Z9 | apply Z10 | apply Z11)); exact Z12 (Z13 (p := ⟨gb253, 5, none⟩) (Z13 (p := ⟨gb253, 4, none⟩) (Z13 (p := ⟨gb253, 3, none⟩) (Z13 (p := ⟨gb253, 2, none⟩) (Z13 (p := ⟨gb253, 1, none⟩) (Z13 (p := ⟨gb253, 0, none⟩) (Z15 HO274.out BK253.out (by decide)) (fun _ hk => hk.2) (.slice Ao11 t257.length co11)) (fun _ hk => hk.2) (.slice Ao13 t260.length co13)) (fun _ hk => hk.2) (.slice Ao14 t263.length co14)) (fun _ hk => hk.2) (.slice Ao15 t266.length co15)) (fun _ hk => hk.2) (.slice Ao16 t269.length co16)) (fun _ hk => hk.2) (.slice Ao17 t272.length co17)) (fun _ hk => ⟨hk.1.1, ⟨hk.1.2.1, ⟨hk.1.2.2.1, hk.1.2.2.2⟩⟩⟩), Q66⟩
  ·replace c7 := Bool.eq_false_iff.mpr c7
   subst c7
   have H1 : (some (([] : List Int), ([] : List Int), ([] : List Bool), ([] : List Int), ([] : List Int), ([] : List Int), false)) = some (r1, r2, r3, r4, r5, r6, r7) := by rw [if_neg (show ¬ (false = true) by decide)] at H; exact H
   clear H
   have H := H1
   clear H1
   simp only [Option.some.injEq, Prod.mk.injEq] at H
   obtain ⟨rfl, rfl, rfl, rfl, rfl, rfl, rfl⟩ := H
   go_enter Try.func15, Try.ntmps15
   go_wp2_with (first | ((with_reducible refine gate_dst (N := 4) rfl ?_); refine Yx 4 #[.slice none 0 0, .slice none 0 0, .slice none 0 0, .slice none 0 0, .slice none 0 0, .slice none 0 0] 35 ?_; intro gb253 hg w18 hbox hb; have BK253 := Ya hbox; have GW253 := Yg hg Q0; have GE253 := GW253; replace HB := Ya (Z8 Q0 hb); clear hb hbox hg) | ((with_reducible refine gate_callee (f := 43) rfl ?_); refine goesL_ (some 7) rfl rfl Try.func43 (by kernel_rfl) rfl #[.int .i64 a0] rfl Q1 ?_; (with_reducible refine (spec_foSize.calls a0 true _ A3.out).mono ?_); rintro e w' ⟨rfl, ⟨nd, rfl⟩⟩; refine ⟨_, rfl, ?_⟩; (try (rw [drewN_self w18]; generalize hq_ : World.drewN w18 _ = w18; replace BK253 : Aside0 (w18.heap[gb253]? = some (.cells #[.slice none 0 0, .slice none 0 0, .slice none 0 0, .slice none 0 0, .slice none 0 0, .slice none 0 0] 35 (0, 0))) := ⟨Q74⟩; replace HB : Aside0 (Below w.heap.size w w18) := ⟨by rw [← hq_]; exact Q17⟩; clear hq_))) | (go_at_call 45; (with_reducible refine (spec_raFactorial.calls k a0 t255 _ A5.out).mono ?_); rintro e w' ⟨rfl, ⟨nd, rfl⟩⟩; (try (rw [drewN_self w18]; generalize hq_ : World.drewN w18 _ = w18; replace BK253 : Aside0 (w18.heap[gb253]? = some (.cells #[.slice none 0 0, .slice none 0 0, .slice none 0 0, .slice none 0 0, .slice none 0 0, .slice none 0 0] 35 (0, 0))) := ⟨Q74⟩; replace HB : Aside0 (Below w.heap.size w w18) := ⟨by rw [← hq_]; exact Q17⟩; clear hq_))) | (go_at_call 44; (with_reducible refine (spec_l1In.calls a1 0 (wrap64 (t255 - 1)) false _ A6.out).mono ?_); rintro e w' ⟨rfl, ⟨nd, rfl⟩⟩; (try (rw [drewN_self w18]; generalize hq_ : World.drewN w18 _ = w18; replace BK253 : Aside0 (w18.heap[gb253]? = some (.cells #[.slice none 0 0, .slice none 0 0, .slice none 0 0, .slice none 0 0, .slice none 0 0, .slice none 0 0] 35 (0, 0))) := ⟨Q74⟩; replace HB : Aside0 (Below w.heap.size w w18) := ⟨by rw [← hq_]; exact Q17⟩; clear hq_)); obtain ⟨hcz19_0, hcz19_1, hcz19_2, hcz19_3, hcz19_4, hcz19_5, hfz19_0, hfz19_1, hfz19_2, hfz19_3, hfz19_4, hfz19_5⟩ := Y6 BK253.out))
   refine bodyPost_ret (results_ct rfl _ _ gb253 35 #[.slice none 0 0, .slice none 0 0, .slice none 0 0, .slice none 0 0, .slice none 0 0, .slice none 0 0] (0, 0) _ rfl Q24 Try.underlying35 rfl (by kernel_rfl)) rfl ?_
   exact ⟨_, _, _, _, _, _, Q9, Q2, Q2, Q2, Q2, Q2, Q2, Q66⟩
 ·replace c4 := Bool.eq_false_iff.mpr c4
  subst c4
  have H1 : (some (([] : List Int), ([] : List Int), ([] : List Bool), ([] : List Int), ([] : List Int), ([] : List Int), false)) = some (r1, r2, r3, r4, r5, r6, r7) := by rw [if_neg (show ¬ (false = true) by decide)] at H; exact H
  clear H
  have H := H1
  clear H1
  simp only [Option.some.injEq, Prod.mk.injEq] at H
  obtain ⟨rfl, rfl, rfl, rfl, rfl, rfl, rfl⟩ := H
  go_enter Try.func15, Try.ntmps15
  go_wp2_with (first | ((with_reducible refine gate_dst (N := 4) rfl ?_); refine Yx 4 #[.slice none 0 0, .slice none 0 0, .slice none 0 0, .slice none 0 0, .slice none 0 0, .slice none 0 0] 35 ?_; intro gb253 hg w20 hbox hb; have BK253 := Ya hbox; have GW253 := Yg hg Q0; have GE253 := GW253; replace HB := Ya (Z8 Q0 hb); clear hb hbox hg) | ((with_reducible refine gate_callee (f := 43) rfl ?_); refine goesL_ (some 7) rfl rfl Try.func43 (by kernel_rfl) rfl #[.int .i64 a0] rfl Q1 ?_; (with_reducible refine (spec_foSize.calls a0 false _ A3.out).mono ?_); rintro e w' ⟨rfl, ⟨nd, rfl⟩⟩; refine ⟨_, rfl, ?_⟩; (try (rw [drewN_self w20]; generalize hq_ : World.drewN w20 _ = w20; replace BK253 : Aside0 (w20.heap[gb253]? = some (.cells #[.slice none 0 0, .slice none 0 0, .slice none 0 0, .slice none 0 0, .slice none 0 0, .slice none 0 0] 35 (0, 0))) := ⟨Q74⟩; replace HB : Aside0 (Below w.heap.size w w20) := ⟨by rw [← hq_]; exact Q17⟩; clear hq_)); obtain ⟨hcz21_0, hcz21_1, hcz21_2, hcz21_3, hcz21_4, hcz21_5, hfz21_0, hfz21_1, hfz21_2, hfz21_3, hfz21_4, hfz21_5⟩ := Y6 BK253.out))
  refine bodyPost_ret (results_ct rfl _ _ gb253 35 #[.slice none 0 0, .slice none 0 0, .slice none 0 0, .slice none 0 0, .slice none 0 0, .slice none 0 0] (0, 0) _ rfl Q24 Try.underlying35 rfl (by kernel_rfl)) rfl ?_
  exact ⟨_, _, _, _, _, _, Q9, Q2, Q2, Q2, Q2, Q2, Q2, Q66⟩

/-! ### impl_within: function 48 -/
def impl_within.f (a0 : Int) (a1 : Int) (a2 : Int) : Option (Bool) := if a0 ≥ a1 then (some (decide (a0 ≤ a2))) else (some false)
set_option maxHeartbeats 8000000 in
set_option maxRecDepth 100000 in
theorem impl_within.calls (a0 : Int) (a1 : Int) (a2 : Int) (r : Bool) (w : World) (h : impl_within.f a0 a1 a2 = some r) :
  Calls Try.prog 48 #[.int .i64 a0, .int .i64 a1, .int .i64 a2] w fun e w' => e = .returned (.bool r) ∧ Drawn0 w w' := by
 have H : (if a0 ≥ a1 then (some (decide (a0 ≤ a2))) else (some false)) = some r := h
 clear h
 by_cases c4 : a0 ≥ a1
 ·rw [if_pos c4] at H
  have c4b0 : decide (a1 ≤ a0) = true := Z39 c4
  clear c4
  obtain rfl := Option.some.inj H
  go_enter Try.func48, Try.ntmps48
  go_wp2
  go_ret
  exact ⟨Q34, Q19⟩
 ·rw [if_neg c4] at H
  have c4b0 : decide (a1 ≤ a0) = false := Z38 c4
  clear c4
  obtain rfl := Option.some.inj H
  go_enter Try.func48, Try.ntmps48
  go_wp2
  go_ret
  exact ⟨Q34, Q19⟩

/-! ### impl_isSwapperSize: function 47 -/
def impl_isSwapperSize.f (a0 : Int) : Option (Bool) := (impl_within.f a0 1 7).bind fun t276 => (some t276)
set_option maxHeartbeats 8000000 in
set_option maxRecDepth 100000 in
theorem impl_isSwapperSize.calls (a0 : Int) (r : Bool) (w : World) (h : impl_isSwapperSize.f a0 = some r) :
  Calls Try.prog 47 #[.int .i64 a0] w fun e w' => e = .returned (.bool r) ∧ Drawn0 w w' := by
 have H : ((impl_within.f a0 1 7).bind fun t276 => (some t276)) = some r := h
 clear h
 replace H := Z37.mp H
 obtain ⟨t276, A20, H⟩ := H
 replace H : (some t276) = some r := H
 have A2 := Ya A20
 clear A20
 obtain rfl := Option.some.inj H
 go_enter Try.func47, Try.ntmps47
 go_wp2_with (first | ((with_reducible refine gate_callee (f := 48) rfl ?_); refine goesL_ (some 4) rfl rfl Try.func48 (by kernel_rfl) rfl #[.int .i64 a0, .int .i64 1, .int .i64 7] rfl Q1 ?_; (with_reducible refine (impl_within.calls a0 1 7 t276 _ A2.out).mono ?_); rintro e w' ⟨rfl, ⟨nd, rfl⟩⟩; refine ⟨_, rfl, ?_⟩))
 go_ret
 exact ⟨Q34, Q19⟩

/-! ### impl_factorial: function 49 -/
def impl_factorial.l0 : Nat → Int → Int → Int → Option (Int)
 | 0, _, _, _ => none
 | k + 1, x0, x3, x4 => if x4 ≤ x0 then (impl_factorial.l0 k x0 (wrap64 (x3 * x4)) (wrap64 (x4 + 1))) else (some x3)
def impl_factorial.f (k : Nat) (a0 : Int) : Option (Int) := impl_factorial.l0 k a0 1 2
theorem impl_factorial.mono_l : ∀ k, (∀ y0 y1 y2, LeO (impl_factorial.l0 k y0 y1 y2) (impl_factorial.l0 (k + 1) y0 y1 y2))
 | 0 => fun _ _ _ r h => by simp [impl_factorial.l0] at h
 | k + 1 => by
  have ih0 := impl_factorial.mono_l k
  ·intro y0 y1 y2
   unfold impl_factorial.l0
   repeat' first
   | (with_reducible exact ih0 _ _ _)
   | (with_reducible exact LeO.refl _)
   | (with_reducible exact LeO.none _)
   | (with_reducible refine LeO.ite ?_ ?_)
   | (with_reducible refine LeO.bind ?_ (fun _ => ?_))
   | exact ih0 _ _ _
   | exact LeO.none _
   | refine LeO.ite ?_ ?_
   | refine LeO.bind ?_ (fun _ => ?_)
theorem impl_factorial.mono : ∀ a0 k, LeO (impl_factorial.f k a0) (impl_factorial.f (k + 1) a0) := by
 intro a0 k
 have ih0 := impl_factorial.mono_l k
 unfold impl_factorial.f
 repeat' first
   | (with_reducible exact ih0 _ _ _)
   | (with_reducible exact LeO.refl _)
   | (with_reducible exact LeO.none _)
   | (with_reducible refine LeO.ite ?_ ?_)
   | (with_reducible refine LeO.bind ?_ (fun _ => ?_))
   | exact ih0 _ _ _
   | exact LeO.none _
   | refine LeO.ite ?_ ?_
   | refine LeO.bind ?_ (fun _ => ?_)
set_option maxHeartbeats 8000000 in
set_option maxRecDepth 100000 in
theorem impl_factorial.calls (k : Nat) (a0 : Int) (r : Int) (w : World) (h : impl_factorial.f k a0 = some r) :
  Calls Try.prog 49 #[.int .i64 a0] w fun e w' => e = .returned (.int .i64 r) ∧ Drawn0 w w' := by
 have H : (impl_factorial.l0 k a0 1 2) = some r := h
 clear h
 have H' := Ya H
 clear H
 go_enter Try.func49, Try.ntmps49
 go_wp2
 go_loopg [3, 4] k (fun kq v3 v4 w' => ∃ (x3_1 : Int) (x4_1 : Int), v3 = .int .i64 x3_1 ∧ v4 = .int .i64 x4_1 ∧ Aside0 (impl_factorial.l0 kq a0 x3_1 x4_1 = some r) ∧ Aside0 (kq ≤ k) ∧ Drawn0 w w')
 case atStart => exact ⟨(1), (2), Q15, Q15, H', ⟨Nat.le_refl _⟩, Q19⟩
 case round =>
  clear H'
  obtain ⟨x3_1, x4_1, rfl, rfl, HA, HK1, ⟨m1, rfl⟩⟩ := hrel
  cases gk with
  | zero => exact absurd HA.out (by simp [impl_factorial.l0])
  | succ k1 =>
   have H := HA.out
   clear HA
   simp only [impl_factorial.l0] at H
   by_cases c2 : x4_1 ≤ a0
   ·rw [if_pos c2] at H
    have c2b0 : decide (x4_1 ≤ a0) = true := Z39 c2
    clear c2
    have H' := Ya H
    clear H
    go_wp2
    go_roundg k1
    case measure => have := HK1.out; omega
    case rel => exact ⟨(wrap64 (x3_1 * x4_1)), (wrap64 (x4_1 + 1)), Q15, Q15, H', ⟨Q55⟩, Q19⟩
   ·rw [if_neg c2] at H
    have c2b0 : decide (x4_1 ≤ a0) = false := Z38 c2
    clear c2
    obtain rfl := Option.some.inj H
    go_wp2
    go_ret
    exact ⟨Q34, Q19⟩

/-! ### impl_copied: function 56 -/
def impl_copied.f (l0 : List Int) : Option (List Int) := (some (([] : List Int) : List Int)).bind fun y277 => (if y277.length + l0.length < 17592186044416 then (some (y277 ++ l0)) else (none))
set_option maxHeartbeats 8000000 in
set_option maxRecDepth 100000 in
theorem impl_copied.calls (A0 : Option Addr) (c0 : Nat) (l0 : List Int) (r : List Int) (w : World) (hr0 : Kd.C (Kd.int .i64) w A0 l0.length l0) (hc0 : l0.length ≤ c0) (h : impl_copied.f l0 = some r) :
  Calls Try.prog 56 #[.slice A0 l0.length c0] w fun e w' => ∃ v0_ : Value, e = .returned (v0_) ∧ Kd.R (Kd.int .i64) 3 w' w.heap.size (fun _ => True) v0_ r ∧ Below w.heap.size w w' := by
 have HR0 := Ya hr0
 have HC0 := Ya hc0
 clear hr0 hc0
 have HB := Ya (Below.refl w.heap.size w)
 have H : ((some (([] : List Int) : List Int)).bind fun y277 => (if y277.length + l0.length < 17592186044416 then (some (y277 ++ l0)) else (none))) = some r := h
 clear h
 obtain ⟨y277, hy277⟩ : ∃ y_ : List Int, y_ = (([] : List Int)) := ⟨_, rfl⟩
 replace H : (if y277.length + l0.length < 17592186044416 then (some (y277 ++ l0)) else (none)) = some r := by first | (rw [hy277]; with_reducible exact H) | (have H2_ := (Option.bind_some _ _).symm.trans H; rw [hy277]; with_reducible exact H2_) | (have H2_ := (Option.bind_some _ _).symm.trans H; with_reducible exact H2_) | with_reducible exact H | (rw [hy277]; exact H) | exact H
 have Ny277 := Ya hy277
 clear hy277
 by_cases c2 : y277.length + l0.length < 17592186044416
 ·rw [if_pos c2] at H
  have LMc2 := Ya c2
  clear c2
  obtain ⟨y280, hy280⟩ : ∃ y_ : List Int, y_ = (y277 ++ l0) := ⟨_, rfl⟩
  replace H : (some y280) = some r := by first | (rw [hy280]; with_reducible exact H) | (have H2_ := (Option.bind_some _ _).symm.trans H; rw [hy280]; with_reducible exact H2_) | (have H2_ := (Option.bind_some _ _).symm.trans H; with_reducible exact H2_) | with_reducible exact H | (rw [hy280]; exact H) | exact H
  have Ny280 := Ya hy280
  clear hy280
  obtain rfl := Option.some.inj H
  go_enter Try.func56, Try.ntmps56
  go_wp2_with (first | ((with_reducible refine gate_dst (N := 3) rfl ?_); refine Kd.R_lit (Kd.int .i64) _ 3 ?hg (N := 3) ?hd (xs := ([] : List Int)) (inner := []) (ok := fun _ => True) (okp := fun _ => True) ?hr ?hp (fun _ hk => hk) trivial (Below.refl _ _) (Nat.le_refl _) (by simp) ?_; (case hd => rfl); (case hg => rfl); (case hr => first | (go_simp; done) | (go_simp; rfl)); (case hp => exact (Reps.none _ _)); intro v278 w3 ho4 hb hg_ hnew_; clear hg_ hnew_; (first | rw [← Ny277.out] at ho4 | (simp only [Int.reduceToNat] at ho4; rw [← Ny277.out] at ho4)); have HO279 := Ya (Kd.R_lower ho4 (Z7 Q0)); replace HB := Ya (Z8 Q0 hb); clear hb ho4) | ((with_reducible refine gate_builtin (b := .append) (xs := #[.tmp 3, .tmp 4]) rfl ?_); at_builtin; refine Kd.R_append_rows (Kd.int .i64) (w0 := w) w.heap.size rfl (.tmp 3) (.tmp 4) 22 3 (.int .i64 0) 8 rfl Try.underlying22 info3 rfl (by decide) (by omega) v278 y277 l0 _ _ _ (fun _ => True) (fun _ => False) rfl rfl ?aO ?aR (fun _ _ h => h) (fun _ h => h.elim) ?aF ?aB ?aS ?aL ?_; (case aR => repeat (first | exact (Z23 HR0.out HB.out) | (with_reducible refine Z20 ?_ _) | (with_reducible refine Z21 ?_ _) | (with_reducible refine Z22 ?_))); (case aB => exact Q0); (case aF => exact (fun _ _ => trivial)); (case aO => exact (Yr HO279.out)); (case aS => exact (Z7 Q0)); (case aL => have := LMc2.out; omega); intro v281 w5 ho hb hg hat; rw [← Ny280.out] at ho; replace HB := Ya hb; have HO282 := Ya ho; clear HO279; clear ho hb hg hat))
  go_ret
  exact ⟨_, Q9, by (with_reducible repeat (first | apply Z9 | apply Z10 | apply Z11)); exact HO282.out, Q18⟩
 ·rw [if_neg c2] at H
  exact absurd H (by simp)

/-! ### impl_identity: function 72 -/
def impl_identity.l0 : Nat → List Int → Int → Int → Option (List Int)
 | 0, _, _, _ => none
 | k + 1, x3, x6, x7 => if x7 < x6 then (if x3.length < 17592186044416 then (impl_identity.l0 k (x3 ++ [x7]) x6 (wrap64 (x7 + 1))) else (none)) else (some x3)
def impl_identity.f (k : Nat) (a0 : Int) : Option (List Int) := impl_identity.l0 k (([] : List Int)) a0 0
theorem impl_identity.mono_l : ∀ k, (∀ y0 y1 y2, LeO (impl_identity.l0 k y0 y1 y2) (impl_identity.l0 (k + 1) y0 y1 y2))
 | 0 => fun _ _ _ r h => by simp [impl_identity.l0] at h
 | k + 1 => by
  have ih0 := impl_identity.mono_l k
  ·intro y0 y1 y2
   unfold impl_identity.l0
   repeat' first
   | (with_reducible exact ih0 _ _ _)
   | (with_reducible exact LeO.refl _)
   | (with_reducible exact LeO.none _)
   | (with_reducible refine LeO.ite ?_ ?_)
   | (with_reducible refine LeO.bind ?_ (fun _ => ?_))
   | exact ih0 _ _ _
   | exact LeO.none _
   | refine LeO.ite ?_ ?_
   | refine LeO.bind ?_ (fun _ => ?_)
theorem impl_identity.mono : ∀ a0 k, LeO (impl_identity.f k a0) (impl_identity.f (k + 1) a0) := by
 intro a0 k
 have ih0 := impl_identity.mono_l k
 unfold impl_identity.f
 repeat' first
   | (with_reducible exact ih0 _ _ _)
   | (with_reducible exact LeO.refl _)
   | (with_reducible exact LeO.none _)
   | (with_reducible refine LeO.ite ?_ ?_)
   | (with_reducible refine LeO.bind ?_ (fun _ => ?_))
   | exact ih0 _ _ _
   | exact LeO.none _
   | refine LeO.ite ?_ ?_
   | refine LeO.bind ?_ (fun _ => ?_)
set_option maxHeartbeats 8000000 in
set_option maxRecDepth 100000 in
theorem impl_identity.calls (k : Nat) (a0 : Int) (r : List Int) (w : World) (h : impl_identity.f k a0 = some r) :
  Calls Try.prog 72 #[.int .i64 a0] w fun e w' => ∃ v0_ : Value, e = .returned (v0_) ∧ Kd.R (Kd.int .i64) 3 w' w.heap.size (fun _ => True) v0_ r ∧ Below w.heap.size w w' := by
 have HB := Ya (Below.refl w.heap.size w)
 have H : (impl_identity.l0 k (([] : List Int)) a0 0) = some r := h
 clear h
 obtain ⟨y283, hy283⟩ : ∃ y_ : List Int, y_ = (([] : List Int)) := ⟨_, rfl⟩
 replace H : (impl_identity.l0 k y283 a0 0) = some r := by first | (rw [hy283]; with_reducible exact H) | (have H2_ := (Option.bind_some _ _).symm.trans H; rw [hy283]; with_reducible exact H2_) | (have H2_ := (Option.bind_some _ _).symm.trans H; with_reducible exact H2_) | with_reducible exact H | (rw [hy283]; exact H) | exact H
 have Ny283 := Ya hy283
 clear hy283
 have H' := Ya H
 clear H
 go_enter Try.func72, Try.ntmps72
 go_wp2_with (first | ((with_reducible refine gate_dst (N := 5) rfl ?_); refine Kd.R_lit (Kd.int .i64) _ 3 ?hg (N := 5) ?hd (xs := ([] : List Int)) (inner := []) (ok := fun _ => True) (okp := fun _ => True) ?hr ?hp (fun _ hk => hk) trivial (Below.refl _ _) (Nat.le_refl _) (by simp) ?_; (case hd => rfl); (case hg => rfl); (case hr => first | (go_simp; done) | (go_simp; rfl)); (case hp => exact (Reps.none _ _)); intro v284 w2 ho3 hb hg_ hnew_; clear hg_ hnew_; (first | rw [← Ny283.out] at ho3 | (simp only [Int.reduceToNat] at ho3; rw [← Ny283.out] at ho3)); have HO285 := Ya (Kd.R_lower ho3 (Z7 Q0)); replace HB := Ya (Z8 Q0 hb); clear hb ho3))
 go_loopg [3, 7] k (fun kq v3 v7 w' => ∃ (x3_1 : List Int) (x7_1 : Int), v7 = .int .i64 x7_1 ∧ Aside0 (impl_identity.l0 kq x3_1 a0 x7_1 = some r) ∧ Aside0 (kq ≤ k) ∧ Aside0 (Kd.R (Kd.int .i64) 3 w' w.heap.size (fun _ => True) v3 x3_1) ∧ Aside0 (Below w.heap.size w w'))
 case atStart => exact ⟨(y283), (0), Q15, H', ⟨Nat.le_refl _⟩, ⟨by (with_reducible repeat (first | apply Z9 | apply Z10 | apply Z11)); exact HO285.out⟩, ⟨Q18⟩⟩
 case round =>
  clear H'
  try clear p2
  obtain ⟨x3_1, x7_1, rfl, HA, HK1, HO_3, HB⟩ := hrel
  cases gk with
  | zero => exact absurd HA.out (by simp [impl_identity.l0])
  | succ k1 =>
   have H := HA.out
   clear HA
   simp only [impl_identity.l0] at H
   by_cases c4 : x7_1 < a0
   ·rw [if_pos c4] at H
    have c4b0 : decide (x7_1 < a0) = true := Z39 c4
    clear c4
    by_cases c5 : x3_1.length < 17592186044416
    ·rw [if_pos c5] at H
     have LMc5 := Ya c5
     clear c5
     obtain ⟨y286, hy286⟩ : ∃ y_ : List Int, y_ = (x3_1 ++ [x7_1]) := ⟨_, rfl⟩
     replace H : (impl_identity.l0 k1 y286 a0 (wrap64 (x7_1 + 1))) = some r := by first | (rw [hy286]; with_reducible exact H) | (have H2_ := (Option.bind_some _ _).symm.trans H; rw [hy286]; with_reducible exact H2_) | (have H2_ := (Option.bind_some _ _).symm.trans H; with_reducible exact H2_) | with_reducible exact H | (rw [hy286]; exact H) | exact H
     have Ny286 := Ya hy286
     clear hy286
     have H' := Ya H
     clear H
     go_wp2_with (first | ((with_reducible refine gate_builtin (b := .append) (xs := #[.tmp 10, .tmp 12]) rfl ?_); at_builtin; refine Kd.R_append (Kd.int .i64) (w0 := w) w.heap.size rfl (.tmp 10) (.tmp 12) 22 3 (.int .i64 0) 8 rfl Try.underlying22 info3 rfl (by decide) (by omega) u3 x3_1 x7_1 [.int .i64 x7_1] (fun _ => True) (fun _ => False) rfl rfl ?aP (fun _ hk => hk.elim) ?aF ?aO ?aB ?aS ?aL ?_; (case aP => exact rfl); (case aB => exact Q0); (case aF => exact (fun _ _ => trivial)); (case aO => exact (Yr HO_3.out)); (case aS => exact (Z7 Q0)); (case aL => have := LMc5.out; omega); intro v287 w6 ho hb hg hat; rw [← Ny286.out] at ho; replace HB := Ya hb; have HO288 := Ya ho; clear HO_3; clear ho hb hg hat))
     go_roundg k1
     case measure => have := HK1.out; omega
     case rel => exact ⟨(y286), (wrap64 (x7_1 + 1)), Q15, H', ⟨Q55⟩, ⟨by (with_reducible repeat (first | apply Z9 | apply Z10 | apply Z11)); exact HO288.out⟩, ⟨Q18⟩⟩
    ·rw [if_neg c5] at H
     exact absurd H (by simp)
   ·rw [if_neg c4] at H
    have c4b0 : decide (x7_1 < a0) = false := Z38 c4
    clear c4
    obtain rfl := Option.some.inj H
    go_wp2
    go_ret
    exact ⟨_, Q9, Q69, Q18⟩

end Go.Proofs.Ytpfakdhfffehaaa.MFnExactSwapperAt
