/- Functions of the program as Lean functions, each with the proof that its call comes to just that: laid for this claim by this session's own program. -/
import Derived.Test.YtpfakdhfffehaaaMFnExactSwapperAtx0
import Derived.Test.YtpfakdhfffehaaaMFnExactSwapperAtx7
import Derived.Test.YtpfakdhfffehaaaMFnExactSwapperAtx8
namespace Go.Proofs.Ytpfakdhfffehaaa.MFnExactSwapperAt
open Go.RowKit Go.Proofs.YtpfakdhfffehaaaW.PrintWords Go.Proofs.YtpfakdhfffehaaaW.PrintLast Go.Proofs.YtpfakdhfffehaaaW.PrintMore
attribute [local go_sem] max2_int min2_int max_two min_two max_three min_three max_four min_four   -- for this text's walks alone
set_option linter.unusedVariables false
set_option linter.unusedSimpArgs false

/-! ### impl_startSwapper: function 52 -/
def impl_startSwapper.l0 : Nat → Int → List Int → Int → Option (List Int × List Int × List Bool × List Int × List Int × List Int)
 | 0, _, _, _ => none
 | k + 1, x0, x3, x4 => if x4 ≤ x0 then (if x3.length < 17592186044416 then (impl_startSwapper.l0 k x0 (x3 ++ [x4]) (wrap64 (x4 + 1))) else (none)) else ((impl_startFocus.f k x3).bind fun bt310 => ((impl_identity.f k x0).bind fun t322 => ((impl_identity.f k x0).bind fun t325 => (some (bt310.1, bt310.2.1, bt310.2.2.1, bt310.2.2.2, t322, t325)))))
def impl_startSwapper.f (k : Nat) (a0 : Int) : Option (List Int × List Int × List Bool × List Int × List Int × List Int) := impl_startSwapper.l0 k a0 (([] : List Int)) 2
theorem impl_startSwapper.mono_l : ∀ k, (∀ y0 y1 y2, LeO (impl_startSwapper.l0 k y0 y1 y2) (impl_startSwapper.l0 (k + 1) y0 y1 y2))
 | 0 => fun _ _ _ r h => by simp [impl_startSwapper.l0] at h
 | k + 1 => by
  have ih0 := impl_startSwapper.mono_l k
  ·intro y0 y1 y2
   unfold impl_startSwapper.l0
   repeat' first
   | (with_reducible exact ih0 _ _ _)
   | (with_reducible exact impl_identity.mono _ _)
   | (with_reducible exact impl_startFocus.mono _ _)
   | (with_reducible exact LeO.refl _)
   | (with_reducible exact LeO.none _)
   | (with_reducible refine LeO.ite ?_ ?_)
   | (with_reducible refine LeO.bind ?_ (fun _ => ?_))
   | exact ih0 _ _ _
   | exact impl_identity.mono _ _
   | exact impl_startFocus.mono _ _
   | exact LeO.none _
   | refine LeO.ite ?_ ?_
   | refine LeO.bind ?_ (fun _ => ?_)
theorem impl_startSwapper.mono : ∀ a0 k, LeO (impl_startSwapper.f k a0) (impl_startSwapper.f (k + 1) a0) := by
 intro a0 k
 have ih0 := impl_startSwapper.mono_l k
 unfold impl_startSwapper.f
 repeat' first
   | (with_reducible exact ih0 _ _ _)
   | (with_reducible exact impl_identity.mono _ _)
   | (with_reducible exact impl_startFocus.mono _ _)
   | (with_reducible exact LeO.refl _)
   | (with_reducible exact LeO.none _)
   | (with_reducible refine LeO.ite ?_ ?_)
   | (with_reducible refine LeO.bind ?_ (fun _ => ?_))
   | exact ih0 _ _ _
   | exact impl_identity.mono _ _
   | exact impl_startFocus.mono _ _
   | exact LeO.none _
   | refine LeO.ite ?_ ?_
   | refine LeO.bind ?_ (fun _ => ?_)
set_option maxHeartbeats 8000000 in
set_option maxRecDepth 100000 in
theorem impl_startSwapper.calls (k : Nat) (a0 : Int) (r1 : List Int) (r2 : List Int) (r3 : List Bool) (r4 : List Int) (r5 : List Int) (r6 : List Int) (w : World) (h : impl_startSwapper.f k a0 = some (r1, r2, r3, r4, r5, r6)) :
  Calls Try.prog 52 #[.int .i64 a0] w fun e w' => ∃ v0_ v1_ v2_ v3_ v4_ v5_ : Value, e = .returned (.agg #[v0_, v1_, v2_, v3_, v4_, v5_]) ∧ Kd.R (Kd.int .i64) 3 w' w.heap.size (fun k_ => some k_ ≠ (v1_ : Value).ownBlock ∧ some k_ ≠ (v3_ : Value).ownBlock ∧ some k_ ≠ (v4_ : Value).ownBlock ∧ some k_ ≠ (v5_ : Value).ownBlock) v0_ r1 ∧ Kd.R (Kd.int .i64) 3 w' w.heap.size (fun k_ => some k_ ≠ (v0_ : Value).ownBlock ∧ some k_ ≠ (v3_ : Value).ownBlock ∧ some k_ ≠ (v4_ : Value).ownBlock ∧ some k_ ≠ (v5_ : Value).ownBlock) v1_ r2 ∧ Kd.R Kd.bool 4 w' w.heap.size (fun _ => True) v2_ r3 ∧ Kd.R (Kd.int .i64) 3 w' w.heap.size (fun k_ => some k_ ≠ (v0_ : Value).ownBlock ∧ some k_ ≠ (v1_ : Value).ownBlock ∧ some k_ ≠ (v4_ : Value).ownBlock ∧ some k_ ≠ (v5_ : Value).ownBlock) v3_ r4 ∧ Kd.R (Kd.int .i64) 3 w' w.heap.size (fun k_ => some k_ ≠ (v0_ : Value).ownBlock ∧ some k_ ≠ (v1_ : Value).ownBlock ∧ some k_ ≠ (v3_ : Value).ownBlock ∧ some k_ ≠ (v5_ : Value).ownBlock) v4_ r5 ∧ Kd.R (Kd.int .i64) 3 w' w.heap.size (fun k_ => some k_ ≠ (v0_ : Value).ownBlock ∧ some k_ ≠ (v1_ : Value).ownBlock ∧ some k_ ≠ (v3_ : Value).ownBlock ∧ some k_ ≠ (v4_ : Value).ownBlock) v5_ r6 ∧ Below w.heap.size w w' := by
 have hu35 := Try.underlying35
 have HB := Ya (Below.refl w.heap.size w)
 have H : (impl_startSwapper.l0 k a0 (([] : List Int)) 2) = some (r1, r2, r3, r4, r5, r6) := h
 clear h
 obtain ⟨y304, hy304⟩ : ∃ y_ : List Int, y_ = (([] : List Int)) := ⟨_, rfl⟩
 replace H : (impl_startSwapper.l0 k a0 y304 2) = some (r1, r2, r3, r4, r5, r6) := by first | (rw [hy304]; with_reducible exact H) | (have H2_ := (Option.bind_some _ _).symm.trans H; rw [hy304]; with_reducible exact H2_) | (have H2_ := (Option.bind_some _ _).symm.trans H; with_reducible exact H2_) | with_reducible exact H | (rw [hy304]; exact H) | exact H
 have Ny304 := Ya hy304
 clear hy304
 have H' := Ya H
 clear H
 go_enter Try.func52, Try.ntmps52
 go_wp2_with (first | ((with_reducible refine gate_dst (N := 2) rfl ?_); refine Yx 2 #[.slice none 0 0, .slice none 0 0, .slice none 0 0, .slice none 0 0, .slice none 0 0, .slice none 0 0] 35 ?_; intro gb303 hg w2 hbox hb; have BK303 := Ya hbox; have GW303 := Yg hg Q0; have GE303 := GW303; replace HB := Ya (Z8 Q0 hb); clear hb hbox hg) | ((with_reducible refine gate_dst (N := 5) rfl ?_); refine Kd.R_lit (Kd.int .i64) _ 3 ?hg (N := 5) ?hd (xs := ([] : List Int)) (inner := []) (ok := fun _ => True) (okp := fun _ => True) ?hr ?hp (fun _ hk => hk) trivial (Below.refl _ _) (Nat.le_refl _) (by simp) ?_; (case hd => rfl); (case hg => rfl); (case hr => first | (go_simp; done) | (go_simp; rfl)); (case hp => exact (Reps.none _ _)); intro v305 w3 ho4 hb hg_ hnew_; clear hg_ hnew_; (first | rw [← Ny304.out] at ho4 | (simp only [Int.reduceToNat] at ho4; rw [← Ny304.out] at ho4)); have HO306 := Ya (Kd.R_lower ho4 (Z7 Q21)); replace BK303 := Yb BK303 hb; replace HB := Ya (Z8 Q21 hb); clear hb ho4))
 go_loopg [3, 4] k (fun kq v3 v4 w' => ∃ (x3_1 : List Int) (x4_1 : Int), v4 = .int .i64 x4_1 ∧ Aside0 (impl_startSwapper.l0 kq a0 x3_1 x4_1 = some (r1, r2, r3, r4, r5, r6)) ∧ Aside0 (kq ≤ k) ∧ Aside0 (Kd.R (Kd.int .i64) 3 w' w.heap.size (fun _ => True) v3 x3_1) ∧ Aside0 (w'.heap[gb303]? = some (.cells #[(.slice none 0 0), (.slice none 0 0), (.slice none 0 0), (.slice none 0 0), (.slice none 0 0), (.slice none 0 0)] 35 (0, 0))) ∧ Aside0 (Below w.heap.size w w'))
 case atStart => exact ⟨(y304), (2), Q15, H', ⟨Nat.le_refl _⟩, ⟨by (with_reducible repeat (first | apply Z9 | apply Z10 | apply Z11)); exact HO306.out⟩, ⟨by (with_reducible repeat (first | refine Z26 ?_ _ | refine Z27 ?_ | refine Z28 ?_ _)); exact BK303.out⟩, ⟨Q65⟩⟩
 case round =>
  clear H'
  try clear p2
  obtain ⟨x3_1, x4_1, rfl, HA, HK1, HO_3, BK303, HB⟩ := hrel
  cases gk with
  | zero => exact absurd HA.out (by simp [impl_startSwapper.l0])
  | succ k1 =>
   have H := HA.out
   clear HA
   simp only [impl_startSwapper.l0] at H
   by_cases c5 : x4_1 ≤ a0
   ·rw [if_pos c5] at H
    have c5b0 : decide (x4_1 ≤ a0) = true := Z39 c5
    clear c5
    by_cases c6 : x3_1.length < 17592186044416
    ·rw [if_pos c6] at H
     have LMc6 := Ya c6
     clear c6
     obtain ⟨y307, hy307⟩ : ∃ y_ : List Int, y_ = (x3_1 ++ [x4_1]) := ⟨_, rfl⟩
     replace H : (impl_startSwapper.l0 k1 a0 y307 (wrap64 (x4_1 + 1))) = some (r1, r2, r3, r4, r5, r6) := by first | (rw [hy307]; with_reducible exact H) | (have H2_ := (Option.bind_some _ _).symm.trans H; rw [hy307]; with_reducible exact H2_) | (have H2_ := (Option.bind_some _ _).symm.trans H; with_reducible exact H2_) | with_reducible exact H | (rw [hy307]; exact H) | exact H
     have Ny307 := Ya hy307
     clear hy307
     have H' := Ya H
     clear H
     go_wp2_with (first | ((with_reducible refine gate_builtin (b := .append) (xs := #[.tmp 11, .tmp 13]) rfl ?_); at_builtin; refine Kd.R_append (Kd.int .i64) (w0 := w) w.heap.size rfl (.tmp 11) (.tmp 13) 22 3 (.int .i64 0) 8 rfl Try.underlying22 info3 rfl (by decide) (by omega) u3 x3_1 x4_1 [.int .i64 x4_1] (fun _ => True) (fun _ => False) rfl rfl ?aP (fun _ hk => hk.elim) ?aF ?aO ?aB ?aS ?aL ?_; (case aP => exact rfl); (case aB => exact Q21); (case aF => exact (fun _ _ => trivial)); (case aO => exact (Yr HO_3.out)); (case aS => exact (Z7 Q21)); (case aL => have := LMc6.out; omega); intro v308 w7 ho hb hg hat; rw [← Ny307.out] at ho; replace BK303 := Ya (blk_grown (g := gb303) (o := .cells #[.slice none 0 0, .slice none 0 0, .slice none 0 0, .slice none 0 0, .slice none 0 0, .slice none 0 0] 35 (0, 0)) (Yk BK303.out) hg (Kd.R_ne HO_3.out BK303.out (by decide))); replace HB := Ya hb; have HO309 := Ya ho; clear HO_3; clear ho hb hg hat))
     go_roundg k1
     case measure => have := HK1.out; omega
     case rel => exact ⟨(y307), (wrap64 (x4_1 + 1)), Q15, H', ⟨Q55⟩, ⟨by (with_reducible repeat (first | apply Z9 | apply Z10 | apply Z11)); exact HO309.out⟩, ⟨by (with_reducible repeat (first | refine Z26 ?_ _ | refine Z27 ?_ | refine Z28 ?_ _)); exact BK303.out⟩, ⟨Q65⟩⟩
    ·rw [if_neg c6] at H
     exact absurd H (by simp)
   ·rw [if_neg c5] at H
    have c5b0 : decide (x4_1 ≤ a0) = false := Z38 c5
    clear c5
    replace H := Z37.mp H
    obtain ⟨⟨t310, t313, t316, t319⟩, A80, H⟩ := H
    replace H : ((impl_identity.f k1 a0).bind fun t322 => ((impl_identity.f k1 a0).bind fun t325 => (some (t310, t313, t316, t319, t322, t325)))) = some (r1, r2, r3, r4, r5, r6) := H
    have A8 := Ya A80
    clear A80
    replace H := Z37.mp H
    obtain ⟨t322, A90, H⟩ := H
    replace H : ((impl_identity.f k1 a0).bind fun t325 => (some (t310, t313, t316, t319, t322, t325))) = some (r1, r2, r3, r4, r5, r6) := H
    have A9 := Ya A90
    clear A90
    replace H := Z37.mp H
    obtain ⟨t325, A100, H⟩ := H
    replace H : (some (t310, t313, t316, t319, t322, t325)) = some (r1, r2, r3, r4, r5, r6) := H
    have A10 := Ya A100
    clear A100
    simp only [Option.some.injEq, Prod.mk.injEq] at H
    obtain ⟨rfl, rfl, rfl, rfl, rfl, rfl⟩ := H
    obtain ⟨Ao11, co11, eo11⟩ := Z19 HO_3.out
    subst eo11
    go_wp2_with (first | ((with_reducible refine gate_callee (f := 71) rfl ?_); refine goesL_ (some 16) rfl rfl Try.func71 (by kernel_rfl) rfl #[.slice Ao11 x3_1.length co11] rfl Q1 ?_; (with_reducible refine (impl_startFocus.calls k1 _ _ x3_1 t310 t313 t316 t319 _ ?side1 ?side2 A8.out).mono ?_); (case side1 => repeat (first | exact (Kd.R_reads' HO_3.out).2.2 | (with_reducible refine Z20 ?_ _) | (with_reducible refine Z21 ?_ _) | (with_reducible refine Z22 ?_))); (case side2 => exact (Kd.R_reads' HO_3.out).2.1); rintro e w12 ⟨v311, v314, v317, v320, rfl, ho0, ho1, ho2, ho3, hb⟩; refine ⟨_, rfl, ?_⟩; have HO312 := Ya (Kd.R_lower (Kd.R_new' ho0 (Z18 (Yr HO_3.out))) (Z7 Q21)); have HO315 := Ya (Kd.R_lower (Kd.R_new' ho1 (Z18 (Yr HO_3.out))) (Z7 Q21)); have HO318 := Ya (Kd.R_lower ho2 (Z7 Q21)); have HO321 := Ya (Kd.R_lower (Kd.R_new' ho3 (Z18 (Yr HO_3.out))) (Z7 Q21)); replace HO_3 := Ya (Z12 (Z16 (Z16 (Z16 (Z17 (Yr HO_3.out) hb) (Kd.R_base ho0)) (Kd.R_base ho1)) (Kd.R_base ho3)) (fun _ h_ => h_.1)); replace BK303 := Yb BK303 hb; replace HB := Ya (Z8 Q21 hb); (try clear hb); (try clear hb2); (try clear hk); (try clear hi); (try clear ho0); (try clear ho1); (try clear ho2); (try clear ho3)) | ((with_reducible refine gate_callee (f := 72) rfl ?_); refine goesL_ (some 18) rfl rfl Try.func72 (by kernel_rfl) rfl #[.int .i64 a0] rfl Q1 ?_; (with_reducible refine (impl_identity.calls k1 a0 t322 _ A9.out).mono ?_); rintro e w13 ⟨v323, rfl, ho0, hb⟩; refine ⟨_, rfl, ?_⟩; replace HO318 := Ya (Z14 (Yr HO318.out) hb); have HO324 := Ya (Kd.R_lower (Kd.R_new' (Kd.R_new' (Kd.R_new' (Kd.R_new' ho0 (Z18 (Yr HO_3.out))) (Z18 (Yr HO312.out))) (Z18 (Yr HO315.out))) (Z18 (Yr HO321.out))) (Z7 Q21)); replace HO_3 := Ya (Kd.R_elder' (Yr HO_3.out) (Kd.R_base ho0) hb); replace HO312 := Ya (Kd.R_elder' (Yr HO312.out) (Kd.R_base ho0) hb); replace HO315 := Ya (Kd.R_elder' (Yr HO315.out) (Kd.R_base ho0) hb); replace HO321 := Ya (Kd.R_elder' (Yr HO321.out) (Kd.R_base ho0) hb); replace BK303 := Yb BK303 hb; replace HB := Ya (Z8 Q21 hb); (try clear hb); (try clear hb2); (try clear hk); (try clear hi); (try clear ho0)) | ((with_reducible refine gate_callee (f := 72) rfl ?_); refine goesL_ (some 20) rfl rfl Try.func72 (by kernel_rfl) rfl #[.int .i64 a0] rfl Q1 ?_; (with_reducible refine (impl_identity.calls k1 a0 t325 _ A10.out).mono ?_); rintro e w14 ⟨v326, rfl, ho0, hb⟩; refine ⟨_, rfl, ?_⟩; replace HO318 := Ya (Z14 (Yr HO318.out) hb); have HO327 := Ya (Kd.R_lower (Kd.R_new' (Kd.R_new' (Kd.R_new' (Kd.R_new' (Kd.R_new' ho0 (Z18 (Yr HO_3.out))) (Z18 (Yr HO312.out))) (Z18 (Yr HO315.out))) (Z18 (Yr HO321.out))) (Z18 (Yr HO324.out))) (Z7 Q21)); replace HO_3 := Ya (Kd.R_elder' (Yr HO_3.out) (Kd.R_base ho0) hb); replace HO312 := Ya (Kd.R_elder' (Yr HO312.out) (Kd.R_base ho0) hb); replace HO315 := Ya (Kd.R_elder' (Yr HO315.out) (Kd.R_base ho0) hb); replace HO321 := Ya (Kd.R_elder' (Yr HO321.out) (Kd.R_base ho0) hb); replace HO324 := Ya (Kd.R_elder' (Yr HO324.out) (Kd.R_base ho0) hb); replace BK303 := Yb BK303 hb; replace HB := Ya (Z8 Q21 hb); (try clear hb); (try clear hb2); (try clear hk); (try clear hi); (try clear ho0); obtain ⟨Ao15, co15, eo15⟩ := Z19 HO327.out; subst eo15; obtain ⟨Ao16, co16, eo16⟩ := Z19 HO324.out; subst eo16; obtain ⟨Ao17, co17, eo17⟩ := Z19 HO321.out; subst eo17; obtain ⟨Ao18, co18, eo18⟩ := Z19 HO318.out; subst eo18; obtain ⟨Ao19, co19, eo19⟩ := Z19 HO315.out; subst eo19; obtain ⟨Ao20, co20, eo20⟩ := Z19 HO312.out; subst eo20; obtain ⟨hcz21_0, hcz21_1, hcz21_2, hcz21_3, hcz21_4, hcz21_5, hfz21_0, hfz21_1, hfz21_2, hfz21_3, hfz21_4, hfz21_5⟩ := Y6 BK303.out))
    refine bodyPost_ret (results_cell_row rfl _ _ gb303 35 #[.slice Ao20 t310.length co20, .slice Ao19 t313.length co19, .slice Ao18 t316.length co18, .slice Ao17 t319.length co17, .slice Ao16 t322.length co16, .slice Ao15 t325.length co15] (0, 0) _ rfl (by (with_reducible repeat (first | refine Z26 ?_ _ | refine Z27 ?_ | refine Z28 ?_ _)); refine Z30 (cs := #[.slice Ao20 t310.length co20, .slice Ao19 t313.length co19, .slice Ao18 t316.length co18, .slice Ao17 t319.length co17, .slice Ao16 t322.length co16, .slice none 0 0]) ?_ 5 _ rfl; (with_reducible repeat (first | refine Z26 ?_ _ | refine Z27 ?_ | refine Z28 ?_ _)); refine Z30 (cs := #[.slice Ao20 t310.length co20, .slice Ao19 t313.length co19, .slice Ao18 t316.length co18, .slice Ao17 t319.length co17, .slice none 0 0, .slice none 0 0]) ?_ 4 _ rfl; (with_reducible repeat (first | refine Z26 ?_ _ | refine Z27 ?_ | refine Z28 ?_ _)); refine Z30 (cs := #[.slice Ao20 t310.length co20, .slice Ao19 t313.length co19, .slice Ao18 t316.length co18, .slice none 0 0, .slice none 0 0, .slice none 0 0]) ?_ 3 _ rfl; (with_reducible repeat (first | refine Z26 ?_ _ | refine Z27 ?_ | refine Z28 ?_ _)); refine Z30 (cs := #[.slice Ao20 t310.length co20, .slice Ao19 t313.length co19, .slice none 0 0, .slice none 0 0, .slice none 0 0, .slice none 0 0]) ?_ 2 _ rfl; (with_reducible repeat (first | refine Z26 ?_ _ | refine Z27 ?_ | refine Z28 ?_ _)); refine Z30 (cs := #[.slice Ao20 t310.length co20, .slice none 0 0, .slice none 0 0, .slice none 0 0, .slice none 0 0, .slice none 0 0]) ?_ 1 _ rfl; (with_reducible repeat (first | refine Z26 ?_ _ | refine Z27 ?_ | refine Z28 ?_ _)); refine Z30 (cs := #[.slice none 0 0, .slice none 0 0, .slice none 0 0, .slice none 0 0, .slice none 0 0, .slice none 0 0]) ?_ 0 _ rfl; (with_reducible repeat (first | refine Z26 ?_ _ | refine Z27 ?_ | refine Z28 ?_ _)); exact BK303.out) Try.underlying35 rfl (by kernel_rfl)) rfl ?_
    exact ⟨_, _, _, _, _, _, Q9, by (with_reducible repeat (first | apply Z9 | apply Z10 | apply Z11)); exact Z12 (Z13 (p := ⟨gb303, 5, none⟩) (Z13 (p := ⟨gb303, 4, none⟩) (Z13 (p := ⟨gb303, 3, none⟩) (Z13 (p := ⟨gb303, 2, none⟩) (Z13 (p := ⟨gb303, 1, none⟩) (Z13 (p := ⟨gb303, 0, none⟩) (Z15 HO312.out BK303.out (by decide)) (fun _ hk => hk.2) (.slice Ao20 t310.length co20)) (fun _ hk => hk.2) (.slice Ao19 t313.length co19)) (fun _ hk => hk.2) (.slice Ao18 t316.length co18)) (fun _ hk => hk.2) (.slice Ao17 t319.length co17)) (fun _ hk => hk.2) (.slice Ao16 t322.length co16)) (fun _ hk => hk.2) (.slice Ao15 t325.length co15)) (fun _ hk => ⟨hk.1.1.1.1.1, ⟨hk.1.1.1.1.2, ⟨hk.1.1.2, hk.1.2⟩⟩⟩), by (with_reducible repeat (first | apply Z9 | apply Z10 | apply Z11)); exact Z12 (Z13 (p := ⟨gb303, 5, none⟩) (Z13 (p := ⟨gb303, 4, none⟩) (Z13 (p := ⟨gb303, 3, none⟩) (Z13 (p := ⟨gb303, 2, none⟩) (Z13 (p := ⟨gb303, 1, none⟩) (Z13 (p := ⟨gb303, 0, none⟩) (Z15 HO315.out BK303.out (by decide)) (fun _ hk => hk.2) (.slice Ao20 t310.length co20)) (fun _ hk => hk.2) (.slice Ao19 t313.length co19)) (fun _ hk => hk.2) (.slice Ao18 t316.length co18)) (fun _ hk => hk.2) (.slice Ao17 t319.length co17)) (fun _ hk => hk.2) (.slice Ao16 t322.length co16)) (fun _ hk => hk.2) (.slice Ao15 t325.length co15)) (fun _ hk => ⟨hk.1.1.1.1.1, ⟨hk.1.1.1.1.2, ⟨hk.1.1.2, hk.1.2⟩⟩⟩), by (with_reducible repeat (first | apply Z9 | apply Z10 | apply Z11)); exact Z12 (Z13 (p := ⟨gb303, 5, none⟩) (Z13 (p := ⟨gb303, 4, none⟩) (Z13 (p := ⟨gb303, 3, none⟩) (Z13 (p := ⟨gb303, 2, none⟩) (Z13 (p := ⟨gb303, 1, none⟩) (Z13 (p := ⟨gb303, 0, none⟩) (Z15 HO318.out BK303.out (by decide)) (fun _ hk => hk.2) (.slice Ao20 t310.length co20)) (fun _ hk => hk.2) (.slice Ao19 t313.length co19)) (fun _ hk => hk.2) (.slice Ao18 t316.length co18)) (fun _ hk => hk.2) (.slice Ao17 t319.length co17)) (fun _ hk => hk.2) (.slice Ao16 t322.length co16)) (fun _ hk => hk.2) (.slice Ao15 t325.length co15)) (fun _ hk => trivial), by (with_reducible repeat (first | apply Z9 | apply Z10 | apply Z11)); exact Z12 (Z13 (p := ⟨gb303, 5, none⟩) (Z13 (p := ⟨gb303, 4, none⟩) (Z13 (p := ⟨gb303, 3, none⟩) (Z13 (p := ⟨gb303, 2, none⟩) (Z13 (p := ⟨gb303, 1, none⟩) (Z13 (p := ⟨gb303, 0, none⟩) (Z15 HO321.out BK303.out (by decide)) (fun _ hk => hk.2) (.slice Ao20 t310.length co20)) (fun _ hk => hk.2) (.slice Ao19 t313.length co19)) (fun _ hk => hk.2) (.slice Ao18 t316.length co18)) (fun _ hk => hk.2) (.slice Ao17 t319.length co17)) (fun _ hk => hk.2) (.slice Ao16 t322.length co16)) (fun _ hk => hk.2) (.slice Ao15 t325.length co15)) (fun _ hk => ⟨hk.1.1.1.1.1, ⟨hk.1.1.1.1.2, ⟨hk.1.1.2, hk.1.2⟩⟩⟩), by (with_reducible repeat (first | apply Z9 | apply Z10 | apply Z11)); exact Z12 (Z13 (p := ⟨gb303, 5, none⟩) (Z13 (p := ⟨gb303, 4, none⟩) (Z13 (p := ⟨gb303, 3, none⟩) (Z13 (p := ⟨gb303, 2, none⟩) (Z13 (p := ⟨gb303, 1, none⟩) (Z13 (p := ⟨gb303, 0, none⟩) (Z15 HO324.out BK303.out (by decide)) (fun _ hk => hk.2) (.slice Ao20 t310.length co20)) (fun _ hk => hk.2) (.slice Ao19 t313.length co19)) (fun _ hk => hk.2) (.slice Ao18 t316.length co18)) (fun _ hk => hk.2) (.slice Ao17 t319.length co17)) (fun _ hk => hk.2) (.slice Ao16 t322.length co16)) (fun _ hk => hk.2) (.slice Ao15 t325.length co15)) (fun _ hk => ⟨hk.1.1.1.1.2, ⟨hk.1.1.1.2, ⟨hk.1.1.2, hk.1.2⟩⟩⟩), by (with_reducible repeat (first | apply Z9 | apply Z10 | apply Z11)); exact Z12 (Z13 (p := ⟨gb303, 5, none⟩) (Z13 (p := ⟨gb303, 4, none⟩) (Z13 (p := ⟨gb303, 3, none⟩) (Z13 (p := ⟨gb303, 2, none⟩) (Z13 (p := ⟨gb303, 1, none⟩) (Z13 (p := ⟨gb303, 0, none⟩) (Z15 HO327.out BK303.out (by decide)) (fun _ hk => hk.2) (.slice Ao20 t310.length co20)) (fun _ hk => hk.2) (.slice Ao19 t313.length co19)) (fun _ hk => hk.2) (.slice Ao18 t316.length co18)) (fun _ hk => hk.2) (.slice Ao17 t319.length co17)) (fun _ hk => hk.2) (.slice Ao16 t322.length co16)) (fun _ hk => hk.2) (.slice Ao15 t325.length co15)) (fun _ hk => ⟨hk.1.1.1.1.2, ⟨hk.1.1.1.2, ⟨hk.1.1.2, hk.1.2⟩⟩⟩), Q65⟩

end Go.Proofs.Ytpfakdhfffehaaa.MFnExactSwapperAt
