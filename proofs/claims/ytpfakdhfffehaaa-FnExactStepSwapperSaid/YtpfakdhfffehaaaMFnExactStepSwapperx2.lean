import Derived.Test.YtpfakdhfffehaaaMFnExactStepSwapperx0
import Derived.Test.YtpfakdhfffehaaaMFnExactStepSwapperx1
namespace Go.Proofs.Ytpfakdhfffehaaa.MFnExactStepSwapper
open Go.RowKit Go.Proofs.YtpfakdhfffehaaaW.PrintWords Go.Proofs.YtpfakdhfffehaaaW.PrintLast Go.Proofs.YtpfakdhfffehaaaW.PrintMore
attribute [local go_sem] max2_int min2_int max_two min_two max_three min_three max_four min_four   
set_option linter.unusedVariables false
set_option linter.unusedSimpArgs false
def laws_markSwapper.f (k : Nat) (l0_0 : List Int) (l0_1 : List Int) (l0_2 : List Bool) (l0_3 : List Int) (l0_4 : List Int) (l0_5 : List Int) (a1 : Int) : Option (Int × List Int × List Int × List Bool × List Int × List Int × List Int) := (laws_markFocus.f k l0_0 l0_1 l0_2 l0_3 a1).bind fun bt128 => ((laws_markIntS.f k l0_4 bt128.1).bind fun bt133 => ((laws_markIntS.f k l0_5 bt133.1).bind fun bt135 => (some (bt135.1, bt128.2.1, bt128.2.2.1, bt128.2.2.2.1, bt128.2.2.2.2, bt133.2, bt135.2))))
theorem laws_markSwapper.mono : ∀ a0 a1 a2 a3 a4 a5 a6 k, LeO (laws_markSwapper.f k a0 a1 a2 a3 a4 a5 a6) (laws_markSwapper.f (k + 1) a0 a1 a2 a3 a4 a5 a6) := by
 intro a0 a1 a2 a3 a4 a5 a6 k
 unfold laws_markSwapper.f
 repeat' first
   | (with_reducible exact laws_markFocus.mono _ _ _ _ _ _)
   | (with_reducible exact laws_markIntS.mono _ _ _)
   | (with_reducible exact LeO.refl _)
   | (with_reducible exact LeO.none _)
   | (with_reducible refine LeO.ite ?_ ?_)
   | (with_reducible refine LeO.bind ?_ (fun _ => ?_))
   | exact laws_markFocus.mono _ _ _ _ _ _
   | exact laws_markIntS.mono _ _ _
   | exact LeO.none _
   | refine LeO.ite ?_ ?_
   | refine LeO.bind ?_ (fun _ => ?_)
set_option maxHeartbeats 8000000 in
set_option maxRecDepth 100000 in
theorem laws_markSwapper.calls (k : Nat) (P0_0_ : Nat → Prop) (u9000_ : Value) (l0_0 : List Int) (P0_1_ : Nat → Prop) (u9001_ : Value) (l0_1 : List Int) (P0_2_ : Nat → Prop) (u9002_ : Value) (l0_2 : List Bool) (P0_3_ : Nat → Prop) (u9003_ : Value) (l0_3 : List Int) (P0_4_ : Nat → Prop) (u9004_ : Value) (l0_4 : List Int) (P0_5_ : Nat → Prop) (u9005_ : Value) (l0_5 : List Int) (a1 : Int) (r1 : Int) (r2 : List Int) (r3 : List Int) (r4 : List Bool) (r5 : List Int) (r6 : List Int) (r7 : List Int) (w0 w : World) (hB : Below w0.heap.size w0 w) (ho0_0 : Kd.R (Kd.int .i64) 3 w w0.heap.size P0_0_ u9000_ l0_0) (hp0_0_0_1 : ∀ k_, P0_0_ k_ → ¬ P0_1_ k_) (hp0_0_0_3 : ∀ k_, P0_0_ k_ → ¬ P0_3_ k_) (hp0_0_0_4 : ∀ k_, P0_0_ k_ → ¬ P0_4_ k_) (hp0_0_0_5 : ∀ k_, P0_0_ k_ → ¬ P0_5_ k_) (ho0_1 : Kd.R (Kd.int .i64) 3 w w0.heap.size P0_1_ u9001_ l0_1) (hp0_1_0_0 : ∀ k_, P0_1_ k_ → ¬ P0_0_ k_) (hp0_1_0_3 : ∀ k_, P0_1_ k_ → ¬ P0_3_ k_) (hp0_1_0_4 : ∀ k_, P0_1_ k_ → ¬ P0_4_ k_) (hp0_1_0_5 : ∀ k_, P0_1_ k_ → ¬ P0_5_ k_) (ho0_2 : Kd.R Kd.bool 4 w w0.heap.size P0_2_ u9002_ l0_2) (ho0_3 : Kd.R (Kd.int .i64) 3 w w0.heap.size P0_3_ u9003_ l0_3) (hp0_3_0_0 : ∀ k_, P0_3_ k_ → ¬ P0_0_ k_) (hp0_3_0_1 : ∀ k_, P0_3_ k_ → ¬ P0_1_ k_) (hp0_3_0_4 : ∀ k_, P0_3_ k_ → ¬ P0_4_ k_) (hp0_3_0_5 : ∀ k_, P0_3_ k_ → ¬ P0_5_ k_) (ho0_4 : Kd.R (Kd.int .i64) 3 w w0.heap.size P0_4_ u9004_ l0_4) (hp0_4_0_0 : ∀ k_, P0_4_ k_ → ¬ P0_0_ k_) (hp0_4_0_1 : ∀ k_, P0_4_ k_ → ¬ P0_1_ k_) (hp0_4_0_3 : ∀ k_, P0_4_ k_ → ¬ P0_3_ k_) (hp0_4_0_5 : ∀ k_, P0_4_ k_ → ¬ P0_5_ k_) (ho0_5 : Kd.R (Kd.int .i64) 3 w w0.heap.size P0_5_ u9005_ l0_5) (hp0_5_0_0 : ∀ k_, P0_5_ k_ → ¬ P0_0_ k_) (hp0_5_0_1 : ∀ k_, P0_5_ k_ → ¬ P0_1_ k_) (hp0_5_0_3 : ∀ k_, P0_5_ k_ → ¬ P0_3_ k_) (hp0_5_0_4 : ∀ k_, P0_5_ k_ → ¬ P0_4_ k_) (h : laws_markSwapper.f k l0_0 l0_1 l0_2 l0_3 l0_4 l0_5 a1 = some (r1, r2, r3, r4, r5, r6, r7)) :
  Calls Try.prog 18 #[.agg #[u9000_, u9001_, u9002_, u9003_, u9004_, u9005_], .int .i64 a1] w fun e w' => e = .returned (.int .i64 r1) ∧ Kd.R (Kd.int .i64) 3 w' w0.heap.size (fun k_ => ((P0_0_ k_ ∨ P0_1_ k_ ∨ P0_2_ k_ ∨ P0_3_ k_ ∨ P0_4_ k_ ∨ P0_5_ k_) ∨ w.heap.size ≤ k_)) u9000_ r2 ∧ Kd.R (Kd.int .i64) 3 w' w0.heap.size (fun k_ => ((P0_0_ k_ ∨ P0_1_ k_ ∨ P0_2_ k_ ∨ P0_3_ k_ ∨ P0_4_ k_ ∨ P0_5_ k_) ∨ w.heap.size ≤ k_)) u9001_ r3 ∧ Kd.R Kd.bool 4 w' w0.heap.size (fun k_ => ((P0_0_ k_ ∨ P0_1_ k_ ∨ P0_2_ k_ ∨ P0_3_ k_ ∨ P0_4_ k_ ∨ P0_5_ k_) ∨ w.heap.size ≤ k_)) u9002_ r4 ∧ Kd.R (Kd.int .i64) 3 w' w0.heap.size (fun k_ => ((P0_0_ k_ ∨ P0_1_ k_ ∨ P0_2_ k_ ∨ P0_3_ k_ ∨ P0_4_ k_ ∨ P0_5_ k_) ∨ w.heap.size ≤ k_)) u9003_ r5 ∧ Kd.R (Kd.int .i64) 3 w' w0.heap.size (fun k_ => ((P0_0_ k_ ∨ P0_1_ k_ ∨ P0_2_ k_ ∨ P0_3_ k_ ∨ P0_4_ k_ ∨ P0_5_ k_) ∨ w.heap.size ≤ k_)) u9004_ r6 ∧ Kd.R (Kd.int .i64) 3 w' w0.heap.size (fun k_ => ((P0_0_ k_ ∨ P0_1_ k_ ∨ P0_2_ k_ ∨ P0_3_ k_ ∨ P0_4_ k_ ∨ P0_5_ k_) ∨ w.heap.size ≤ k_)) u9005_ r7 ∧ Below w0.heap.size w0 w' ∧ Kept w w' (fun k_ => P0_0_ k_ ∨ P0_1_ k_ ∨ P0_2_ k_ ∨ P0_3_ k_ ∨ P0_4_ k_ ∨ P0_5_ k_) := by
 have hu35 := Try.underlying35
 have hu27 := Try.underlying27
 have HO0_0 := Ya (show Kd.R (Kd.int .i64) 3 w w0.heap.size (fun k_ => ((P0_0_ k_ ∨ P0_1_ k_ ∨ P0_2_ k_ ∨ P0_3_ k_ ∨ P0_4_ k_ ∨ P0_5_ k_) ∨ w.heap.size ≤ k_) ∧ some k_ ≠ (u9001_ : Value).ownBlock ∧ some k_ ≠ (u9003_ : Value).ownBlock ∧ some k_ ≠ (u9004_ : Value).ownBlock ∧ some k_ ≠ (u9005_ : Value).ownBlock) u9000_ l0_0 from Z12 ho0_0 (fun k_ hk => ⟨(.inl (.inl hk)), fun e_ => hp0_0_0_1 k_ hk (ho0_1.1 k_ e_.symm), fun e_ => hp0_0_0_3 k_ hk (ho0_3.1 k_ e_.symm), fun e_ => hp0_0_0_4 k_ hk (ho0_4.1 k_ e_.symm), fun e_ => hp0_0_0_5 k_ hk (ho0_5.1 k_ e_.symm)⟩))
 have HO0_1 := Ya (show Kd.R (Kd.int .i64) 3 w w0.heap.size (fun k_ => ((P0_0_ k_ ∨ P0_1_ k_ ∨ P0_2_ k_ ∨ P0_3_ k_ ∨ P0_4_ k_ ∨ P0_5_ k_) ∨ w.heap.size ≤ k_) ∧ some k_ ≠ (u9000_ : Value).ownBlock ∧ some k_ ≠ (u9003_ : Value).ownBlock ∧ some k_ ≠ (u9004_ : Value).ownBlock ∧ some k_ ≠ (u9005_ : Value).ownBlock) u9001_ l0_1 from Z12 ho0_1 (fun k_ hk => ⟨(.inl (.inr (.inl hk))), fun e_ => hp0_1_0_0 k_ hk (ho0_0.1 k_ e_.symm), fun e_ => hp0_1_0_3 k_ hk (ho0_3.1 k_ e_.symm), fun e_ => hp0_1_0_4 k_ hk (ho0_4.1 k_ e_.symm), fun e_ => hp0_1_0_5 k_ hk (ho0_5.1 k_ e_.symm)⟩))
 have HO0_2 := Ya (show Kd.R Kd.bool 4 w w0.heap.size (fun k_ => ((P0_0_ k_ ∨ P0_1_ k_ ∨ P0_2_ k_ ∨ P0_3_ k_ ∨ P0_4_ k_ ∨ P0_5_ k_) ∨ w.heap.size ≤ k_)) u9002_ l0_2 from Z12 ho0_2 (fun k_ hk => (.inl (.inr (.inr (.inl hk))))))
 have HO0_3 := Ya (show Kd.R (Kd.int .i64) 3 w w0.heap.size (fun k_ => ((P0_0_ k_ ∨ P0_1_ k_ ∨ P0_2_ k_ ∨ P0_3_ k_ ∨ P0_4_ k_ ∨ P0_5_ k_) ∨ w.heap.size ≤ k_) ∧ some k_ ≠ (u9000_ : Value).ownBlock ∧ some k_ ≠ (u9001_ : Value).ownBlock ∧ some k_ ≠ (u9004_ : Value).ownBlock ∧ some k_ ≠ (u9005_ : Value).ownBlock) u9003_ l0_3 from Z12 ho0_3 (fun k_ hk => ⟨(.inl (.inr (.inr (.inr (.inl hk))))), fun e_ => hp0_3_0_0 k_ hk (ho0_0.1 k_ e_.symm), fun e_ => hp0_3_0_1 k_ hk (ho0_1.1 k_ e_.symm), fun e_ => hp0_3_0_4 k_ hk (ho0_4.1 k_ e_.symm), fun e_ => hp0_3_0_5 k_ hk (ho0_5.1 k_ e_.symm)⟩))
 have HO0_4 := Ya (show Kd.R (Kd.int .i64) 3 w w0.heap.size (fun k_ => ((P0_0_ k_ ∨ P0_1_ k_ ∨ P0_2_ k_ ∨ P0_3_ k_ ∨ P0_4_ k_ ∨ P0_5_ k_) ∨ w.heap.size ≤ k_) ∧ some k_ ≠ (u9000_ : Value).ownBlock ∧ some k_ ≠ (u9001_ : Value).ownBlock ∧ some k_ ≠ (u9003_ : Value).ownBlock ∧ some k_ ≠ (u9005_ : Value).ownBlock) u9004_ l0_4 from Z12 ho0_4 (fun k_ hk => ⟨(.inl (.inr (.inr (.inr (.inr (.inl hk)))))), fun e_ => hp0_4_0_0 k_ hk (ho0_0.1 k_ e_.symm), fun e_ => hp0_4_0_1 k_ hk (ho0_1.1 k_ e_.symm), fun e_ => hp0_4_0_3 k_ hk (ho0_3.1 k_ e_.symm), fun e_ => hp0_4_0_5 k_ hk (ho0_5.1 k_ e_.symm)⟩))
 have HO0_5 := Ya (show Kd.R (Kd.int .i64) 3 w w0.heap.size (fun k_ => ((P0_0_ k_ ∨ P0_1_ k_ ∨ P0_2_ k_ ∨ P0_3_ k_ ∨ P0_4_ k_ ∨ P0_5_ k_) ∨ w.heap.size ≤ k_) ∧ some k_ ≠ (u9000_ : Value).ownBlock ∧ some k_ ≠ (u9001_ : Value).ownBlock ∧ some k_ ≠ (u9003_ : Value).ownBlock ∧ some k_ ≠ (u9004_ : Value).ownBlock) u9005_ l0_5 from Z12 ho0_5 (fun k_ hk => ⟨(.inl (.inr (.inr (.inr (.inr (.inr hk)))))), fun e_ => hp0_5_0_0 k_ hk (ho0_0.1 k_ e_.symm), fun e_ => hp0_5_0_1 k_ hk (ho0_1.1 k_ e_.symm), fun e_ => hp0_5_0_3 k_ hk (ho0_3.1 k_ e_.symm), fun e_ => hp0_5_0_4 k_ hk (ho0_4.1 k_ e_.symm)⟩))
 have HK := Ya (Kept.refl w (fun k_ => P0_0_ k_ ∨ P0_1_ k_ ∨ P0_2_ k_ ∨ P0_3_ k_ ∨ P0_4_ k_ ∨ P0_5_ k_))
 have HW0 := Ya hB.size
 have HB := Ya hB
 clear hB
 have H : ((laws_markFocus.f k l0_0 l0_1 l0_2 l0_3 a1).bind fun bt128 => ((laws_markIntS.f k l0_4 bt128.1).bind fun bt133 => ((laws_markIntS.f k l0_5 bt133.1).bind fun bt135 => (some (bt135.1, bt128.2.1, bt128.2.2.1, bt128.2.2.2.1, bt128.2.2.2.2, bt133.2, bt135.2))))) = some (r1, r2, r3, r4, r5, r6, r7) := h
 clear h
 replace H := Z36.mp H
 obtain ⟨⟨t128, t129, t130, t131, t132⟩, A30, H⟩ := H
 replace H : ((laws_markIntS.f k l0_4 t128).bind fun bt133 => ((laws_markIntS.f k l0_5 bt133.1).bind fun bt135 => (some (bt135.1, t129, t130, t131, t132, bt133.2, bt135.2)))) = some (r1, r2, r3, r4, r5, r6, r7) := H
 have A3 := Ya A30
 clear A30
 replace H := Z36.mp H
 obtain ⟨⟨t133, t134⟩, A40, H⟩ := H
 replace H : ((laws_markIntS.f k l0_5 t133).bind fun bt135 => (some (bt135.1, t129, t130, t131, t132, t134, bt135.2))) = some (r1, r2, r3, r4, r5, r6, r7) := H
 have A4 := Ya A40
 clear A40
 replace H := Z36.mp H
 obtain ⟨⟨t135, t136⟩, A50, H⟩ := H
 replace H : (some (t135, t129, t130, t131, t132, t134, t136)) = some (r1, r2, r3, r4, r5, r6, r7) := H
 have A5 := Ya A50
 clear A50
 simp only [Option.some.injEq, Prod.mk.injEq] at H
 obtain ⟨rfl, rfl, rfl, rfl, rfl, rfl, rfl⟩ := H
 obtain ⟨Ao6, co6, rfl⟩ := Z19 HO0_0.out
 obtain ⟨Ao7, co7, rfl⟩ := Z19 HO0_1.out
 obtain ⟨Ao8, co8, rfl⟩ := Z19 HO0_2.out
 obtain ⟨Ao9, co9, rfl⟩ := Z19 HO0_3.out
 obtain ⟨Ao10, co10, rfl⟩ := Z19 HO0_4.out
 obtain ⟨Ao11, co11, rfl⟩ := Z19 HO0_5.out
 go_enter Try.func18, Try.ntmps18
 go_wp2_with (first | ((with_reducible refine gate_dst (N := 2) rfl ?_); refine Yx 2 #[.slice Ao6 l0_0.length co6, .slice Ao7 l0_1.length co7, .slice Ao8 l0_2.length co8, .slice Ao9 l0_3.length co9, .slice Ao10 l0_4.length co10, .slice Ao11 l0_5.length co11] 35 ?_; intro gb127 hg w12 hbox hb; replace HO0_0 := Yw HO0_0 hb; replace HO0_1 := Yw HO0_1 hb; replace HO0_2 := Yw HO0_2 hb; replace HO0_3 := Yw HO0_3 hb; replace HO0_4 := Yw HO0_4 hb; replace HO0_5 := Yw HO0_5 hb; have BK127 := Ya hbox; have GW127 := Ya ((by rw [hg]; exact (by first | exact HK.out.1 | exact (show Kept w _ (fun k_ => P0_0_ k_ ∨ P0_1_ k_ ∨ P0_2_ k_ ∨ P0_3_ k_ ∨ P0_4_ k_ ∨ P0_5_ k_) from by repeat (first | (with_reducible first | exact HK.out | apply Kept.alloc | apply Kept.drewN | apply Kept.drew) | exact HK.out)).1) : w.heap.size ≤ gb127)); replace HK := Ya (Kept.below (S := (fun k_ => P0_0_ k_ ∨ P0_1_ k_ ∨ P0_2_ k_ ∨ P0_3_ k_ ∨ P0_4_ k_ ∨ P0_5_ k_)) Q32 hb); have GE127 := Yg hg; replace HB := Yh hb; clear hb hbox hg; obtain ⟨hcz13_0, hcz13_1, hcz13_2, hcz13_3, hcz13_4, hcz13_5, hfz13_0, hfz13_1, hfz13_2, hfz13_3, hfz13_4, hfz13_5⟩ := Y6 BK127.out) | ((with_reducible refine gate_callee (f := 13) rfl ?_); refine Yz 8 Try.func13 #[.agg #[.slice Ao6 l0_0.length co6, .slice Ao7 l0_1.length co7, .slice Ao8 l0_2.length co8, .slice Ao9 l0_3.length co9], .int .i64 a1] ?_; (with_reducible refine (laws_markFocus.calls k (fun k_ => some k_ = (.slice Ao6 l0_0.length co6 : Value).ownBlock) (.slice Ao6 l0_0.length co6) l0_0 (fun k_ => some k_ = (.slice Ao7 l0_1.length co7 : Value).ownBlock) (.slice Ao7 l0_1.length co7) l0_1 (fun k_ => some k_ = (.slice Ao8 l0_2.length co8 : Value).ownBlock) (.slice Ao8 l0_2.length co8) l0_2 (fun k_ => some k_ = (.slice Ao9 l0_3.length co9 : Value).ownBlock) (.slice Ao9 l0_3.length co9) l0_3 a1 t128 t129 t130 t131 t132 w0 _ ?side1 (Kd.R_tight rfl HO0_0.out) ?side3 ?side4 (Kd.R_tight rfl HO0_1.out) ?side6 ?side7 (Kd.R_tight rfl HO0_2.out) (Kd.R_tight rfl HO0_3.out) ?side10 ?side11 A3.out).mono ?_); (case side1 => repeat (first | (with_reducible first | exact HB.out | apply Z5 | apply Z3 | apply Z4 | refine Z6 ?_ (Aside0.out (by assumption))) | exact HB.out)); (case side3 => exact fun k_ e_ => (HO0_0.out.1 k_ e_.symm).2.1); (case side4 => exact fun k_ e_ => (HO0_0.out.1 k_ e_.symm).2.2.1); (case side6 => exact fun k_ e_ => (HO0_1.out.1 k_ e_.symm).2.1); (case side7 => exact fun k_ e_ => (HO0_1.out.1 k_ e_.symm).2.2.1); (case side10 => exact fun k_ e_ => (HO0_3.out.1 k_ e_.symm).2.1); (case side11 => exact fun k_ e_ => (HO0_3.out.1 k_ e_.symm).2.2.1); rintro e w14 ⟨rfl, hy0, hy1, hy2, hy3, hb, hkp⟩; refine ⟨_, rfl, ?_⟩; replace HO0_4 := Ya (Z12 (ok' := fun k_ => ((P0_0_ k_ ∨ P0_1_ k_ ∨ P0_2_ k_ ∨ P0_3_ k_ ∨ P0_4_ k_ ∨ P0_5_ k_) ∨ w.heap.size ≤ k_) ∧ some k_ ≠ (.slice Ao6 l0_0.length co6 : Value).ownBlock ∧ some k_ ≠ (.slice Ao7 l0_1.length co7 : Value).ownBlock ∧ some k_ ≠ (.slice Ao9 l0_3.length co9 : Value).ownBlock ∧ some k_ ≠ (.slice Ao11 l0_5.length co11 : Value).ownBlock) (Kd.R_keptB ((Kd.R_apart' HO0_4.out (Kd.R_typed HO0_2.out) (by decide))) hkp (fun k_ hk_ hs_ => Or.elim hs_ (fun e_ => (hk_.1.2.1) e_) (fun e_ => Or.elim e_ (fun e_ => (hk_.1.2.2.1) e_) (fun e_ => Or.elim e_ (fun e_ => (hk_.2) e_) (fun e_ => (hk_.1.2.2.2.1) e_))))) (fun k_ hk_ => ⟨hk_.1.1.1, hk_.1.1.2.1, hk_.1.1.2.2.1, hk_.1.1.2.2.2.1, hk_.1.1.2.2.2.2⟩)); replace HO0_5 := Ya (Z12 (ok' := fun k_ => ((P0_0_ k_ ∨ P0_1_ k_ ∨ P0_2_ k_ ∨ P0_3_ k_ ∨ P0_4_ k_ ∨ P0_5_ k_) ∨ w.heap.size ≤ k_) ∧ some k_ ≠ (.slice Ao6 l0_0.length co6 : Value).ownBlock ∧ some k_ ≠ (.slice Ao7 l0_1.length co7 : Value).ownBlock ∧ some k_ ≠ (.slice Ao9 l0_3.length co9 : Value).ownBlock ∧ some k_ ≠ (.slice Ao10 l0_4.length co10 : Value).ownBlock) (Kd.R_keptB ((Kd.R_apart' HO0_5.out (Kd.R_typed HO0_2.out) (by decide))) hkp (fun k_ hk_ hs_ => Or.elim hs_ (fun e_ => (hk_.1.2.1) e_) (fun e_ => Or.elim e_ (fun e_ => (hk_.1.2.2.1) e_) (fun e_ => Or.elim e_ (fun e_ => (hk_.2) e_) (fun e_ => (hk_.1.2.2.2.1) e_))))) (fun k_ hk_ => ⟨hk_.1.1.1, hk_.1.1.2.1, hk_.1.1.2.2.1, hk_.1.1.2.2.2.1, hk_.1.1.2.2.2.2⟩)); replace BK127 := Ya (blk_kept (Yk BK127.out) hkp (fun hs_ => Or.elim hs_ (fun e_ => (fun e_ => (Kd.R_ne HO0_0.out BK127.out (by decide)) e_) e_) (fun e_ => Or.elim e_ (fun e_ => (fun e_ => (Kd.R_ne HO0_1.out BK127.out (by decide)) e_) e_) (fun e_ => Or.elim e_ (fun e_ => (fun e_ => (Kd.R_ne HO0_2.out BK127.out (by decide)) e_) e_) (fun e_ => (fun e_ => (Kd.R_ne HO0_3.out BK127.out (by decide)) e_) e_))))); replace HK := Ya (Kept.then_ (S := (fun k_ => P0_0_ k_ ∨ P0_1_ k_ ∨ P0_2_ k_ ∨ P0_3_ k_ ∨ P0_4_ k_ ∨ P0_5_ k_)) Q34 hkp (fun k_ hs_ => Or.elim hs_ (fun e_ => (fun e_ => (HO0_0.out.1 k_ e_.symm).1) e_) (fun e_ => Or.elim e_ (fun e_ => (fun e_ => (HO0_1.out.1 k_ e_.symm).1) e_) (fun e_ => Or.elim e_ (fun e_ => (fun e_ => (HO0_2.out.1 k_ e_.symm)) e_) (fun e_ => (fun e_ => (HO0_3.out.1 k_ e_.symm).1) e_))))); replace HO0_0 := Ya (Kd.R_reok rfl hy0 (fun k_ e_ => HO0_0.out.1 k_ e_)); replace HO0_1 := Ya (Kd.R_reok rfl hy1 (fun k_ e_ => HO0_1.out.1 k_ e_)); replace HO0_2 := Ya (Kd.R_reok rfl hy2 (fun k_ e_ => HO0_2.out.1 k_ e_)); replace HO0_3 := Ya (Kd.R_reok rfl hy3 (fun k_ e_ => HO0_3.out.1 k_ e_)); replace HB := Ya hb; (try clear hb hkp hy0 hy1 hy2 hy3); have hz15 := Y6 BK127.out) | ((with_reducible refine gate_callee (f := 39) rfl ?_); refine Yz 12 Try.func39 #[.slice Ao10 l0_4.length co10, .int .i64 t128] ?_; (with_reducible refine (laws_markIntS.calls k (fun k_ => some k_ = (.slice Ao10 l0_4.length co10 : Value).ownBlock) (.slice Ao10 l0_4.length co10) l0_4 t128 t133 t134 w0 _ ?side1 (Kd.R_tight rfl HO0_4.out) A4.out).mono ?_); (case side1 => repeat (first | (with_reducible first | exact HB.out | apply Z5 | apply Z3 | apply Z4 | refine Z6 ?_ (Aside0.out (by assumption))) | exact HB.out)); rintro e w16 ⟨rfl, hy0, hb, hkp⟩; refine ⟨_, rfl, ?_⟩; replace HO0_0 := Ya (Z12 (ok' := fun k_ => ((P0_0_ k_ ∨ P0_1_ k_ ∨ P0_2_ k_ ∨ P0_3_ k_ ∨ P0_4_ k_ ∨ P0_5_ k_) ∨ w.heap.size ≤ k_) ∧ some k_ ≠ (.slice Ao7 l0_1.length co7 : Value).ownBlock ∧ some k_ ≠ (.slice Ao9 l0_3.length co9 : Value).ownBlock ∧ some k_ ≠ (.slice Ao10 l0_4.length co10 : Value).ownBlock ∧ some k_ ≠ (.slice Ao11 l0_5.length co11 : Value).ownBlock) (Kd.R_keptB (HO0_0.out) hkp (fun k_ hk_ hs_ => (hk_.2.2.2.1) hs_)) (fun k_ hk_ => ⟨hk_.1.1, hk_.1.2.1, hk_.1.2.2.1, hk_.1.2.2.2.1, hk_.1.2.2.2.2⟩)); replace HO0_1 := Ya (Z12 (ok' := fun k_ => ((P0_0_ k_ ∨ P0_1_ k_ ∨ P0_2_ k_ ∨ P0_3_ k_ ∨ P0_4_ k_ ∨ P0_5_ k_) ∨ w.heap.size ≤ k_) ∧ some k_ ≠ (.slice Ao6 l0_0.length co6 : Value).ownBlock ∧ some k_ ≠ (.slice Ao9 l0_3.length co9 : Value).ownBlock ∧ some k_ ≠ (.slice Ao10 l0_4.length co10 : Value).ownBlock ∧ some k_ ≠ (.slice Ao11 l0_5.length co11 : Value).ownBlock) (Kd.R_keptB (HO0_1.out) hkp (fun k_ hk_ hs_ => (hk_.2.2.2.1) hs_)) (fun k_ hk_ => ⟨hk_.1.1, hk_.1.2.1, hk_.1.2.2.1, hk_.1.2.2.2.1, hk_.1.2.2.2.2⟩)); replace HO0_2 := Ya (Z12 (ok' := fun k_ => ((P0_0_ k_ ∨ P0_1_ k_ ∨ P0_2_ k_ ∨ P0_3_ k_ ∨ P0_4_ k_ ∨ P0_5_ k_) ∨ w.heap.size ≤ k_)) (Kd.R_keptB ((Kd.R_apart' HO0_2.out (Kd.R_typed HO0_4.out) (by decide))) hkp (fun k_ hk_ hs_ => (hk_.2) hs_)) (fun k_ hk_ => hk_.1.1)); replace HO0_3 := Ya (Z12 (ok' := fun k_ => ((P0_0_ k_ ∨ P0_1_ k_ ∨ P0_2_ k_ ∨ P0_3_ k_ ∨ P0_4_ k_ ∨ P0_5_ k_) ∨ w.heap.size ≤ k_) ∧ some k_ ≠ (.slice Ao6 l0_0.length co6 : Value).ownBlock ∧ some k_ ≠ (.slice Ao7 l0_1.length co7 : Value).ownBlock ∧ some k_ ≠ (.slice Ao10 l0_4.length co10 : Value).ownBlock ∧ some k_ ≠ (.slice Ao11 l0_5.length co11 : Value).ownBlock) (Kd.R_keptB (HO0_3.out) hkp (fun k_ hk_ hs_ => (hk_.2.2.2.1) hs_)) (fun k_ hk_ => ⟨hk_.1.1, hk_.1.2.1, hk_.1.2.2.1, hk_.1.2.2.2.1, hk_.1.2.2.2.2⟩)); replace HO0_5 := Ya (Z12 (ok' := fun k_ => ((P0_0_ k_ ∨ P0_1_ k_ ∨ P0_2_ k_ ∨ P0_3_ k_ ∨ P0_4_ k_ ∨ P0_5_ k_) ∨ w.heap.size ≤ k_) ∧ some k_ ≠ (.slice Ao6 l0_0.length co6 : Value).ownBlock ∧ some k_ ≠ (.slice Ao7 l0_1.length co7 : Value).ownBlock ∧ some k_ ≠ (.slice Ao9 l0_3.length co9 : Value).ownBlock ∧ some k_ ≠ (.slice Ao10 l0_4.length co10 : Value).ownBlock) (Kd.R_keptB (HO0_5.out) hkp (fun k_ hk_ hs_ => (hk_.2.2.2.2) hs_)) (fun k_ hk_ => ⟨hk_.1.1, hk_.1.2.1, hk_.1.2.2.1, hk_.1.2.2.2.1, hk_.1.2.2.2.2⟩)); replace BK127 := Ya (blk_kept (Yk BK127.out) hkp (fun hs_ => (fun e_ => (Kd.R_ne HO0_4.out BK127.out (by decide)) e_) hs_)); replace HK := Ya (Kept.then_ (S := (fun k_ => P0_0_ k_ ∨ P0_1_ k_ ∨ P0_2_ k_ ∨ P0_3_ k_ ∨ P0_4_ k_ ∨ P0_5_ k_)) Q34 hkp (fun k_ hs_ => (fun e_ => (HO0_4.out.1 k_ e_.symm).1) hs_)); replace HO0_4 := Ya (Kd.R_reok rfl hy0 (fun k_ e_ => HO0_4.out.1 k_ e_)); replace HB := Ya hb; (try clear hb hkp hy0); obtain ⟨hcz17_0, hcz17_1, hcz17_2, hcz17_3, hcz17_4, hcz17_5, hfz17_0, hfz17_1, hfz17_2, hfz17_3, hfz17_4, hfz17_5⟩ := Y6 BK127.out) | ((with_reducible refine gate_callee (f := 39) rfl ?_); refine Yz 16 Try.func39 #[.slice Ao11 l0_5.length co11, .int .i64 t133] ?_; (with_reducible refine (laws_markIntS.calls k (fun k_ => some k_ = (.slice Ao11 l0_5.length co11 : Value).ownBlock) (.slice Ao11 l0_5.length co11) l0_5 t133 t135 t136 w0 _ ?side1 (Kd.R_tight rfl HO0_5.out) A5.out).mono ?_); (case side1 => repeat (first | (with_reducible first | exact HB.out | apply Z5 | apply Z3 | apply Z4 | refine Z6 ?_ (Aside0.out (by assumption))) | exact HB.out)); rintro e w18 ⟨rfl, hy0, hb, hkp⟩; refine ⟨_, rfl, ?_⟩; replace HO0_0 := Ya (Z12 (ok' := fun k_ => ((P0_0_ k_ ∨ P0_1_ k_ ∨ P0_2_ k_ ∨ P0_3_ k_ ∨ P0_4_ k_ ∨ P0_5_ k_) ∨ w.heap.size ≤ k_) ∧ some k_ ≠ (.slice Ao7 l0_1.length co7 : Value).ownBlock ∧ some k_ ≠ (.slice Ao9 l0_3.length co9 : Value).ownBlock ∧ some k_ ≠ (.slice Ao10 l0_4.length co10 : Value).ownBlock ∧ some k_ ≠ (.slice Ao11 l0_5.length co11 : Value).ownBlock) (Kd.R_keptB (HO0_0.out) hkp (fun k_ hk_ hs_ => (hk_.2.2.2.2) hs_)) (fun k_ hk_ => ⟨hk_.1.1, hk_.1.2.1, hk_.1.2.2.1, hk_.1.2.2.2.1, hk_.1.2.2.2.2⟩)); replace HO0_1 := Ya (Z12 (ok' := fun k_ => ((P0_0_ k_ ∨ P0_1_ k_ ∨ P0_2_ k_ ∨ P0_3_ k_ ∨ P0_4_ k_ ∨ P0_5_ k_) ∨ w.heap.size ≤ k_) ∧ some k_ ≠ (.slice Ao6 l0_0.length co6 : Value).ownBlock ∧ some k_ ≠ (.slice Ao9 l0_3.length co9 : Value).ownBlock ∧ some k_ ≠ (.slice Ao10 l0_4.length co10 : Value).ownBlock ∧ some k_ ≠ (.slice Ao11 l0_5.length co11 : Value).ownBlock) (Kd.R_keptB (HO0_1.out) hkp (fun k_ hk_ hs_ => (hk_.2.2.2.2) hs_)) (fun k_ hk_ => ⟨hk_.1.1, hk_.1.2.1, hk_.1.2.2.1, hk_.1.2.2.2.1, hk_.1.2.2.2.2⟩)); replace HO0_2 := Ya (Z12 (ok' := fun k_ => ((P0_0_ k_ ∨ P0_1_ k_ ∨ P0_2_ k_ ∨ P0_3_ k_ ∨ P0_4_ k_ ∨ P0_5_ k_) ∨ w.heap.size ≤ k_)) (Kd.R_keptB ((Kd.R_apart' HO0_2.out (Kd.R_typed HO0_5.out) (by decide))) hkp (fun k_ hk_ hs_ => (hk_.2) hs_)) (fun k_ hk_ => hk_.1.1)); replace HO0_3 := Ya (Z12 (ok' := fun k_ => ((P0_0_ k_ ∨ P0_1_ k_ ∨ P0_2_ k_ ∨ P0_3_ k_ ∨ P0_4_ k_ ∨ P0_5_ k_) ∨ w.heap.size ≤ k_) ∧ some k_ ≠ (.slice Ao6 l0_0.length co6 : Value).ownBlock ∧ some k_ ≠ (.slice Ao7 l0_1.length co7 : Value).ownBlock ∧ some k_ ≠ (.slice Ao10 l0_4.length co10 : Value).ownBlock ∧ some k_ ≠ (.slice Ao11 l0_5.length co11 : Value).ownBlock) (Kd.R_keptB (HO0_3.out) hkp (fun k_ hk_ hs_ => (hk_.2.2.2.2) hs_)) (fun k_ hk_ => ⟨hk_.1.1, hk_.1.2.1, hk_.1.2.2.1, hk_.1.2.2.2.1, hk_.1.2.2.2.2⟩)); replace HO0_4 := Ya (Z12 (ok' := fun k_ => ((P0_0_ k_ ∨ P0_1_ k_ ∨ P0_2_ k_ ∨ P0_3_ k_ ∨ P0_4_ k_ ∨ P0_5_ k_) ∨ w.heap.size ≤ k_) ∧ some k_ ≠ (.slice Ao6 l0_0.length co6 : Value).ownBlock ∧ some k_ ≠ (.slice Ao7 l0_1.length co7 : Value).ownBlock ∧ some k_ ≠ (.slice Ao9 l0_3.length co9 : Value).ownBlock ∧ some k_ ≠ (.slice Ao11 l0_5.length co11 : Value).ownBlock) (Kd.R_keptB (HO0_4.out) hkp (fun k_ hk_ hs_ => (hk_.2.2.2.2) hs_)) (fun k_ hk_ => ⟨hk_.1.1, hk_.1.2.1, hk_.1.2.2.1, hk_.1.2.2.2.1, hk_.1.2.2.2.2⟩)); replace BK127 := Ya (blk_kept (Yk BK127.out) hkp (fun hs_ => (fun e_ => (Kd.R_ne HO0_5.out BK127.out (by decide)) e_) hs_)); replace HK := Ya (Kept.then_ (S := (fun k_ => P0_0_ k_ ∨ P0_1_ k_ ∨ P0_2_ k_ ∨ P0_3_ k_ ∨ P0_4_ k_ ∨ P0_5_ k_)) Q34 hkp (fun k_ hs_ => (fun e_ => (HO0_5.out.1 k_ e_.symm).1) hs_)); replace HO0_5 := Ya (Kd.R_reok rfl hy0 (fun k_ e_ => HO0_5.out.1 k_ e_)); replace HB := Ya hb; (try clear hb hkp hy0)))
 go_ret
 exact ⟨Q2, Yj HO0_0.out (fun _ hk => hk.1), Yj HO0_1.out (fun _ hk => hk.1), by (with_reducible repeat (first | apply Z9 | apply Z10 | apply Z11)); exact HO0_2.out, Yj HO0_3.out (fun _ hk => hk.1), Yj HO0_4.out (fun _ hk => hk.1), Yj HO0_5.out (fun _ hk => hk.1), Q12, by repeat (first | (with_reducible first | exact HK.out | apply Kept.alloc | apply Kept.drewN | apply Kept.drew | refine Kept.setCell ?_ (.inr GW127.out) _) | exact HK.out)⟩
def laws_heldIntS.l0 : Nat → List Int → Int → Int → Option (Int)
 | 0, _, _, _ => none
 | k + 1, x0, x1, x5 => if x5 < (x0.length : Int) then (if 0 ≤ x5 then (if (rd x0 x5) = x1 then (laws_heldIntS.l0 k x0 (wrap64 (x1 + 1)) (wrap64 (x5 + 1))) else (some (-1))) else (none)) else (some x1)
def laws_heldIntS.f (k : Nat) (l0 : List Int) (a1 : Int) : Option (Int) := laws_heldIntS.l0 k l0 a1 0
theorem laws_heldIntS.mono_l : ∀ k, (∀ y0 y1 y2, LeO (laws_heldIntS.l0 k y0 y1 y2) (laws_heldIntS.l0 (k + 1) y0 y1 y2))
 | 0 => fun _ _ _ r h => by simp [laws_heldIntS.l0] at h
 | k + 1 => by
  have ih0 := laws_heldIntS.mono_l k
  ·intro y0 y1 y2
   unfold laws_heldIntS.l0
   repeat' first
   | (with_reducible exact ih0 _ _ _)
   | (with_reducible exact LeO.refl _)
   | (with_reducible exact LeO.none _)
   | (with_reducible refine LeO.ite ?_ ?_)
   | (with_reducible refine LeO.bind ?_ (fun _ => ?_))
   | exact ih0 _ _ _
   | exact LeO.none _
   | refine LeO.ite ?_ ?_
   | refine LeO.bind ?_ (fun _ => ?_)
theorem laws_heldIntS.mono : ∀ a0 a1 k, LeO (laws_heldIntS.f k a0 a1) (laws_heldIntS.f (k + 1) a0 a1) := by
 intro a0 a1 k
 have ih0 := laws_heldIntS.mono_l k
 unfold laws_heldIntS.f
 repeat' first
   | (with_reducible exact ih0 _ _ _)
   | (with_reducible exact LeO.refl _)
   | (with_reducible exact LeO.none _)
   | (with_reducible refine LeO.ite ?_ ?_)
   | (with_reducible refine LeO.bind ?_ (fun _ => ?_))
   | exact ih0 _ _ _
   | exact LeO.none _
   | refine LeO.ite ?_ ?_
   | refine LeO.bind ?_ (fun _ => ?_)
set_option maxHeartbeats 8000000 in
set_option maxRecDepth 100000 in
theorem laws_heldIntS.calls (k : Nat) (A0 : Option Addr) (c0 : Nat) (l0 : List Int) (a1 : Int) (r : Int) (w : World) (hr0 : Kd.C (Kd.int .i64) w A0 l0.length l0) (hc0 : l0.length ≤ c0) (h : laws_heldIntS.f k l0 a1 = some r) :
  Calls Try.prog 41 #[.slice A0 l0.length c0, .int .i64 a1] w fun e w' => e = .returned (.int .i64 r) ∧ Drawn0 w w' := by
 have HR0 := Ya hr0
 have HC0 := Ya hc0
 clear hr0 hc0
 have H : (laws_heldIntS.l0 k l0 a1 0) = some r := h
 clear h
 have H' := Ya H
 clear H
 go_enter Try.func41, Try.ntmps41
 go_wp2
 go_loopg [1, 5] k (fun kq v1 v5 w' => ∃ (x1_1 : Int) (x5_1 : Int), v1 = .int .i64 x1_1 ∧ v5 = .int .i64 x5_1 ∧ Aside0 (laws_heldIntS.l0 kq l0 x1_1 x5_1 = some r) ∧ Aside0 (kq ≤ k) ∧ Drawn0 w w')
 case atStart => exact ⟨(a1), (0), Q8, Q8, H', ⟨Nat.le_refl _⟩, Q5⟩
 case round =>
  clear H'
  try clear p2
  obtain ⟨x1_1, x5_1, rfl, rfl, HA, HK1, ⟨m1, rfl⟩⟩ := hrel
  cases gk with
  | zero => exact absurd HA.out (by simp [laws_heldIntS.l0])
  | succ k1 =>
   have H := HA.out
   clear HA
   simp only [laws_heldIntS.l0] at H
   by_cases c3 : x5_1 < (l0.length : Int)
   ·rw [if_pos c3] at H
    have c3b0 := Z38 c3
    clear c3
    by_cases c4 : 0 ≤ x5_1
    ·rw [if_pos c4] at H
     have c4b0 := Z38 c4
     clear c4
     by_cases c5 : (rd l0 x5_1) = x1_1
     ·rw [if_pos c5] at H
      have c5b0 : ((rd l0 x5_1) == x1_1) = true := beq_iff_eq.mpr c5
      have c5b1 : ((rd l0 x5_1) != x1_1) = false := bne_eq_false_iff_eq.mpr c5
      clear c5
      have H' := Ya H
      clear H
      have p137 : 0 ≤ (x5_1 : Int) := Z30 Q1
      have q137 : x5_1 < (l0.length : Int) := Z30 Q1
      obtain ⟨ad137, e137, hx137_0⟩ := Kd.at_int HR0.out x5_1 p137 q137
      cases e137
      replace p137 := eq_true p137
      replace q137 := eq_true q137
      go_wp2
      go_roundg k1
      case measure => have := HK1.out; omega
      case rel => exact ⟨(wrap64 (x1_1 + 1)), (wrap64 (x5_1 + 1)), Q8, Q8, H', ⟨Q20⟩, Q5⟩
     ·rw [if_neg c5] at H
      have c5b0 : ((rd l0 x5_1) == x1_1) = false := beq_eq_false_iff_ne.mpr c5
      have c5b1 : ((rd l0 x5_1) != x1_1) = true := bne_iff_ne.mpr c5
      obtain rfl := Option.some.inj H
      have p137 : 0 ≤ (x5_1 : Int) := Z30 Q1
      have q137 : x5_1 < (l0.length : Int) := Z30 Q1
      obtain ⟨ad137, e137, hx137_0⟩ := Kd.at_int HR0.out x5_1 p137 q137
      cases e137
      replace p137 := eq_true p137
      replace q137 := eq_true q137
      go_wp2
      go_ret
      exact ⟨Q13, Q5⟩
    ·rw [if_neg c4] at H
     exact absurd H (by simp)
   ·rw [if_neg c3] at H
    have c3b0 := Z37 c3
    clear c3
    obtain rfl := Option.some.inj H
    go_wp2
    go_ret
    exact ⟨Q13, Q5⟩
def laws_heldBoolS.l0 : Nat → List Bool → Int → Int → Option (Int)
 | 0, _, _, _ => none
 | k + 1, x0, x1, x5 => if x5 < (x0.length : Int) then (if 0 ≤ x5 then (if ((rdOf false x0 x5) != ((Int.tmod x1 3) == 0)) = true then (some (-1)) else (laws_heldBoolS.l0 k x0 (wrap64 (x1 + 1)) (wrap64 (x5 + 1)))) else (none)) else (some x1)
def laws_heldBoolS.f (k : Nat) (l0 : List Bool) (a1 : Int) : Option (Int) := laws_heldBoolS.l0 k l0 a1 0
theorem laws_heldBoolS.mono_l : ∀ k, (∀ y0 y1 y2, LeO (laws_heldBoolS.l0 k y0 y1 y2) (laws_heldBoolS.l0 (k + 1) y0 y1 y2))
 | 0 => fun _ _ _ r h => by simp [laws_heldBoolS.l0] at h
 | k + 1 => by
  have ih0 := laws_heldBoolS.mono_l k
  ·intro y0 y1 y2
   unfold laws_heldBoolS.l0
   repeat' first
   | (with_reducible exact ih0 _ _ _)
   | (with_reducible exact LeO.refl _)
   | (with_reducible exact LeO.none _)
   | (with_reducible refine LeO.ite ?_ ?_)
   | (with_reducible refine LeO.bind ?_ (fun _ => ?_))
   | exact ih0 _ _ _
   | exact LeO.none _
   | refine LeO.ite ?_ ?_
   | refine LeO.bind ?_ (fun _ => ?_)
theorem laws_heldBoolS.mono : ∀ a0 a1 k, LeO (laws_heldBoolS.f k a0 a1) (laws_heldBoolS.f (k + 1) a0 a1) := by
 intro a0 a1 k
 have ih0 := laws_heldBoolS.mono_l k
 unfold laws_heldBoolS.f
 repeat' first
   | (with_reducible exact ih0 _ _ _)
   | (with_reducible exact LeO.refl _)
   | (with_reducible exact LeO.none _)
   | (with_reducible refine LeO.ite ?_ ?_)
   | (with_reducible refine LeO.bind ?_ (fun _ => ?_))
   | exact ih0 _ _ _
   | exact LeO.none _
   | refine LeO.ite ?_ ?_
   | refine LeO.bind ?_ (fun _ => ?_)
set_option maxHeartbeats 8000000 in
set_option maxRecDepth 100000 in
theorem laws_heldBoolS.calls (k : Nat) (A0 : Option Addr) (c0 : Nat) (l0 : List Bool) (a1 : Int) (r : Int) (w : World) (hr0 : Kd.C Kd.bool w A0 l0.length l0) (hc0 : l0.length ≤ c0) (h : laws_heldBoolS.f k l0 a1 = some r) :
  Calls Try.prog 42 #[.slice A0 l0.length c0, .int .i64 a1] w fun e w' => e = .returned (.int .i64 r) ∧ Drawn0 w w' := by
 have HR0 := Ya hr0
 have HC0 := Ya hc0
 clear hr0 hc0
 have H : (laws_heldBoolS.l0 k l0 a1 0) = some r := h
 clear h
 have H' := Ya H
 clear H
 go_enter Try.func42, Try.ntmps42
 go_wp2
 go_loopg [1, 5] k (fun kq v1 v5 w' => ∃ (x1_1 : Int) (x5_1 : Int), v1 = .int .i64 x1_1 ∧ v5 = .int .i64 x5_1 ∧ Aside0 (laws_heldBoolS.l0 kq l0 x1_1 x5_1 = some r) ∧ Aside0 (kq ≤ k) ∧ Drawn0 w w')
 case atStart => exact ⟨(a1), (0), Q8, Q8, H', ⟨Nat.le_refl _⟩, Q5⟩
 case round =>
  clear H'
  try clear p2
  obtain ⟨x1_1, x5_1, rfl, rfl, HA, HK1, ⟨m1, rfl⟩⟩ := hrel
  cases gk with
  | zero => exact absurd HA.out (by simp [laws_heldBoolS.l0])
  | succ k1 =>
   have H := HA.out
   clear HA
   simp only [laws_heldBoolS.l0] at H
   by_cases c3 : x5_1 < (l0.length : Int)
   ·rw [if_pos c3] at H
    have c3b0 := Z38 c3
    clear c3
    by_cases c4 : 0 ≤ x5_1
    ·rw [if_pos c4] at H
     have c4b0 := Z38 c4
     clear c4
     by_cases c5 : ((rdOf false l0 x5_1) != ((Int.tmod x1_1 3) == 0)) = true
     ·rw [if_pos c5] at H
      have c5b0 : ((rdOf false l0 x5_1) != ((Int.tmod x1_1 3) == 0)) = true := c5
      (try (have c5b1 : decide ((rdOf false l0 x5_1) = ((Int.tmod x1_1 3) == 0)) = false := by simpa using c5))
      (try (have c5b2 : ((rdOf false l0 x5_1) == ((Int.tmod x1_1 3) == 0)) = false := by simpa using c5))
      (try (have c5b3 : ¬ ((rdOf false l0 x5_1) = ((Int.tmod x1_1 3) == 0)) := by simpa using c5))
      clear c5
      obtain rfl := Option.some.inj H
      have p138 : 0 ≤ (x5_1 : Int) := Z30 Q1
      have q138 : x5_1 < (l0.length : Int) := Z30 Q1
      obtain ⟨ad138, e138, hx138_0⟩ := Kd.at_bool HR0.out x5_1 p138 q138
      cases e138
      replace p138 := eq_true p138
      replace q138 := eq_true q138
      go_wp2
      go_ret
      exact ⟨Q13, Q5⟩
     ·rw [if_neg c5] at H
      have c5b0 : ((rdOf false l0 x5_1) != ((Int.tmod x1_1 3) == 0)) = false := by simpa using c5
      (try (have c5b1 : decide ((rdOf false l0 x5_1) = ((Int.tmod x1_1 3) == 0)) = true := by simpa using c5))
      (try (have c5b2 : ((rdOf false l0 x5_1) == ((Int.tmod x1_1 3) == 0)) = true := by simpa using c5))
      clear c5
      have H' := Ya H
      clear H
      have p138 : 0 ≤ (x5_1 : Int) := Z30 Q1
      have q138 : x5_1 < (l0.length : Int) := Z30 Q1
      obtain ⟨ad138, e138, hx138_0⟩ := Kd.at_bool HR0.out x5_1 p138 q138
      cases e138
      replace p138 := eq_true p138
      replace q138 := eq_true q138
      go_wp2
      go_roundg k1
      case measure => have := HK1.out; omega
      case rel => exact ⟨(wrap64 (x1_1 + 1)), (wrap64 (x5_1 + 1)), Q8, Q8, H', ⟨Q20⟩, Q5⟩
    ·rw [if_neg c4] at H
     exact absurd H (by simp)
   ·rw [if_neg c3] at H
    have c3b0 := Z37 c3
    clear c3
    obtain rfl := Option.some.inj H
    go_wp2
    go_ret
    exact ⟨Q13, Q5⟩
def laws_heldFocus.f (k : Nat) (l0_0 : List Int) (l0_1 : List Int) (l0_2 : List Bool) (l0_3 : List Int) (a1 : Int) : Option (Int) := (laws_heldIntS.f k l0_0 a1).bind fun t140 => (if t140 < 0 then (some (-1)) else ((laws_heldIntS.f k l0_1 t140).bind fun t141 => (if t141 < 0 then (some (-1)) else ((laws_heldBoolS.f k l0_2 t141).bind fun t142 => (if t142 < 0 then (some (-1)) else ((laws_heldIntS.f k l0_3 t142).bind fun t143 => (if t143 < 0 then (some (-1)) else (some t143))))))))
theorem laws_heldFocus.mono : ∀ a0 a1 a2 a3 a4 k, LeO (laws_heldFocus.f k a0 a1 a2 a3 a4) (laws_heldFocus.f (k + 1) a0 a1 a2 a3 a4) := by
 intro a0 a1 a2 a3 a4 k
 unfold laws_heldFocus.f
 repeat' first
   | (with_reducible exact laws_heldBoolS.mono _ _ _)
   | (with_reducible exact laws_heldIntS.mono _ _ _)
   | (with_reducible exact LeO.refl _)
   | (with_reducible exact LeO.none _)
   | (with_reducible refine LeO.ite ?_ ?_)
   | (with_reducible refine LeO.bind ?_ (fun _ => ?_))
   | exact laws_heldBoolS.mono _ _ _
   | exact laws_heldIntS.mono _ _ _
   | exact LeO.none _
   | refine LeO.ite ?_ ?_
   | refine LeO.bind ?_ (fun _ => ?_)
set_option maxHeartbeats 8000000 in
set_option maxRecDepth 100000 in
theorem laws_heldFocus.calls (k : Nat) (A0_0 : Option Addr) (c0_0 : Nat) (l0_0 : List Int) (A0_1 : Option Addr) (c0_1 : Nat) (l0_1 : List Int) (A0_2 : Option Addr) (c0_2 : Nat) (l0_2 : List Bool) (A0_3 : Option Addr) (c0_3 : Nat) (l0_3 : List Int) (a1 : Int) (r : Int) (w : World) (hr0_0 : Kd.C (Kd.int .i64) w A0_0 l0_0.length l0_0) (hc0_0 : l0_0.length ≤ c0_0) (hr0_1 : Kd.C (Kd.int .i64) w A0_1 l0_1.length l0_1) (hc0_1 : l0_1.length ≤ c0_1) (hr0_2 : Kd.C Kd.bool w A0_2 l0_2.length l0_2) (hc0_2 : l0_2.length ≤ c0_2) (hr0_3 : Kd.C (Kd.int .i64) w A0_3 l0_3.length l0_3) (hc0_3 : l0_3.length ≤ c0_3) (h : laws_heldFocus.f k l0_0 l0_1 l0_2 l0_3 a1 = some r) :
  Calls Try.prog 14 #[.agg #[.slice A0_0 l0_0.length c0_0, .slice A0_1 l0_1.length c0_1, .slice A0_2 l0_2.length c0_2, .slice A0_3 l0_3.length c0_3], .int .i64 a1] w fun e w' => e = .returned (.int .i64 r) ∧ Below w.heap.size w w' := by
 have hu27 := Try.underlying27
 have HR0_0 := Ya hr0_0
 have HC0_0 := Ya hc0_0
 clear hr0_0 hc0_0
 have HR0_1 := Ya hr0_1
 have HC0_1 := Ya hc0_1
 clear hr0_1 hc0_1
 have HR0_2 := Ya hr0_2
 have HC0_2 := Ya hc0_2
 clear hr0_2 hc0_2
 have HR0_3 := Ya hr0_3
 have HC0_3 := Ya hc0_3
 clear hr0_3 hc0_3
 have HB := Ya (Below.refl w.heap.size w)
 have H : ((laws_heldIntS.f k l0_0 a1).bind fun t140 => (if t140 < 0 then (some (-1)) else ((laws_heldIntS.f k l0_1 t140).bind fun t141 => (if t141 < 0 then (some (-1)) else ((laws_heldBoolS.f k l0_2 t141).bind fun t142 => (if t142 < 0 then (some (-1)) else ((laws_heldIntS.f k l0_3 t142).bind fun t143 => (if t143 < 0 then (some (-1)) else (some t143))))))))) = some r := h
 clear h
 replace H := Z36.mp H
 obtain ⟨t140, A30, H⟩ := H
 replace H : (if t140 < 0 then (some (-1)) else ((laws_heldIntS.f k l0_1 t140).bind fun t141 => (if t141 < 0 then (some (-1)) else ((laws_heldBoolS.f k l0_2 t141).bind fun t142 => (if t142 < 0 then (some (-1)) else ((laws_heldIntS.f k l0_3 t142).bind fun t143 => (if t143 < 0 then (some (-1)) else (some t143)))))))) = some r := H
 have A3 := Ya A30
 clear A30
 by_cases c4 : t140 < 0
 ·rw [if_pos c4] at H
  have c4b0 := Z38 c4
  clear c4
  obtain rfl := Option.some.inj H
  go_enter Try.func14, Try.ntmps14
  go_wp2_with (first | ((with_reducible refine gate_dst (N := 2) rfl ?_); refine Yx 2 #[.slice A0_0 l0_0.length c0_0, .slice A0_1 l0_1.length c0_1, .slice A0_2 l0_2.length c0_2, .slice A0_3 l0_3.length c0_3] 27 ?_; intro gb139 hg w5 hbox hb; have BK139 := Ya hbox; have GW139 := Yg hg; have GE139 := GW139; replace HB := Yh hb; clear hb hbox hg; obtain ⟨hcz6_0, hcz6_1, hcz6_2, hcz6_3, hfz6_0, hfz6_1, hfz6_2, hfz6_3⟩ := Y4 BK139.out) | ((with_reducible refine gate_callee (f := 41) rfl ?_); refine Yz 8 Try.func41 #[.slice A0_0 l0_0.length c0_0, .int .i64 a1] ?_; (with_reducible refine (laws_heldIntS.calls k _ _ l0_0 a1 t140 _ (Yc (Z22 HR0_0.out HB.out)) HC0_0.out A3.out).mono ?_); rintro e w' ⟨rfl, ⟨nd, rfl⟩⟩; refine ⟨_, rfl, ?_⟩))
  go_ret
  exact ⟨Q2, Q12⟩
 ·rw [if_neg c4] at H
  have c4b0 := Z37 c4
  clear c4
  replace H := Z36.mp H
  obtain ⟨t141, A70, H⟩ := H
  replace H : (if t141 < 0 then (some (-1)) else ((laws_heldBoolS.f k l0_2 t141).bind fun t142 => (if t142 < 0 then (some (-1)) else ((laws_heldIntS.f k l0_3 t142).bind fun t143 => (if t143 < 0 then (some (-1)) else (some t143)))))) = some r := H
  have A7 := Ya A70
  clear A70
  by_cases c8 : t141 < 0
  ·rw [if_pos c8] at H
   have c8b0 := Z38 c8
   clear c8
   obtain rfl := Option.some.inj H
   go_enter Try.func14, Try.ntmps14
   go_wp2_with (first | ((with_reducible refine gate_dst (N := 2) rfl ?_); refine Yx 2 #[.slice A0_0 l0_0.length c0_0, .slice A0_1 l0_1.length c0_1, .slice A0_2 l0_2.length c0_2, .slice A0_3 l0_3.length c0_3] 27 ?_; intro gb139 hg w9 hbox hb; have BK139 := Ya hbox; have GW139 := Yg hg; have GE139 := GW139; replace HB := Yh hb; clear hb hbox hg; obtain ⟨hcz10_0, hcz10_1, hcz10_2, hcz10_3, hfz10_0, hfz10_1, hfz10_2, hfz10_3⟩ := Y4 BK139.out) | ((with_reducible refine gate_callee (f := 41) rfl ?_); refine Yz 8 Try.func41 #[.slice A0_0 l0_0.length c0_0, .int .i64 a1] ?_; (with_reducible refine (laws_heldIntS.calls k _ _ l0_0 a1 t140 _ (Yc (Z22 HR0_0.out HB.out)) HC0_0.out A3.out).mono ?_); rintro e w' ⟨rfl, ⟨nd, rfl⟩⟩; refine ⟨_, rfl, ?_⟩) | ((with_reducible refine gate_callee (f := 41) rfl ?_); refine Yz 14 Try.func41 #[.slice A0_1 l0_1.length c0_1, .int .i64 t140] ?_; (with_reducible refine (laws_heldIntS.calls k _ _ l0_1 t140 t141 _ ?side1 HC0_1.out A7.out).mono ?_); (case side1 => exact Yc (Z22 HR0_1.out Q0)); rintro e w' ⟨rfl, ⟨nd, rfl⟩⟩; refine ⟨_, rfl, ?_⟩))
   go_ret
   exact ⟨Q2, Q12⟩
  ·rw [if_neg c8] at H
   have c8b0 := Z37 c8
   clear c8
   replace H := Z36.mp H
   obtain ⟨t142, A110, H⟩ := H
   replace H : (if t142 < 0 then (some (-1)) else ((laws_heldIntS.f k l0_3 t142).bind fun t143 => (if t143 < 0 then (some (-1)) else (some t143)))) = some r := H
   have A11 := Ya A110
   clear A110
   by_cases c12 : t142 < 0
   ·rw [if_pos c12] at H
    have c12b0 := Z38 c12
    clear c12
    obtain rfl := Option.some.inj H
    go_enter Try.func14, Try.ntmps14
    go_wp2_with (first | ((with_reducible refine gate_dst (N := 2) rfl ?_); refine Yx 2 #[.slice A0_0 l0_0.length c0_0, .slice A0_1 l0_1.length c0_1, .slice A0_2 l0_2.length c0_2, .slice A0_3 l0_3.length c0_3] 27 ?_; intro gb139 hg w13 hbox hb; have BK139 := Ya hbox; have GW139 := Yg hg; have GE139 := GW139; replace HB := Yh hb; clear hb hbox hg; obtain ⟨hcz14_0, hcz14_1, hcz14_2, hcz14_3, hfz14_0, hfz14_1, hfz14_2, hfz14_3⟩ := Y4 BK139.out) | ((with_reducible refine gate_callee (f := 41) rfl ?_); refine Yz 8 Try.func41 #[.slice A0_0 l0_0.length c0_0, .int .i64 a1] ?_; (with_reducible refine (laws_heldIntS.calls k _ _ l0_0 a1 t140 _ (Yc (Z22 HR0_0.out HB.out)) HC0_0.out A3.out).mono ?_); rintro e w' ⟨rfl, ⟨nd, rfl⟩⟩; refine ⟨_, rfl, ?_⟩) | ((with_reducible refine gate_callee (f := 41) rfl ?_); refine Yz 14 Try.func41 #[.slice A0_1 l0_1.length c0_1, .int .i64 t140] ?_; (with_reducible refine (laws_heldIntS.calls k _ _ l0_1 t140 t141 _ ?side1 HC0_1.out A7.out).mono ?_); (case side1 => exact Yc (Z22 HR0_1.out Q0)); rintro e w' ⟨rfl, ⟨nd, rfl⟩⟩; refine ⟨_, rfl, ?_⟩) | ((with_reducible refine gate_callee (f := 42) rfl ?_); refine Yz 20 Try.func42 #[.slice A0_2 l0_2.length c0_2, .int .i64 t141] ?_; (with_reducible refine (laws_heldBoolS.calls k _ _ l0_2 t141 t142 _ ?side1 HC0_2.out A11.out).mono ?_); (case side1 => exact Yc (Z22 HR0_2.out Q0)); rintro e w' ⟨rfl, ⟨nd, rfl⟩⟩; refine ⟨_, rfl, ?_⟩))
    go_ret
    exact ⟨Q2, Q12⟩
   ·rw [if_neg c12] at H
    have c12b0 := Z37 c12
    clear c12
    replace H := Z36.mp H
    obtain ⟨t143, A150, H⟩ := H
    replace H : (if t143 < 0 then (some (-1)) else (some t143)) = some r := H
    have A15 := Ya A150
    clear A150
    by_cases c16 : t143 < 0
    ·rw [if_pos c16] at H
     have c16b0 := Z38 c16
     clear c16
     obtain rfl := Option.some.inj H
     go_enter Try.func14, Try.ntmps14
     go_wp2_with (first | ((with_reducible refine gate_dst (N := 2) rfl ?_); refine Yx 2 #[.slice A0_0 l0_0.length c0_0, .slice A0_1 l0_1.length c0_1, .slice A0_2 l0_2.length c0_2, .slice A0_3 l0_3.length c0_3] 27 ?_; intro gb139 hg w17 hbox hb; have BK139 := Ya hbox; have GW139 := Yg hg; have GE139 := GW139; replace HB := Yh hb; clear hb hbox hg; obtain ⟨hcz18_0, hcz18_1, hcz18_2, hcz18_3, hfz18_0, hfz18_1, hfz18_2, hfz18_3⟩ := Y4 BK139.out) | ((with_reducible refine gate_callee (f := 41) rfl ?_); refine Yz 8 Try.func41 #[.slice A0_0 l0_0.length c0_0, .int .i64 a1] ?_; (with_reducible refine (laws_heldIntS.calls k _ _ l0_0 a1 t140 _ (Yc (Z22 HR0_0.out HB.out)) HC0_0.out A3.out).mono ?_); rintro e w' ⟨rfl, ⟨nd, rfl⟩⟩; refine ⟨_, rfl, ?_⟩) | ((with_reducible refine gate_callee (f := 41) rfl ?_); refine Yz 14 Try.func41 #[.slice A0_1 l0_1.length c0_1, .int .i64 t140] ?_; (with_reducible refine (laws_heldIntS.calls k _ _ l0_1 t140 t141 _ ?side1 HC0_1.out A7.out).mono ?_); (case side1 => exact Yc (Z22 HR0_1.out Q0)); rintro e w' ⟨rfl, ⟨nd, rfl⟩⟩; refine ⟨_, rfl, ?_⟩) | ((with_reducible refine gate_callee (f := 42) rfl ?_); refine Yz 20 Try.func42 #[.slice A0_2 l0_2.length c0_2, .int .i64 t141] ?_; (with_reducible refine (laws_heldBoolS.calls k _ _ l0_2 t141 t142 _ ?side1 HC0_2.out A11.out).mono ?_); (case side1 => exact Yc (Z22 HR0_2.out Q0)); rintro e w' ⟨rfl, ⟨nd, rfl⟩⟩; refine ⟨_, rfl, ?_⟩) | ((with_reducible refine gate_callee (f := 41) rfl ?_); refine Yz 26 Try.func41 #[.slice A0_3 l0_3.length c0_3, .int .i64 t142] ?_; (with_reducible refine (laws_heldIntS.calls k _ _ l0_3 t142 t143 _ ?side1 HC0_3.out A15.out).mono ?_); (case side1 => exact Yc (Z22 HR0_3.out Q0)); rintro e w' ⟨rfl, ⟨nd, rfl⟩⟩; refine ⟨_, rfl, ?_⟩))
     go_ret
     exact ⟨Q2, Q12⟩
    ·rw [if_neg c16] at H
     have c16b0 := Z37 c16
     clear c16
     obtain rfl := Option.some.inj H
     go_enter Try.func14, Try.ntmps14
     go_wp2_with (first | ((with_reducible refine gate_dst (N := 2) rfl ?_); refine Yx 2 #[.slice A0_0 l0_0.length c0_0, .slice A0_1 l0_1.length c0_1, .slice A0_2 l0_2.length c0_2, .slice A0_3 l0_3.length c0_3] 27 ?_; intro gb139 hg w19 hbox hb; have BK139 := Ya hbox; have GW139 := Yg hg; have GE139 := GW139; replace HB := Yh hb; clear hb hbox hg; obtain ⟨hcz20_0, hcz20_1, hcz20_2, hcz20_3, hfz20_0, hfz20_1, hfz20_2, hfz20_3⟩ := Y4 BK139.out) | ((with_reducible refine gate_callee (f := 41) rfl ?_); refine Yz 8 Try.func41 #[.slice A0_0 l0_0.length c0_0, .int .i64 a1] ?_; (with_reducible refine (laws_heldIntS.calls k _ _ l0_0 a1 t140 _ (Yc (Z22 HR0_0.out HB.out)) HC0_0.out A3.out).mono ?_); rintro e w' ⟨rfl, ⟨nd, rfl⟩⟩; refine ⟨_, rfl, ?_⟩) | ((with_reducible refine gate_callee (f := 41) rfl ?_); refine Yz 14 Try.func41 #[.slice A0_1 l0_1.length c0_1, .int .i64 t140] ?_; (with_reducible refine (laws_heldIntS.calls k _ _ l0_1 t140 t141 _ ?side1 HC0_1.out A7.out).mono ?_); (case side1 => exact Yc (Z22 HR0_1.out Q0)); rintro e w' ⟨rfl, ⟨nd, rfl⟩⟩; refine ⟨_, rfl, ?_⟩) | ((with_reducible refine gate_callee (f := 42) rfl ?_); refine Yz 20 Try.func42 #[.slice A0_2 l0_2.length c0_2, .int .i64 t141] ?_; (with_reducible refine (laws_heldBoolS.calls k _ _ l0_2 t141 t142 _ ?side1 HC0_2.out A11.out).mono ?_); (case side1 => exact Yc (Z22 HR0_2.out Q0)); rintro e w' ⟨rfl, ⟨nd, rfl⟩⟩; refine ⟨_, rfl, ?_⟩) | ((with_reducible refine gate_callee (f := 41) rfl ?_); refine Yz 26 Try.func41 #[.slice A0_3 l0_3.length c0_3, .int .i64 t142] ?_; (with_reducible refine (laws_heldIntS.calls k _ _ l0_3 t142 t143 _ ?side1 HC0_3.out A15.out).mono ?_); (case side1 => exact Yc (Z22 HR0_3.out Q0)); rintro e w' ⟨rfl, ⟨nd, rfl⟩⟩; refine ⟨_, rfl, ?_⟩))
     go_ret
     exact ⟨Q2, Q12⟩
def laws_heldSwapper.f (k : Nat) (l0_0 : List Int) (l0_1 : List Int) (l0_2 : List Bool) (l0_3 : List Int) (l0_4 : List Int) (l0_5 : List Int) (a1 : Int) : Option (Int) := (laws_heldFocus.f k l0_0 l0_1 l0_2 l0_3 a1).bind fun t145 => (if t145 < 0 then (some (-1)) else ((laws_heldIntS.f k l0_4 t145).bind fun t146 => (if t146 < 0 then (some (-1)) else ((laws_heldIntS.f k l0_5 t146).bind fun t147 => (if t147 < 0 then (some (-1)) else (some t147))))))
theorem laws_heldSwapper.mono : ∀ a0 a1 a2 a3 a4 a5 a6 k, LeO (laws_heldSwapper.f k a0 a1 a2 a3 a4 a5 a6) (laws_heldSwapper.f (k + 1) a0 a1 a2 a3 a4 a5 a6) := by
 intro a0 a1 a2 a3 a4 a5 a6 k
 unfold laws_heldSwapper.f
 repeat' first
   | (with_reducible exact laws_heldFocus.mono _ _ _ _ _ _)
   | (with_reducible exact laws_heldIntS.mono _ _ _)
   | (with_reducible exact LeO.refl _)
   | (with_reducible exact LeO.none _)
   | (with_reducible refine LeO.ite ?_ ?_)
   | (with_reducible refine LeO.bind ?_ (fun _ => ?_))
   | exact laws_heldFocus.mono _ _ _ _ _ _
   | exact laws_heldIntS.mono _ _ _
   | exact LeO.none _
   | refine LeO.ite ?_ ?_
   | refine LeO.bind ?_ (fun _ => ?_)
set_option maxHeartbeats 8000000 in
set_option maxRecDepth 100000 in
theorem laws_heldSwapper.calls (k : Nat) (A0_0 : Option Addr) (c0_0 : Nat) (l0_0 : List Int) (A0_1 : Option Addr) (c0_1 : Nat) (l0_1 : List Int) (A0_2 : Option Addr) (c0_2 : Nat) (l0_2 : List Bool) (A0_3 : Option Addr) (c0_3 : Nat) (l0_3 : List Int) (A0_4 : Option Addr) (c0_4 : Nat) (l0_4 : List Int) (A0_5 : Option Addr) (c0_5 : Nat) (l0_5 : List Int) (a1 : Int) (r : Int) (w : World) (hr0_0 : Kd.C (Kd.int .i64) w A0_0 l0_0.length l0_0) (hc0_0 : l0_0.length ≤ c0_0) (hr0_1 : Kd.C (Kd.int .i64) w A0_1 l0_1.length l0_1) (hc0_1 : l0_1.length ≤ c0_1) (hr0_2 : Kd.C Kd.bool w A0_2 l0_2.length l0_2) (hc0_2 : l0_2.length ≤ c0_2) (hr0_3 : Kd.C (Kd.int .i64) w A0_3 l0_3.length l0_3) (hc0_3 : l0_3.length ≤ c0_3) (hr0_4 : Kd.C (Kd.int .i64) w A0_4 l0_4.length l0_4) (hc0_4 : l0_4.length ≤ c0_4) (hr0_5 : Kd.C (Kd.int .i64) w A0_5 l0_5.length l0_5) (hc0_5 : l0_5.length ≤ c0_5) (h : laws_heldSwapper.f k l0_0 l0_1 l0_2 l0_3 l0_4 l0_5 a1 = some r) :
  Calls Try.prog 19 #[.agg #[.slice A0_0 l0_0.length c0_0, .slice A0_1 l0_1.length c0_1, .slice A0_2 l0_2.length c0_2, .slice A0_3 l0_3.length c0_3, .slice A0_4 l0_4.length c0_4, .slice A0_5 l0_5.length c0_5], .int .i64 a1] w fun e w' => e = .returned (.int .i64 r) ∧ Below w.heap.size w w' := by
 have hu35 := Try.underlying35
 have hu27 := Try.underlying27
 have HR0_0 := Ya hr0_0
 have HC0_0 := Ya hc0_0
 clear hr0_0 hc0_0
 have HR0_1 := Ya hr0_1
 have HC0_1 := Ya hc0_1
 clear hr0_1 hc0_1
 have HR0_2 := Ya hr0_2
 have HC0_2 := Ya hc0_2
 clear hr0_2 hc0_2
 have HR0_3 := Ya hr0_3
 have HC0_3 := Ya hc0_3
 clear hr0_3 hc0_3
 have HR0_4 := Ya hr0_4
 have HC0_4 := Ya hc0_4
 clear hr0_4 hc0_4
 have HR0_5 := Ya hr0_5
 have HC0_5 := Ya hc0_5
 clear hr0_5 hc0_5
 have HB := Ya (Below.refl w.heap.size w)
 have H : ((laws_heldFocus.f k l0_0 l0_1 l0_2 l0_3 a1).bind fun t145 => (if t145 < 0 then (some (-1)) else ((laws_heldIntS.f k l0_4 t145).bind fun t146 => (if t146 < 0 then (some (-1)) else ((laws_heldIntS.f k l0_5 t146).bind fun t147 => (if t147 < 0 then (some (-1)) else (some t147))))))) = some r := h
 clear h
 replace H := Z36.mp H
 obtain ⟨t145, A30, H⟩ := H
 replace H : (if t145 < 0 then (some (-1)) else ((laws_heldIntS.f k l0_4 t145).bind fun t146 => (if t146 < 0 then (some (-1)) else ((laws_heldIntS.f k l0_5 t146).bind fun t147 => (if t147 < 0 then (some (-1)) else (some t147)))))) = some r := H
 have A3 := Ya A30
 clear A30
 by_cases c4 : t145 < 0
 ·rw [if_pos c4] at H
  have c4b0 := Z38 c4
  clear c4
  obtain rfl := Option.some.inj H
  go_enter Try.func19, Try.ntmps19
  go_wp2_with (first | ((with_reducible refine gate_dst (N := 2) rfl ?_); refine Yx 2 #[.slice A0_0 l0_0.length c0_0, .slice A0_1 l0_1.length c0_1, .slice A0_2 l0_2.length c0_2, .slice A0_3 l0_3.length c0_3, .slice A0_4 l0_4.length c0_4, .slice A0_5 l0_5.length c0_5] 35 ?_; intro gb144 hg w5 hbox hb; have BK144 := Ya hbox; have GW144 := Yg hg; have GE144 := GW144; replace HB := Yh hb; clear hb hbox hg; obtain ⟨hcz6_0, hcz6_1, hcz6_2, hcz6_3, hcz6_4, hcz6_5, hfz6_0, hfz6_1, hfz6_2, hfz6_3, hfz6_4, hfz6_5⟩ := Y6 BK144.out) | ((with_reducible refine gate_callee (f := 14) rfl ?_); refine Yz 8 Try.func14 #[.agg #[.slice A0_0 l0_0.length c0_0, .slice A0_1 l0_1.length c0_1, .slice A0_2 l0_2.length c0_2, .slice A0_3 l0_3.length c0_3], .int .i64 a1] ?_; (with_reducible refine (laws_heldFocus.calls k _ _ l0_0 _ _ l0_1 _ _ l0_2 _ _ l0_3 a1 t145 _ (Yc (Z22 HR0_0.out HB.out)) HC0_0.out (Yc (Z22 HR0_1.out HB.out)) HC0_1.out (Yc (Z22 HR0_2.out HB.out)) HC0_2.out (Yc (Z22 HR0_3.out HB.out)) HC0_3.out A3.out).mono ?_); rintro e w7 ⟨rfl, hb⟩; refine ⟨_, rfl, ?_⟩; replace BK144 := Yb BK144 hb; replace HB := Yh hb; (try clear hb)))
  go_ret
  exact ⟨Q2, Q12⟩
 ·rw [if_neg c4] at H
  have c4b0 := Z37 c4
  clear c4
  replace H := Z36.mp H
  obtain ⟨t146, A80, H⟩ := H
  replace H : (if t146 < 0 then (some (-1)) else ((laws_heldIntS.f k l0_5 t146).bind fun t147 => (if t147 < 0 then (some (-1)) else (some t147)))) = some r := H
  have A8 := Ya A80
  clear A80
  by_cases c9 : t146 < 0
  ·rw [if_pos c9] at H
   have c9b0 := Z38 c9
   clear c9
   obtain rfl := Option.some.inj H
   go_enter Try.func19, Try.ntmps19
   go_wp2_with (first | ((with_reducible refine gate_dst (N := 2) rfl ?_); refine Yx 2 #[.slice A0_0 l0_0.length c0_0, .slice A0_1 l0_1.length c0_1, .slice A0_2 l0_2.length c0_2, .slice A0_3 l0_3.length c0_3, .slice A0_4 l0_4.length c0_4, .slice A0_5 l0_5.length c0_5] 35 ?_; intro gb144 hg w10 hbox hb; have BK144 := Ya hbox; have GW144 := Yg hg; have GE144 := GW144; replace HB := Yh hb; clear hb hbox hg; obtain ⟨hcz11_0, hcz11_1, hcz11_2, hcz11_3, hcz11_4, hcz11_5, hfz11_0, hfz11_1, hfz11_2, hfz11_3, hfz11_4, hfz11_5⟩ := Y6 BK144.out) | ((with_reducible refine gate_callee (f := 14) rfl ?_); refine Yz 8 Try.func14 #[.agg #[.slice A0_0 l0_0.length c0_0, .slice A0_1 l0_1.length c0_1, .slice A0_2 l0_2.length c0_2, .slice A0_3 l0_3.length c0_3], .int .i64 a1] ?_; (with_reducible refine (laws_heldFocus.calls k _ _ l0_0 _ _ l0_1 _ _ l0_2 _ _ l0_3 a1 t145 _ (Yc (Z22 HR0_0.out HB.out)) HC0_0.out (Yc (Z22 HR0_1.out HB.out)) HC0_1.out (Yc (Z22 HR0_2.out HB.out)) HC0_2.out (Yc (Z22 HR0_3.out HB.out)) HC0_3.out A3.out).mono ?_); rintro e w12 ⟨rfl, hb⟩; refine ⟨_, rfl, ?_⟩; replace BK144 := Yb BK144 hb; replace HB := Yh hb; (try clear hb); obtain ⟨hcz13_0, hcz13_1, hcz13_2, hcz13_3, hcz13_4, hcz13_5, hfz13_0, hfz13_1, hfz13_2, hfz13_3, hfz13_4, hfz13_5⟩ := Y6 BK144.out) | ((with_reducible refine gate_callee (f := 41) rfl ?_); refine Yz 14 Try.func41 #[.slice A0_4 l0_4.length c0_4, .int .i64 t145] ?_; (with_reducible refine (laws_heldIntS.calls k _ _ l0_4 t145 t146 _ (Yc (Z22 HR0_4.out HB.out)) HC0_4.out A8.out).mono ?_); rintro e w' ⟨rfl, ⟨nd, rfl⟩⟩; refine ⟨_, rfl, ?_⟩))
   go_ret
   exact ⟨Q2, Q12⟩
  ·rw [if_neg c9] at H
   have c9b0 := Z37 c9
   clear c9
   replace H := Z36.mp H
   obtain ⟨t147, A140, H⟩ := H
   replace H : (if t147 < 0 then (some (-1)) else (some t147)) = some r := H
   have A14 := Ya A140
   clear A140
   by_cases c15 : t147 < 0
   ·rw [if_pos c15] at H
    have c15b0 := Z38 c15
    clear c15
    obtain rfl := Option.some.inj H
    go_enter Try.func19, Try.ntmps19
    go_wp2_with (first | ((with_reducible refine gate_dst (N := 2) rfl ?_); refine Yx 2 #[.slice A0_0 l0_0.length c0_0, .slice A0_1 l0_1.length c0_1, .slice A0_2 l0_2.length c0_2, .slice A0_3 l0_3.length c0_3, .slice A0_4 l0_4.length c0_4, .slice A0_5 l0_5.length c0_5] 35 ?_; intro gb144 hg w16 hbox hb; have BK144 := Ya hbox; have GW144 := Yg hg; have GE144 := GW144; replace HB := Yh hb; clear hb hbox hg; obtain ⟨hcz17_0, hcz17_1, hcz17_2, hcz17_3, hcz17_4, hcz17_5, hfz17_0, hfz17_1, hfz17_2, hfz17_3, hfz17_4, hfz17_5⟩ := Y6 BK144.out) | ((with_reducible refine gate_callee (f := 14) rfl ?_); refine Yz 8 Try.func14 #[.agg #[.slice A0_0 l0_0.length c0_0, .slice A0_1 l0_1.length c0_1, .slice A0_2 l0_2.length c0_2, .slice A0_3 l0_3.length c0_3], .int .i64 a1] ?_; (with_reducible refine (laws_heldFocus.calls k _ _ l0_0 _ _ l0_1 _ _ l0_2 _ _ l0_3 a1 t145 _ (Yc (Z22 HR0_0.out HB.out)) HC0_0.out (Yc (Z22 HR0_1.out HB.out)) HC0_1.out (Yc (Z22 HR0_2.out HB.out)) HC0_2.out (Yc (Z22 HR0_3.out HB.out)) HC0_3.out A3.out).mono ?_); rintro e w18 ⟨rfl, hb⟩; refine ⟨_, rfl, ?_⟩; replace BK144 := Yb BK144 hb; replace HB := Yh hb; (try clear hb); obtain ⟨hcz19_0, hcz19_1, hcz19_2, hcz19_3, hcz19_4, hcz19_5, hfz19_0, hfz19_1, hfz19_2, hfz19_3, hfz19_4, hfz19_5⟩ := Y6 BK144.out) | ((with_reducible refine gate_callee (f := 41) rfl ?_); refine Yz 14 Try.func41 #[.slice A0_4 l0_4.length c0_4, .int .i64 t145] ?_; (with_reducible refine (laws_heldIntS.calls k _ _ l0_4 t145 t146 _ (Yc (Z22 HR0_4.out HB.out)) HC0_4.out A8.out).mono ?_); rintro e w' ⟨rfl, ⟨nd, rfl⟩⟩; refine ⟨_, rfl, ?_⟩) | ((with_reducible refine gate_callee (f := 41) rfl ?_); refine Yz 20 Try.func41 #[.slice A0_5 l0_5.length c0_5, .int .i64 t146] ?_; (with_reducible refine (laws_heldIntS.calls k _ _ l0_5 t146 t147 _ ?side1 HC0_5.out A14.out).mono ?_); (case side1 => exact Yc (Z22 HR0_5.out Q0)); rintro e w' ⟨rfl, ⟨nd, rfl⟩⟩; refine ⟨_, rfl, ?_⟩))
    go_ret
    exact ⟨Q2, Q12⟩
   ·rw [if_neg c15] at H
    have c15b0 := Z37 c15
    clear c15
    obtain rfl := Option.some.inj H
    go_enter Try.func19, Try.ntmps19
    go_wp2_with (first | ((with_reducible refine gate_dst (N := 2) rfl ?_); refine Yx 2 #[.slice A0_0 l0_0.length c0_0, .slice A0_1 l0_1.length c0_1, .slice A0_2 l0_2.length c0_2, .slice A0_3 l0_3.length c0_3, .slice A0_4 l0_4.length c0_4, .slice A0_5 l0_5.length c0_5] 35 ?_; intro gb144 hg w20 hbox hb; have BK144 := Ya hbox; have GW144 := Yg hg; have GE144 := GW144; replace HB := Yh hb; clear hb hbox hg; obtain ⟨hcz21_0, hcz21_1, hcz21_2, hcz21_3, hcz21_4, hcz21_5, hfz21_0, hfz21_1, hfz21_2, hfz21_3, hfz21_4, hfz21_5⟩ := Y6 BK144.out) | ((with_reducible refine gate_callee (f := 14) rfl ?_); refine Yz 8 Try.func14 #[.agg #[.slice A0_0 l0_0.length c0_0, .slice A0_1 l0_1.length c0_1, .slice A0_2 l0_2.length c0_2, .slice A0_3 l0_3.length c0_3], .int .i64 a1] ?_; (with_reducible refine (laws_heldFocus.calls k _ _ l0_0 _ _ l0_1 _ _ l0_2 _ _ l0_3 a1 t145 _ (Yc (Z22 HR0_0.out HB.out)) HC0_0.out (Yc (Z22 HR0_1.out HB.out)) HC0_1.out (Yc (Z22 HR0_2.out HB.out)) HC0_2.out (Yc (Z22 HR0_3.out HB.out)) HC0_3.out A3.out).mono ?_); rintro e w22 ⟨rfl, hb⟩; refine ⟨_, rfl, ?_⟩; replace BK144 := Yb BK144 hb; replace HB := Yh hb; (try clear hb); obtain ⟨hcz23_0, hcz23_1, hcz23_2, hcz23_3, hcz23_4, hcz23_5, hfz23_0, hfz23_1, hfz23_2, hfz23_3, hfz23_4, hfz23_5⟩ := Y6 BK144.out) | ((with_reducible refine gate_callee (f := 41) rfl ?_); refine Yz 14 Try.func41 #[.slice A0_4 l0_4.length c0_4, .int .i64 t145] ?_; (with_reducible refine (laws_heldIntS.calls k _ _ l0_4 t145 t146 _ (Yc (Z22 HR0_4.out HB.out)) HC0_4.out A8.out).mono ?_); rintro e w' ⟨rfl, ⟨nd, rfl⟩⟩; refine ⟨_, rfl, ?_⟩) | ((with_reducible refine gate_callee (f := 41) rfl ?_); refine Yz 20 Try.func41 #[.slice A0_5 l0_5.length c0_5, .int .i64 t146] ?_; (with_reducible refine (laws_heldIntS.calls k _ _ l0_5 t146 t147 _ ?side1 HC0_5.out A14.out).mono ?_); (case side1 => exact Yc (Z22 HR0_5.out Q0)); rintro e w' ⟨rfl, ⟨nd, rfl⟩⟩; refine ⟨_, rfl, ?_⟩))
    go_ret
    exact ⟨Q2, Q12⟩
def laws_szIntS.f (l0 : List Int) (a1 : Int) : Option (Int) := if (wrap64 (a1 - (l0.length : Int))) < 0 then (some (-1)) else (some (wrap64 (a1 - (l0.length : Int))))
set_option maxHeartbeats 8000000 in
set_option maxRecDepth 100000 in
theorem laws_szIntS.calls (A0 : Option Addr) (c0 : Nat) (l0 : List Int) (a1 : Int) (r : Int) (w : World) (hr0 : Kd.C (Kd.int .i64) w A0 l0.length l0) (hc0 : l0.length ≤ c0) (h : laws_szIntS.f l0 a1 = some r) :
  Calls Try.prog 28 #[.slice A0 l0.length c0, .int .i64 a1] w fun e w' => e = .returned (.int .i64 r) ∧ Drawn0 w w' := by
 have HR0 := Ya hr0
 have HC0 := Ya hc0
 clear hr0 hc0
 have H : (if (wrap64 (a1 - (l0.length : Int))) < 0 then (some (-1)) else (some (wrap64 (a1 - (l0.length : Int))))) = some r := h
 clear h
 by_cases c3 : (wrap64 (a1 - (l0.length : Int))) < 0
 ·rw [if_pos c3] at H
  have c3b0 := Z38 c3
  clear c3
  obtain rfl := Option.some.inj H
  go_enter Try.func28, Try.ntmps28
  go_wp2
  go_ret
  exact ⟨Q13, Q5⟩
 ·rw [if_neg c3] at H
  have c3b0 := Z37 c3
  clear c3
  obtain rfl := Option.some.inj H
  go_enter Try.func28, Try.ntmps28
  go_wp2
  go_ret
  exact ⟨Q13, Q5⟩
def laws_szBoolS.f (l0 : List Bool) (a1 : Int) : Option (Int) := if (wrap64 (a1 - (l0.length : Int))) < 0 then (some (-1)) else (some (wrap64 (a1 - (l0.length : Int))))
set_option maxHeartbeats 8000000 in
set_option maxRecDepth 100000 in
theorem laws_szBoolS.calls (A0 : Option Addr) (c0 : Nat) (l0 : List Bool) (a1 : Int) (r : Int) (w : World) (hr0 : Kd.C Kd.bool w A0 l0.length l0) (hc0 : l0.length ≤ c0) (h : laws_szBoolS.f l0 a1 = some r) :
  Calls Try.prog 29 #[.slice A0 l0.length c0, .int .i64 a1] w fun e w' => e = .returned (.int .i64 r) ∧ Drawn0 w w' := by
 have HR0 := Ya hr0
 have HC0 := Ya hc0
 clear hr0 hc0
 have H : (if (wrap64 (a1 - (l0.length : Int))) < 0 then (some (-1)) else (some (wrap64 (a1 - (l0.length : Int))))) = some r := h
 clear h
 by_cases c3 : (wrap64 (a1 - (l0.length : Int))) < 0
 ·rw [if_pos c3] at H
  have c3b0 := Z38 c3
  clear c3
  obtain rfl := Option.some.inj H
  go_enter Try.func29, Try.ntmps29
  go_wp2
  go_ret
  exact ⟨Q13, Q5⟩
 ·rw [if_neg c3] at H
  have c3b0 := Z37 c3
  clear c3
  obtain rfl := Option.some.inj H
  go_enter Try.func29, Try.ntmps29
  go_wp2
  go_ret
  exact ⟨Q13, Q5⟩
def laws_szFocus.f (l0_0 : List Int) (l0_1 : List Int) (l0_2 : List Bool) (l0_3 : List Int) (a1 : Int) : Option (Int) := (laws_szIntS.f l0_0 a1).bind fun t149 => (if t149 < 0 then (some (-1)) else ((laws_szIntS.f l0_1 t149).bind fun t150 => (if t150 < 0 then (some (-1)) else ((laws_szBoolS.f l0_2 t150).bind fun t151 => (if t151 < 0 then (some (-1)) else ((laws_szIntS.f l0_3 t151).bind fun t152 => (if t152 < 0 then (some (-1)) else (some t152))))))))
set_option maxHeartbeats 8000000 in
set_option maxRecDepth 100000 in
theorem laws_szFocus.calls (A0_0 : Option Addr) (c0_0 : Nat) (l0_0 : List Int) (A0_1 : Option Addr) (c0_1 : Nat) (l0_1 : List Int) (A0_2 : Option Addr) (c0_2 : Nat) (l0_2 : List Bool) (A0_3 : Option Addr) (c0_3 : Nat) (l0_3 : List Int) (a1 : Int) (r : Int) (w : World) (hr0_0 : Kd.C (Kd.int .i64) w A0_0 l0_0.length l0_0) (hc0_0 : l0_0.length ≤ c0_0) (hr0_1 : Kd.C (Kd.int .i64) w A0_1 l0_1.length l0_1) (hc0_1 : l0_1.length ≤ c0_1) (hr0_2 : Kd.C Kd.bool w A0_2 l0_2.length l0_2) (hc0_2 : l0_2.length ≤ c0_2) (hr0_3 : Kd.C (Kd.int .i64) w A0_3 l0_3.length l0_3) (hc0_3 : l0_3.length ≤ c0_3) (h : laws_szFocus.f l0_0 l0_1 l0_2 l0_3 a1 = some r) :
  Calls Try.prog 8 #[.agg #[.slice A0_0 l0_0.length c0_0, .slice A0_1 l0_1.length c0_1, .slice A0_2 l0_2.length c0_2, .slice A0_3 l0_3.length c0_3], .int .i64 a1] w fun e w' => e = .returned (.int .i64 r) ∧ Below w.heap.size w w' := by
 have hu25 := Try.underlying25
 have HR0_0 := Ya hr0_0
 have HC0_0 := Ya hc0_0
 clear hr0_0 hc0_0
 have HR0_1 := Ya hr0_1
 have HC0_1 := Ya hc0_1
 clear hr0_1 hc0_1
 have HR0_2 := Ya hr0_2
 have HC0_2 := Ya hc0_2
 clear hr0_2 hc0_2
 have HR0_3 := Ya hr0_3
 have HC0_3 := Ya hc0_3
 clear hr0_3 hc0_3
 have HB := Ya (Below.refl w.heap.size w)
 have H : ((laws_szIntS.f l0_0 a1).bind fun t149 => (if t149 < 0 then (some (-1)) else ((laws_szIntS.f l0_1 t149).bind fun t150 => (if t150 < 0 then (some (-1)) else ((laws_szBoolS.f l0_2 t150).bind fun t151 => (if t151 < 0 then (some (-1)) else ((laws_szIntS.f l0_3 t151).bind fun t152 => (if t152 < 0 then (some (-1)) else (some t152))))))))) = some r := h
 clear h
 replace H := Z36.mp H
 obtain ⟨t149, A30, H⟩ := H
 replace H : (if t149 < 0 then (some (-1)) else ((laws_szIntS.f l0_1 t149).bind fun t150 => (if t150 < 0 then (some (-1)) else ((laws_szBoolS.f l0_2 t150).bind fun t151 => (if t151 < 0 then (some (-1)) else ((laws_szIntS.f l0_3 t151).bind fun t152 => (if t152 < 0 then (some (-1)) else (some t152)))))))) = some r := H
 have A3 := Ya A30
 clear A30
 by_cases c4 : t149 < 0
 ·rw [if_pos c4] at H
  have c4b0 := Z38 c4
  clear c4
  obtain rfl := Option.some.inj H
  go_enter Try.func8, Try.ntmps8
  go_wp2_with (first | ((with_reducible refine gate_dst (N := 2) rfl ?_); refine Yx 2 #[.slice A0_0 l0_0.length c0_0, .slice A0_1 l0_1.length c0_1, .slice A0_2 l0_2.length c0_2, .slice A0_3 l0_3.length c0_3] 25 ?_; intro gb148 hg w5 hbox hb; have BK148 := Ya hbox; have GW148 := Yg hg; have GE148 := GW148; replace HB := Yh hb; clear hb hbox hg; obtain ⟨hcz6_0, hcz6_1, hcz6_2, hcz6_3, hfz6_0, hfz6_1, hfz6_2, hfz6_3⟩ := Y4 BK148.out) | ((with_reducible refine gate_callee (f := 28) rfl ?_); refine Yz 8 Try.func28 #[.slice A0_0 l0_0.length c0_0, .int .i64 a1] ?_; (with_reducible refine (laws_szIntS.calls _ _ l0_0 a1 t149 _ (Yc (Z22 HR0_0.out HB.out)) HC0_0.out A3.out).mono ?_); rintro e w' ⟨rfl, ⟨nd, rfl⟩⟩; refine ⟨_, rfl, ?_⟩))
  go_ret
  exact ⟨Q2, Q12⟩
 ·rw [if_neg c4] at H
  have c4b0 := Z37 c4
  clear c4
  replace H := Z36.mp H
  obtain ⟨t150, A70, H⟩ := H
  replace H : (if t150 < 0 then (some (-1)) else ((laws_szBoolS.f l0_2 t150).bind fun t151 => (if t151 < 0 then (some (-1)) else ((laws_szIntS.f l0_3 t151).bind fun t152 => (if t152 < 0 then (some (-1)) else (some t152)))))) = some r := H
  have A7 := Ya A70
  clear A70
  by_cases c8 : t150 < 0
  ·rw [if_pos c8] at H
   have c8b0 := Z38 c8
   clear c8
   obtain rfl := Option.some.inj H
   go_enter Try.func8, Try.ntmps8
   go_wp2_with (first | ((with_reducible refine gate_dst (N := 2) rfl ?_); refine Yx 2 #[.slice A0_0 l0_0.length c0_0, .slice A0_1 l0_1.length c0_1, .slice A0_2 l0_2.length c0_2, .slice A0_3 l0_3.length c0_3] 25 ?_; intro gb148 hg w9 hbox hb; have BK148 := Ya hbox; have GW148 := Yg hg; have GE148 := GW148; replace HB := Yh hb; clear hb hbox hg; obtain ⟨hcz10_0, hcz10_1, hcz10_2, hcz10_3, hfz10_0, hfz10_1, hfz10_2, hfz10_3⟩ := Y4 BK148.out) | ((with_reducible refine gate_callee (f := 28) rfl ?_); refine Yz 8 Try.func28 #[.slice A0_0 l0_0.length c0_0, .int .i64 a1] ?_; (with_reducible refine (laws_szIntS.calls _ _ l0_0 a1 t149 _ (Yc (Z22 HR0_0.out HB.out)) HC0_0.out A3.out).mono ?_); rintro e w' ⟨rfl, ⟨nd, rfl⟩⟩; refine ⟨_, rfl, ?_⟩) | ((with_reducible refine gate_callee (f := 28) rfl ?_); refine Yz 14 Try.func28 #[.slice A0_1 l0_1.length c0_1, .int .i64 t149] ?_; (with_reducible refine (laws_szIntS.calls _ _ l0_1 t149 t150 _ ?side1 HC0_1.out A7.out).mono ?_); (case side1 => exact Yc (Z22 HR0_1.out Q0)); rintro e w' ⟨rfl, ⟨nd, rfl⟩⟩; refine ⟨_, rfl, ?_⟩))
   go_ret
   exact ⟨Q2, Q12⟩
  ·rw [if_neg c8] at H
   have c8b0 := Z37 c8
   clear c8
   replace H := Z36.mp H
   obtain ⟨t151, A110, H⟩ := H
   replace H : (if t151 < 0 then (some (-1)) else ((laws_szIntS.f l0_3 t151).bind fun t152 => (if t152 < 0 then (some (-1)) else (some t152)))) = some r := H
   have A11 := Ya A110
   clear A110
   by_cases c12 : t151 < 0
   ·rw [if_pos c12] at H
    have c12b0 := Z38 c12
    clear c12
    obtain rfl := Option.some.inj H
    go_enter Try.func8, Try.ntmps8
    go_wp2_with (first | ((with_reducible refine gate_dst (N := 2) rfl ?_); refine Yx 2 #[.slice A0_0 l0_0.length c0_0, .slice A0_1 l0_1.length c0_1, .slice A0_2 l0_2.length c0_2, .slice A0_3 l0_3.length c0_3] 25 ?_; intro gb148 hg w13 hbox hb; have BK148 := Ya hbox; have GW148 := Yg hg; have GE148 := GW148; replace HB := Yh hb; clear hb hbox hg; obtain ⟨hcz14_0, hcz14_1, hcz14_2, hcz14_3, hfz14_0, hfz14_1, hfz14_2, hfz14_3⟩ := Y4 BK148.out) | ((with_reducible refine gate_callee (f := 28) rfl ?_); refine Yz 8 Try.func28 #[.slice A0_0 l0_0.length c0_0, .int .i64 a1] ?_; (with_reducible refine (laws_szIntS.calls _ _ l0_0 a1 t149 _ (Yc (Z22 HR0_0.out HB.out)) HC0_0.out A3.out).mono ?_); rintro e w' ⟨rfl, ⟨nd, rfl⟩⟩; refine ⟨_, rfl, ?_⟩) | ((with_reducible refine gate_callee (f := 28) rfl ?_); refine Yz 14 Try.func28 #[.slice A0_1 l0_1.length c0_1, .int .i64 t149] ?_; (with_reducible refine (laws_szIntS.calls _ _ l0_1 t149 t150 _ ?side1 HC0_1.out A7.out).mono ?_); (case side1 => exact Yc (Z22 HR0_1.out Q0)); rintro e w' ⟨rfl, ⟨nd, rfl⟩⟩; refine ⟨_, rfl, ?_⟩) | ((with_reducible refine gate_callee (f := 29) rfl ?_); refine Yz 20 Try.func29 #[.slice A0_2 l0_2.length c0_2, .int .i64 t150] ?_; (with_reducible refine (laws_szBoolS.calls _ _ l0_2 t150 t151 _ ?side1 HC0_2.out A11.out).mono ?_); (case side1 => exact Yc (Z22 HR0_2.out Q0)); rintro e w' ⟨rfl, ⟨nd, rfl⟩⟩; refine ⟨_, rfl, ?_⟩))
    go_ret
    exact ⟨Q2, Q12⟩
   ·rw [if_neg c12] at H
    have c12b0 := Z37 c12
    clear c12
    replace H := Z36.mp H
    obtain ⟨t152, A150, H⟩ := H
    replace H : (if t152 < 0 then (some (-1)) else (some t152)) = some r := H
    have A15 := Ya A150
    clear A150
    by_cases c16 : t152 < 0
    ·rw [if_pos c16] at H
     have c16b0 := Z38 c16
     clear c16
     obtain rfl := Option.some.inj H
     go_enter Try.func8, Try.ntmps8
     go_wp2_with (first | ((with_reducible refine gate_dst (N := 2) rfl ?_); refine Yx 2 #[.slice A0_0 l0_0.length c0_0, .slice A0_1 l0_1.length c0_1, .slice A0_2 l0_2.length c0_2, .slice A0_3 l0_3.length c0_3] 25 ?_; intro gb148 hg w17 hbox hb; have BK148 := Ya hbox; have GW148 := Yg hg; have GE148 := GW148; replace HB := Yh hb; clear hb hbox hg; obtain ⟨hcz18_0, hcz18_1, hcz18_2, hcz18_3, hfz18_0, hfz18_1, hfz18_2, hfz18_3⟩ := Y4 BK148.out) | ((with_reducible refine gate_callee (f := 28) rfl ?_); refine Yz 8 Try.func28 #[.slice A0_0 l0_0.length c0_0, .int .i64 a1] ?_; (with_reducible refine (laws_szIntS.calls _ _ l0_0 a1 t149 _ (Yc (Z22 HR0_0.out HB.out)) HC0_0.out A3.out).mono ?_); rintro e w' ⟨rfl, ⟨nd, rfl⟩⟩; refine ⟨_, rfl, ?_⟩) | ((with_reducible refine gate_callee (f := 28) rfl ?_); refine Yz 14 Try.func28 #[.slice A0_1 l0_1.length c0_1, .int .i64 t149] ?_; (with_reducible refine (laws_szIntS.calls _ _ l0_1 t149 t150 _ ?side1 HC0_1.out A7.out).mono ?_); (case side1 => exact Yc (Z22 HR0_1.out Q0)); rintro e w' ⟨rfl, ⟨nd, rfl⟩⟩; refine ⟨_, rfl, ?_⟩) | ((with_reducible refine gate_callee (f := 29) rfl ?_); refine Yz 20 Try.func29 #[.slice A0_2 l0_2.length c0_2, .int .i64 t150] ?_; (with_reducible refine (laws_szBoolS.calls _ _ l0_2 t150 t151 _ ?side1 HC0_2.out A11.out).mono ?_); (case side1 => exact Yc (Z22 HR0_2.out Q0)); rintro e w' ⟨rfl, ⟨nd, rfl⟩⟩; refine ⟨_, rfl, ?_⟩) | ((with_reducible refine gate_callee (f := 28) rfl ?_); refine Yz 26 Try.func28 #[.slice A0_3 l0_3.length c0_3, .int .i64 t151] ?_; (with_reducible refine (laws_szIntS.calls _ _ l0_3 t151 t152 _ ?side1 HC0_3.out A15.out).mono ?_); (case side1 => exact Yc (Z22 HR0_3.out Q0)); rintro e w' ⟨rfl, ⟨nd, rfl⟩⟩; refine ⟨_, rfl, ?_⟩))
     go_ret
     exact ⟨Q2, Q12⟩
    ·rw [if_neg c16] at H
     have c16b0 := Z37 c16
     clear c16
     obtain rfl := Option.some.inj H
     go_enter Try.func8, Try.ntmps8
     go_wp2_with (first | ((with_reducible refine gate_dst (N := 2) rfl ?_); refine Yx 2 #[.slice A0_0 l0_0.length c0_0, .slice A0_1 l0_1.length c0_1, .slice A0_2 l0_2.length c0_2, .slice A0_3 l0_3.length c0_3] 25 ?_; intro gb148 hg w19 hbox hb; have BK148 := Ya hbox; have GW148 := Yg hg; have GE148 := GW148; replace HB := Yh hb; clear hb hbox hg; obtain ⟨hcz20_0, hcz20_1, hcz20_2, hcz20_3, hfz20_0, hfz20_1, hfz20_2, hfz20_3⟩ := Y4 BK148.out) | ((with_reducible refine gate_callee (f := 28) rfl ?_); refine Yz 8 Try.func28 #[.slice A0_0 l0_0.length c0_0, .int .i64 a1] ?_; (with_reducible refine (laws_szIntS.calls _ _ l0_0 a1 t149 _ (Yc (Z22 HR0_0.out HB.out)) HC0_0.out A3.out).mono ?_); rintro e w' ⟨rfl, ⟨nd, rfl⟩⟩; refine ⟨_, rfl, ?_⟩) | ((with_reducible refine gate_callee (f := 28) rfl ?_); refine Yz 14 Try.func28 #[.slice A0_1 l0_1.length c0_1, .int .i64 t149] ?_; (with_reducible refine (laws_szIntS.calls _ _ l0_1 t149 t150 _ ?side1 HC0_1.out A7.out).mono ?_); (case side1 => exact Yc (Z22 HR0_1.out Q0)); rintro e w' ⟨rfl, ⟨nd, rfl⟩⟩; refine ⟨_, rfl, ?_⟩) | ((with_reducible refine gate_callee (f := 29) rfl ?_); refine Yz 20 Try.func29 #[.slice A0_2 l0_2.length c0_2, .int .i64 t150] ?_; (with_reducible refine (laws_szBoolS.calls _ _ l0_2 t150 t151 _ ?side1 HC0_2.out A11.out).mono ?_); (case side1 => exact Yc (Z22 HR0_2.out Q0)); rintro e w' ⟨rfl, ⟨nd, rfl⟩⟩; refine ⟨_, rfl, ?_⟩) | ((with_reducible refine gate_callee (f := 28) rfl ?_); refine Yz 26 Try.func28 #[.slice A0_3 l0_3.length c0_3, .int .i64 t151] ?_; (with_reducible refine (laws_szIntS.calls _ _ l0_3 t151 t152 _ ?side1 HC0_3.out A15.out).mono ?_); (case side1 => exact Yc (Z22 HR0_3.out Q0)); rintro e w' ⟨rfl, ⟨nd, rfl⟩⟩; refine ⟨_, rfl, ?_⟩))
     go_ret
     exact ⟨Q2, Q12⟩
def laws_szSwapper.f (l0_0 : List Int) (l0_1 : List Int) (l0_2 : List Bool) (l0_3 : List Int) (l0_4 : List Int) (l0_5 : List Int) (a1 : Int) : Option (Int) := (laws_szFocus.f l0_0 l0_1 l0_2 l0_3 a1).bind fun t154 => (if t154 < 0 then (some (-1)) else ((laws_szIntS.f l0_4 t154).bind fun t155 => (if t155 < 0 then (some (-1)) else ((laws_szIntS.f l0_5 t155).bind fun t156 => (if t156 < 0 then (some (-1)) else (some t156))))))
set_option maxHeartbeats 8000000 in
set_option maxRecDepth 100000 in
theorem laws_szSwapper.calls (A0_0 : Option Addr) (c0_0 : Nat) (l0_0 : List Int) (A0_1 : Option Addr) (c0_1 : Nat) (l0_1 : List Int) (A0_2 : Option Addr) (c0_2 : Nat) (l0_2 : List Bool) (A0_3 : Option Addr) (c0_3 : Nat) (l0_3 : List Int) (A0_4 : Option Addr) (c0_4 : Nat) (l0_4 : List Int) (A0_5 : Option Addr) (c0_5 : Nat) (l0_5 : List Int) (a1 : Int) (r : Int) (w : World) (hr0_0 : Kd.C (Kd.int .i64) w A0_0 l0_0.length l0_0) (hc0_0 : l0_0.length ≤ c0_0) (hr0_1 : Kd.C (Kd.int .i64) w A0_1 l0_1.length l0_1) (hc0_1 : l0_1.length ≤ c0_1) (hr0_2 : Kd.C Kd.bool w A0_2 l0_2.length l0_2) (hc0_2 : l0_2.length ≤ c0_2) (hr0_3 : Kd.C (Kd.int .i64) w A0_3 l0_3.length l0_3) (hc0_3 : l0_3.length ≤ c0_3) (hr0_4 : Kd.C (Kd.int .i64) w A0_4 l0_4.length l0_4) (hc0_4 : l0_4.length ≤ c0_4) (hr0_5 : Kd.C (Kd.int .i64) w A0_5 l0_5.length l0_5) (hc0_5 : l0_5.length ≤ c0_5) (h : laws_szSwapper.f l0_0 l0_1 l0_2 l0_3 l0_4 l0_5 a1 = some r) :
  Calls Try.prog 20 #[.agg #[.slice A0_0 l0_0.length c0_0, .slice A0_1 l0_1.length c0_1, .slice A0_2 l0_2.length c0_2, .slice A0_3 l0_3.length c0_3, .slice A0_4 l0_4.length c0_4, .slice A0_5 l0_5.length c0_5], .int .i64 a1] w fun e w' => e = .returned (.int .i64 r) ∧ Below w.heap.size w w' := by
 have hu42 := Try.underlying42
 have hu25 := Try.underlying25
 have HR0_0 := Ya hr0_0
 have HC0_0 := Ya hc0_0
 clear hr0_0 hc0_0
 have HR0_1 := Ya hr0_1
 have HC0_1 := Ya hc0_1
 clear hr0_1 hc0_1
 have HR0_2 := Ya hr0_2
 have HC0_2 := Ya hc0_2
 clear hr0_2 hc0_2
 have HR0_3 := Ya hr0_3
 have HC0_3 := Ya hc0_3
 clear hr0_3 hc0_3
 have HR0_4 := Ya hr0_4
 have HC0_4 := Ya hc0_4
 clear hr0_4 hc0_4
 have HR0_5 := Ya hr0_5
 have HC0_5 := Ya hc0_5
 clear hr0_5 hc0_5
 have HB := Ya (Below.refl w.heap.size w)
 have H : ((laws_szFocus.f l0_0 l0_1 l0_2 l0_3 a1).bind fun t154 => (if t154 < 0 then (some (-1)) else ((laws_szIntS.f l0_4 t154).bind fun t155 => (if t155 < 0 then (some (-1)) else ((laws_szIntS.f l0_5 t155).bind fun t156 => (if t156 < 0 then (some (-1)) else (some t156))))))) = some r := h
 clear h
 replace H := Z36.mp H
 obtain ⟨t154, A30, H⟩ := H
 replace H : (if t154 < 0 then (some (-1)) else ((laws_szIntS.f l0_4 t154).bind fun t155 => (if t155 < 0 then (some (-1)) else ((laws_szIntS.f l0_5 t155).bind fun t156 => (if t156 < 0 then (some (-1)) else (some t156)))))) = some r := H
 have A3 := Ya A30
 clear A30
 by_cases c4 : t154 < 0
 ·rw [if_pos c4] at H
  have c4b0 := Z38 c4
  clear c4
  obtain rfl := Option.some.inj H
  go_enter Try.func20, Try.ntmps20
  go_wp2_with (first | ((with_reducible refine gate_dst (N := 2) rfl ?_); refine Yx 2 #[.slice A0_0 l0_0.length c0_0, .slice A0_1 l0_1.length c0_1, .slice A0_2 l0_2.length c0_2, .slice A0_3 l0_3.length c0_3, .slice A0_4 l0_4.length c0_4, .slice A0_5 l0_5.length c0_5] 42 ?_; intro gb153 hg w5 hbox hb; have BK153 := Ya hbox; have GW153 := Yg hg; have GE153 := GW153; replace HB := Yh hb; clear hb hbox hg; obtain ⟨hcz6_0, hcz6_1, hcz6_2, hcz6_3, hcz6_4, hcz6_5, hfz6_0, hfz6_1, hfz6_2, hfz6_3, hfz6_4, hfz6_5⟩ := Y6 BK153.out) | ((with_reducible refine gate_callee (f := 8) rfl ?_); refine Yz 8 Try.func8 #[.agg #[.slice A0_0 l0_0.length c0_0, .slice A0_1 l0_1.length c0_1, .slice A0_2 l0_2.length c0_2, .slice A0_3 l0_3.length c0_3], .int .i64 a1] ?_; (with_reducible refine (laws_szFocus.calls _ _ l0_0 _ _ l0_1 _ _ l0_2 _ _ l0_3 a1 t154 _ (Yc (Z22 HR0_0.out HB.out)) HC0_0.out (Yc (Z22 HR0_1.out HB.out)) HC0_1.out (Yc (Z22 HR0_2.out HB.out)) HC0_2.out (Yc (Z22 HR0_3.out HB.out)) HC0_3.out A3.out).mono ?_); rintro e w7 ⟨rfl, hb⟩; refine ⟨_, rfl, ?_⟩; replace BK153 := Yb BK153 hb; replace HB := Yh hb; (try clear hb)))
  go_ret
  exact ⟨Q2, Q12⟩
 ·rw [if_neg c4] at H
  have c4b0 := Z37 c4
  clear c4
  replace H := Z36.mp H
  obtain ⟨t155, A80, H⟩ := H
  replace H : (if t155 < 0 then (some (-1)) else ((laws_szIntS.f l0_5 t155).bind fun t156 => (if t156 < 0 then (some (-1)) else (some t156)))) = some r := H
  have A8 := Ya A80
  clear A80
  by_cases c9 : t155 < 0
  ·rw [if_pos c9] at H
   have c9b0 := Z38 c9
   clear c9
   obtain rfl := Option.some.inj H
   go_enter Try.func20, Try.ntmps20
   go_wp2_with (first | ((with_reducible refine gate_dst (N := 2) rfl ?_); refine Yx 2 #[.slice A0_0 l0_0.length c0_0, .slice A0_1 l0_1.length c0_1, .slice A0_2 l0_2.length c0_2, .slice A0_3 l0_3.length c0_3, .slice A0_4 l0_4.length c0_4, .slice A0_5 l0_5.length c0_5] 42 ?_; intro gb153 hg w10 hbox hb; have BK153 := Ya hbox; have GW153 := Yg hg; have GE153 := GW153; replace HB := Yh hb; clear hb hbox hg; obtain ⟨hcz11_0, hcz11_1, hcz11_2, hcz11_3, hcz11_4, hcz11_5, hfz11_0, hfz11_1, hfz11_2, hfz11_3, hfz11_4, hfz11_5⟩ := Y6 BK153.out) | ((with_reducible refine gate_callee (f := 8) rfl ?_); refine Yz 8 Try.func8 #[.agg #[.slice A0_0 l0_0.length c0_0, .slice A0_1 l0_1.length c0_1, .slice A0_2 l0_2.length c0_2, .slice A0_3 l0_3.length c0_3], .int .i64 a1] ?_; (with_reducible refine (laws_szFocus.calls _ _ l0_0 _ _ l0_1 _ _ l0_2 _ _ l0_3 a1 t154 _ (Yc (Z22 HR0_0.out HB.out)) HC0_0.out (Yc (Z22 HR0_1.out HB.out)) HC0_1.out (Yc (Z22 HR0_2.out HB.out)) HC0_2.out (Yc (Z22 HR0_3.out HB.out)) HC0_3.out A3.out).mono ?_); rintro e w12 ⟨rfl, hb⟩; refine ⟨_, rfl, ?_⟩; replace BK153 := Yb BK153 hb; replace HB := Yh hb; (try clear hb); obtain ⟨hcz13_0, hcz13_1, hcz13_2, hcz13_3, hcz13_4, hcz13_5, hfz13_0, hfz13_1, hfz13_2, hfz13_3, hfz13_4, hfz13_5⟩ := Y6 BK153.out) | ((with_reducible refine gate_callee (f := 28) rfl ?_); refine Yz 14 Try.func28 #[.slice A0_4 l0_4.length c0_4, .int .i64 t154] ?_; (with_reducible refine (laws_szIntS.calls _ _ l0_4 t154 t155 _ (Yc (Z22 HR0_4.out HB.out)) HC0_4.out A8.out).mono ?_); rintro e w' ⟨rfl, ⟨nd, rfl⟩⟩; refine ⟨_, rfl, ?_⟩))
   go_ret
   exact ⟨Q2, Q12⟩
  ·rw [if_neg c9] at H
   have c9b0 := Z37 c9
   clear c9
   replace H := Z36.mp H
   obtain ⟨t156, A140, H⟩ := H
   replace H : (if t156 < 0 then (some (-1)) else (some t156)) = some r := H
   have A14 := Ya A140
   clear A140
   by_cases c15 : t156 < 0
   ·rw [if_pos c15] at H
    have c15b0 := Z38 c15
    clear c15
    obtain rfl := Option.some.inj H
    go_enter Try.func20, Try.ntmps20
    go_wp2_with (first | ((with_reducible refine gate_dst (N := 2) rfl ?_); refine Yx 2 #[.slice A0_0 l0_0.length c0_0, .slice A0_1 l0_1.length c0_1, .slice A0_2 l0_2.length c0_2, .slice A0_3 l0_3.length c0_3, .slice A0_4 l0_4.length c0_4, .slice A0_5 l0_5.length c0_5] 42 ?_; intro gb153 hg w16 hbox hb; have BK153 := Ya hbox; have GW153 := Yg hg; have GE153 := GW153; replace HB := Yh hb; clear hb hbox hg; obtain ⟨hcz17_0, hcz17_1, hcz17_2, hcz17_3, hcz17_4, hcz17_5, hfz17_0, hfz17_1, hfz17_2, hfz17_3, hfz17_4, hfz17_5⟩ := Y6 BK153.out) | ((with_reducible refine gate_callee (f := 8) rfl ?_); refine Yz 8 Try.func8 #[.agg #[.slice A0_0 l0_0.length c0_0, .slice A0_1 l0_1.length c0_1, .slice A0_2 l0_2.length c0_2, .slice A0_3 l0_3.length c0_3], .int .i64 a1] ?_; (with_reducible refine (laws_szFocus.calls _ _ l0_0 _ _ l0_1 _ _ l0_2 _ _ l0_3 a1 t154 _ (Yc (Z22 HR0_0.out HB.out)) HC0_0.out (Yc (Z22 HR0_1.out HB.out)) HC0_1.out (Yc (Z22 HR0_2.out HB.out)) HC0_2.out (Yc (Z22 HR0_3.out HB.out)) HC0_3.out A3.out).mono ?_); rintro e w18 ⟨rfl, hb⟩; refine ⟨_, rfl, ?_⟩; replace BK153 := Yb BK153 hb; replace HB := Yh hb; (try clear hb); obtain ⟨hcz19_0, hcz19_1, hcz19_2, hcz19_3, hcz19_4, hcz19_5, hfz19_0, hfz19_1, hfz19_2, hfz19_3, hfz19_4, hfz19_5⟩ := Y6 BK153.out) | ((with_reducible refine gate_callee (f := 28) rfl ?_); refine Yz 14 Try.func28 #[.slice A0_4 l0_4.length c0_4, .int .i64 t154] ?_; (with_reducible refine (laws_szIntS.calls _ _ l0_4 t154 t155 _ (Yc (Z22 HR0_4.out HB.out)) HC0_4.out A8.out).mono ?_); rintro e w' ⟨rfl, ⟨nd, rfl⟩⟩; refine ⟨_, rfl, ?_⟩) | ((with_reducible refine gate_callee (f := 28) rfl ?_); refine Yz 20 Try.func28 #[.slice A0_5 l0_5.length c0_5, .int .i64 t155] ?_; (with_reducible refine (laws_szIntS.calls _ _ l0_5 t155 t156 _ ?side1 HC0_5.out A14.out).mono ?_); (case side1 => exact Yc (Z22 HR0_5.out Q0)); rintro e w' ⟨rfl, ⟨nd, rfl⟩⟩; refine ⟨_, rfl, ?_⟩))
    go_ret
    exact ⟨Q2, Q12⟩
   ·rw [if_neg c15] at H
    have c15b0 := Z37 c15
    clear c15
    obtain rfl := Option.some.inj H
    go_enter Try.func20, Try.ntmps20
    go_wp2_with (first | ((with_reducible refine gate_dst (N := 2) rfl ?_); refine Yx 2 #[.slice A0_0 l0_0.length c0_0, .slice A0_1 l0_1.length c0_1, .slice A0_2 l0_2.length c0_2, .slice A0_3 l0_3.length c0_3, .slice A0_4 l0_4.length c0_4, .slice A0_5 l0_5.length c0_5] 42 ?_; intro gb153 hg w20 hbox hb; have BK153 := Ya hbox; have GW153 := Yg hg; have GE153 := GW153; replace HB := Yh hb; clear hb hbox hg; obtain ⟨hcz21_0, hcz21_1, hcz21_2, hcz21_3, hcz21_4, hcz21_5, hfz21_0, hfz21_1, hfz21_2, hfz21_3, hfz21_4, hfz21_5⟩ := Y6 BK153.out) | ((with_reducible refine gate_callee (f := 8) rfl ?_); refine Yz 8 Try.func8 #[.agg #[.slice A0_0 l0_0.length c0_0, .slice A0_1 l0_1.length c0_1, .slice A0_2 l0_2.length c0_2, .slice A0_3 l0_3.length c0_3], .int .i64 a1] ?_; (with_reducible refine (laws_szFocus.calls _ _ l0_0 _ _ l0_1 _ _ l0_2 _ _ l0_3 a1 t154 _ (Yc (Z22 HR0_0.out HB.out)) HC0_0.out (Yc (Z22 HR0_1.out HB.out)) HC0_1.out (Yc (Z22 HR0_2.out HB.out)) HC0_2.out (Yc (Z22 HR0_3.out HB.out)) HC0_3.out A3.out).mono ?_); rintro e w22 ⟨rfl, hb⟩; refine ⟨_, rfl, ?_⟩; replace BK153 := Yb BK153 hb; replace HB := Yh hb; (try clear hb); obtain ⟨hcz23_0, hcz23_1, hcz23_2, hcz23_3, hcz23_4, hcz23_5, hfz23_0, hfz23_1, hfz23_2, hfz23_3, hfz23_4, hfz23_5⟩ := Y6 BK153.out) | ((with_reducible refine gate_callee (f := 28) rfl ?_); refine Yz 14 Try.func28 #[.slice A0_4 l0_4.length c0_4, .int .i64 t154] ?_; (with_reducible refine (laws_szIntS.calls _ _ l0_4 t154 t155 _ (Yc (Z22 HR0_4.out HB.out)) HC0_4.out A8.out).mono ?_); rintro e w' ⟨rfl, ⟨nd, rfl⟩⟩; refine ⟨_, rfl, ?_⟩) | ((with_reducible refine gate_callee (f := 28) rfl ?_); refine Yz 20 Try.func28 #[.slice A0_5 l0_5.length c0_5, .int .i64 t155] ?_; (with_reducible refine (laws_szIntS.calls _ _ l0_5 t155 t156 _ ?side1 HC0_5.out A14.out).mono ?_); (case side1 => exact Yc (Z22 HR0_5.out Q0)); rintro e w' ⟨rfl, ⟨nd, rfl⟩⟩; refine ⟨_, rfl, ?_⟩))
    go_ret
    exact ⟨Q2, Q12⟩
def laws_toIntS.l0 : Nat → List Int → List Int → Int → Option (List Int)
 | 0, _, _, _ => none
 | k + 1, x0, x3, x4 => if x4 < (x0.length : Int) then (if 0 ≤ x4 then (if x4 < (x3.length : Int) then (laws_toIntS.l0 k x0 (x3.set (x4 : Int).toNat (rd x0 x4)) (wrap64 (x4 + 1))) else (none)) else (none)) else (some x3)
def laws_toIntS.f (k : Nat) (l0 : List Int) : Option (List Int) := if 0 ≤ (l0.length : Int) then (if ((l0.length : Int) : Int).toNat ≤ 35184372088832 then (laws_toIntS.l0 k l0 (List.replicate ((l0.length : Int) : Int).toNat 0) 0) else (none)) else (none)
theorem laws_toIntS.mono_l : ∀ k, (∀ y0 y1 y2, LeO (laws_toIntS.l0 k y0 y1 y2) (laws_toIntS.l0 (k + 1) y0 y1 y2))
 | 0 => fun _ _ _ r h => by simp [laws_toIntS.l0] at h
 | k + 1 => by
  have ih0 := laws_toIntS.mono_l k
  ·intro y0 y1 y2
   unfold laws_toIntS.l0
   repeat' first
   | (with_reducible exact ih0 _ _ _)
   | (with_reducible exact LeO.refl _)
   | (with_reducible exact LeO.none _)
   | (with_reducible refine LeO.ite ?_ ?_)
   | (with_reducible refine LeO.bind ?_ (fun _ => ?_))
   | exact ih0 _ _ _
   | exact LeO.none _
   | refine LeO.ite ?_ ?_
   | refine LeO.bind ?_ (fun _ => ?_)
theorem laws_toIntS.mono : ∀ a0 k, LeO (laws_toIntS.f k a0) (laws_toIntS.f (k + 1) a0) := by
 intro a0 k
 have ih0 := laws_toIntS.mono_l k
 unfold laws_toIntS.f
 repeat' first
   | (with_reducible exact ih0 _ _ _)
   | (with_reducible exact LeO.refl _)
   | (with_reducible exact LeO.none _)
   | (with_reducible refine LeO.ite ?_ ?_)
   | (with_reducible refine LeO.bind ?_ (fun _ => ?_))
   | exact ih0 _ _ _
   | exact LeO.none _
   | refine LeO.ite ?_ ?_
   | refine LeO.bind ?_ (fun _ => ?_)
set_option maxHeartbeats 8000000 in
set_option maxRecDepth 100000 in
theorem laws_toIntS.calls (k : Nat) (A0 : Option Addr) (c0 : Nat) (l0 : List Int) (r : List Int) (w : World) (hr0 : Kd.C (Kd.int .i64) w A0 l0.length l0) (hc0 : l0.length ≤ c0) (h : laws_toIntS.f k l0 = some r) :
  Calls Try.prog 32 #[.slice A0 l0.length c0] w fun e w' => ∃ v0_ : Value, e = .returned (v0_) ∧ Kd.R (Kd.int .i64) 3 w' w.heap.size (fun _ => True) v0_ r ∧ Below w.heap.size w w' := by
 have HR0 := Ya hr0
 have HC0 := Ya hc0
 clear hr0 hc0
 have HB := Ya (Below.refl w.heap.size w)
 have H : (if 0 ≤ (l0.length : Int) then (if ((l0.length : Int) : Int).toNat ≤ 35184372088832 then (laws_toIntS.l0 k l0 (List.replicate ((l0.length : Int) : Int).toNat 0) 0) else (none)) else (none)) = some r := h
 clear h
 by_cases c2 : 0 ≤ (l0.length : Int)
 ·rw [if_pos c2] at H
  have c2b0 := eq_true c2
  have c2b1 := Z38 c2
  have HLEc2 := Ya c2
  clear c2
  by_cases c3 : ((l0.length : Int) : Int).toNat ≤ 35184372088832
  ·rw [if_pos c3] at H
   have c3b0 := eq_true c3
   have c3b1 := Z38 c3
   clear c3
   obtain ⟨y157, hy157⟩ : ∃ y_ : List Int, y_ = (List.replicate ((l0.length : Int) : Int).toNat 0) := ⟨_, rfl⟩
   replace H : (laws_toIntS.l0 k l0 y157 0) = some r := by first | (rw [hy157]; with_reducible exact H) | (have H2_ := (Option.bind_some _ _).symm.trans H; rw [hy157]; with_reducible exact H2_) | (have H2_ := (Option.bind_some _ _).symm.trans H; with_reducible exact H2_) | with_reducible exact H | (rw [hy157]; exact H) | exact H
   have Ny157 := Ya hy157
   clear hy157
   have H' := Ya H
   clear H
   go_enter Try.func32, Try.ntmps32
   go_wp2_with (first | ((with_reducible refine gate_dst (N := 7) rfl ?_); refine Kd.R_make (Kd.int .i64) _ 3 rfl (N := 7) rfl 22 _ _ rfl (l0.length : Int) rfl rfl Try.underlying22 (.int .i64 0) 8 info3 rfl (by decide) (by omega) 0 (ok := fun _ => True) (okp := fun _ => True) rfl (fun _ hk => hk) trivial (Z30 Q1) (Nat.le_trans (Nat.mul_le_mul_right _ (Z30 Q1 : (l0.length : Int).toNat ≤ 35184372088832)) (by omega)) (Below.refl _ _) (Nat.le_refl _) ?_; intro v158 w4 ho5 hb hg_ hnew_; clear hg_ hnew_; (first | rw [← Ny157.out] at ho5 | (simp only [Int.reduceToNat] at ho5; rw [← Ny157.out] at ho5)); have HO159 := Yl ho5; replace HB := Yh hb; clear hb ho5))
   go_loopg [4] k (fun kq v4 w' => ∃ (x3_1 : List Int) (x4_1 : Int), v4 = .int .i64 x4_1 ∧ Aside0 (laws_toIntS.l0 kq l0 x3_1 x4_1 = some r) ∧ Aside0 (kq ≤ k) ∧ Aside0 (Kd.R (Kd.int .i64) 3 w' w.heap.size (fun _ => True) v158 x3_1) ∧ Aside0 (Below w.heap.size w w'))
   case atStart => exact ⟨(y157), (0), Q8, H', ⟨Nat.le_refl _⟩, ⟨by (with_reducible repeat (first | apply Z9 | apply Z10 | apply Z11)); exact HO159.out⟩, ⟨Q12⟩⟩
   case round =>
    clear H'
    try clear c2
    try clear c2b0
    try clear c2b1
    try clear p2
    try clear c3
    try clear c3b0
    try clear c3b1
    obtain ⟨x3_1, x4_1, rfl, HA, HK1, HO_3, HB⟩ := hrel
    cases gk with
    | zero => exact absurd HA.out (by simp [laws_toIntS.l0])
    | succ k1 =>
     have H := HA.out
     clear HA
     simp only [laws_toIntS.l0] at H
     by_cases c6 : x4_1 < (l0.length : Int)
     ·rw [if_pos c6] at H
      have c6b0 := Z38 c6
      clear c6
      by_cases c7 : 0 ≤ x4_1
      ·rw [if_pos c7] at H
       have c7b0 := Z38 c7
       clear c7
       by_cases c8 : x4_1 < (x3_1.length : Int)
       ·rw [if_pos c8] at H
        have c8b0 := Z38 c8
        clear c8
        obtain ⟨y161, hy161⟩ : ∃ y_ : List Int, y_ = (x3_1.set (x4_1 : Int).toNat (rd l0 x4_1)) := ⟨_, rfl⟩
        replace H : (laws_toIntS.l0 k1 l0 y161 (wrap64 (x4_1 + 1))) = some r := by first | (rw [hy161]; with_reducible exact H) | (have H2_ := (Option.bind_some _ _).symm.trans H; rw [hy161]; with_reducible exact H2_) | (have H2_ := (Option.bind_some _ _).symm.trans H; with_reducible exact H2_) | with_reducible exact H | (rw [hy161]; exact H) | exact H
        have Ny161 := Ya hy161
        clear hy161
        have H' := Ya H
        clear H
        have p160 : 0 ≤ (x4_1 : Int) := Z30 Q1
        have q160 : x4_1 < (l0.length : Int) := Z30 Q1
        obtain ⟨ad160, e160, hx160_0⟩ := Kd.at_int HR0.out x4_1 p160 q160
        cases e160
        try replace hx160_0 := (HB.out.cell (World.block_lt_of_cell? w _ hx160_0)).trans hx160_0
        replace p160 := eq_true p160
        replace q160 := eq_true q160
        have p9 : 0 ≤ (x4_1 : Int) := Z30 Q1
        have q9 : (x4_1 : Int) < ((x3_1.length : Int) : Int) := Z30 Q1
        obtain ⟨go9, co9, eo9, gb9, gl9, cl9, HG9⟩ := Kd.R_form HO_3.out (by omega)
        (first | cases eo9 | (injection eo9 with ea_ en_ ec_; (first | subst ea_ | (injection ea_ with ea_; subst ea_)); subst ec_; clear en_))
        have GB9 := Ya gb9
        have GG9 := Ya HG9
        clear gb9 gl9 HG9
        obtain ⟨hx9_0, hf9_0⟩ := Kd.R_celln 0 HO_3.out (x4_1 : Int) p9 q9
        replace p9 := eq_true p9
        replace q9 := eq_true q9
        have HP10 := Kd.R_putg HO_3.out (x4_1 : Int) (rd l0 x4_1)
        go_wp2_with (first | ((with_reducible refine gate_store (t := 3) (p := 20) rfl ?_); refine store_event (t := 3) (p := 20) (v := ?vo_w11) (w1 := (wr.setCell ⟨go9, (x4_1 : Int).toNat, none⟩ (.int .i64 (rd l0 x4_1)))) ?hg ?ho ?hn ?hr ?_; (case ho => rfl); (case hg => rfl); (case hn => rfl); (case hr => first | (go_simp; done) | (go_simp; rfl)); intro w11 hw; have hg : wr.grownBy w11 (some go9) := (by rw [hw]; exact HP10.2); have hp_ : Kd.R (Kd.int .i64) 3 w11 w.heap.size (fun _ => True) (.slice (some ⟨go9, 0, none⟩) x3_1.length co9) y161 := (by rw [hw, Ny161.out]; exact HP10.1); clear HP10; replace HO_3 := Ya hp_; replace HB := Ya ((by rw [hw]; exact Z6 (HB.out) GB9.out : Below w.heap.size w w11)); clear hg hw hp_))
        go_roundg k1
        case measure => have := HK1.out; omega
        case rel => exact ⟨(y161), (wrap64 (x4_1 + 1)), Q8, H', ⟨Q20⟩, ⟨Q25⟩, ⟨Q12⟩⟩
       ·rw [if_neg c8] at H
        exact absurd H (by simp)
      ·rw [if_neg c7] at H
       exact absurd H (by simp)
     ·rw [if_neg c6] at H
      have c6b0 := Z37 c6
      clear c6
      obtain rfl := Option.some.inj H
      go_wp2
      go_ret
      exact ⟨_, Q2, Q25, Q12⟩
  ·rw [if_neg c3] at H
   exact absurd H (by simp)
 ·rw [if_neg c2] at H
  exact absurd H (by simp)
end Go.Proofs.Ytpfakdhfffehaaa.MFnExactStepSwapper
