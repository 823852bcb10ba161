import Derived.Test.YtpfakdhfffehaaaMFnExactStepSwapperx0
import Derived.Test.YtpfakdhfffehaaaMFnExactStepSwapperx3
import Derived.Test.YtpfakdhfffehaaaMFnExactStepSwapperx4
namespace Go.Proofs.Ytpfakdhfffehaaa.MFnExactStepSwapper
open Go.RowKit Go.Proofs.YtpfakdhfffehaaaW.PrintWords Go.Proofs.YtpfakdhfffehaaaW.PrintLast Go.Proofs.YtpfakdhfffehaaaW.PrintMore
attribute [local go_sem] max2_int min2_int max_two min_two max_three min_three max_four min_four   
set_option linter.unusedVariables false
set_option linter.unusedSimpArgs false
def spec_foSize.f (a0 : Int) : Option (Bool) := (spec_l1In.f a0 1 7).bind fun t317 => (some t317)
set_option maxHeartbeats 8000000 in
set_option maxRecDepth 100000 in
theorem spec_foSize.calls (a0 : Int) (r : Bool) (w : World) (h : spec_foSize.f a0 = some r) :
  Calls Try.prog 43 #[.int .i64 a0] w fun e w' => e = .returned (.bool r) ∧ Drawn0 w w' := by
 have H : ((spec_l1In.f a0 1 7).bind fun t317 => (some t317)) = some r := h
 clear h
 replace H := Z36.mp H
 obtain ⟨t317, A20, H⟩ := H
 replace H : (some t317) = some r := H
 have A2 := Ya A20
 clear A20
 obtain rfl := Option.some.inj H
 go_enter Try.func43, Try.ntmps43
 go_wp2_with (first | ((with_reducible refine gate_callee (f := 44) rfl ?_); refine Yz 4 Try.func44 #[.int .i64 a0, .int .i64 1, .int .i64 7] ?_; (with_reducible refine (spec_l1In.calls a0 1 7 t317 _ A2.out).mono ?_); rintro e w' ⟨rfl, ⟨nd, rfl⟩⟩; refine ⟨_, rfl, ?_⟩))
 go_ret
 exact ⟨Q13, Q5⟩
mutual
def spec_moApply.l0 : Nat → List Int → List Int → Int → Int → Int → Int → Option (List Int)
 | 0, _, _, _, _, _, _ => none
 | k + 1, x0, x5, x6, x319000, x319001, x319002 => if x6 < x319001 then (if 0 ≤ (wrap64 ((wrap64 (x319001 - 1)) - x6)) then (if (wrap64 ((wrap64 (x319001 - 1)) - x6)) < (x0.length : Int) then (if 0 ≤ x6 then (if x6 < (x5.length : Int) then (spec_moApply.l0 k x0 (x5.set (x6 : Int).toNat (rd x0 (wrap64 ((wrap64 (x319001 - 1)) - x6)))) (wrap64 (x6 + 1)) x319000 x319001 x319002) else (none)) else (none)) else (none)) else (none)) else (some x5)
def spec_moApply.l1 : Nat → List Int → List Int → Int → Int → Int → Int → Option (List Int)
 | 0, _, _, _, _, _, _ => none
 | k + 1, x0, x5, x7, x319000, x319001, x319002 => if x7 < x319001 then (if x319001 = 0 then (none) else (if 0 ≤ (Int.tmod (wrap64 (x7 + 1)) x319001) then (if (Int.tmod (wrap64 (x7 + 1)) x319001) < (x0.length : Int) then (if 0 ≤ x7 then (if x7 < (x5.length : Int) then (spec_moApply.l1 k x0 (x5.set (x7 : Int).toNat (rd x0 (Int.tmod (wrap64 (x7 + 1)) x319001))) (wrap64 (x7 + 1)) x319000 x319001 x319002) else (none)) else (none)) else (none)) else (none))) else (some x5)
end
def spec_moApply.f (k : Nat) (l0 : List Int) (a1_0 : Int) (a1_1 : Int) (a1_2 : Int) : Option (List Int) := (spec_l1Own.f l0).bind fun t319 => (if a1_0 = 0 then (if 0 ≤ a1_2 then (if a1_2 < (l0.length : Int) then (if 0 ≤ a1_1 then (if a1_1 < (t319.length : Int) then (if a1_1 < (l0.length : Int) then (if a1_2 < (t319.length : Int) then (some ((t319.set (a1_1 : Int).toNat (rd l0 a1_2)).set (a1_2 : Int).toNat (rd l0 a1_1))) else (none)) else (none)) else (none)) else (none)) else (none)) else (none)) else (if a1_0 = 1 then (spec_moApply.l0 k l0 t319 0 a1_0 a1_1 a1_2) else (spec_moApply.l1 k l0 t319 0 a1_0 a1_1 a1_2)))
theorem spec_moApply.mono_l : ∀ k, (∀ y0 y1 y2 y3 y4 y5, LeO (spec_moApply.l0 k y0 y1 y2 y3 y4 y5) (spec_moApply.l0 (k + 1) y0 y1 y2 y3 y4 y5)) ∧ (∀ y0 y1 y2 y3 y4 y5, LeO (spec_moApply.l1 k y0 y1 y2 y3 y4 y5) (spec_moApply.l1 (k + 1) y0 y1 y2 y3 y4 y5))
 | 0 => ⟨fun _ _ _ _ _ _ r h => by simp [spec_moApply.l0] at h, fun _ _ _ _ _ _ r h => by simp [spec_moApply.l1] at h⟩
 | k + 1 => by
  obtain ⟨ih0, ih1⟩ := spec_moApply.mono_l k
  refine ⟨?_, ?_⟩
  ·intro y0 y1 y2 y3 y4 y5
   unfold spec_moApply.l0
   repeat' first
   | (with_reducible exact ih0 _ _ _ _ _ _)
   | (with_reducible exact ih1 _ _ _ _ _ _)
   | (with_reducible exact LeO.refl _)
   | (with_reducible exact LeO.none _)
   | (with_reducible refine LeO.ite ?_ ?_)
   | (with_reducible refine LeO.bind ?_ (fun _ => ?_))
   | exact ih0 _ _ _ _ _ _
   | exact ih1 _ _ _ _ _ _
   | exact LeO.none _
   | refine LeO.ite ?_ ?_
   | refine LeO.bind ?_ (fun _ => ?_)
  ·intro y0 y1 y2 y3 y4 y5
   unfold spec_moApply.l1
   repeat' first
   | (with_reducible exact ih0 _ _ _ _ _ _)
   | (with_reducible exact ih1 _ _ _ _ _ _)
   | (with_reducible exact LeO.refl _)
   | (with_reducible exact LeO.none _)
   | (with_reducible refine LeO.ite ?_ ?_)
   | (with_reducible refine LeO.bind ?_ (fun _ => ?_))
   | exact ih0 _ _ _ _ _ _
   | exact ih1 _ _ _ _ _ _
   | exact LeO.none _
   | refine LeO.ite ?_ ?_
   | refine LeO.bind ?_ (fun _ => ?_)
theorem spec_moApply.mono : ∀ a0 a1 a2 a3 k, LeO (spec_moApply.f k a0 a1 a2 a3) (spec_moApply.f (k + 1) a0 a1 a2 a3) := by
 intro a0 a1 a2 a3 k
 obtain ⟨ih0, ih1⟩ := spec_moApply.mono_l k
 unfold spec_moApply.f
 repeat' first
   | (with_reducible exact ih0 _ _ _ _ _ _)
   | (with_reducible exact ih1 _ _ _ _ _ _)
   | (with_reducible exact LeO.refl _)
   | (with_reducible exact LeO.none _)
   | (with_reducible refine LeO.ite ?_ ?_)
   | (with_reducible refine LeO.bind ?_ (fun _ => ?_))
   | exact ih0 _ _ _ _ _ _
   | exact ih1 _ _ _ _ _ _
   | exact LeO.none _
   | refine LeO.ite ?_ ?_
   | refine LeO.bind ?_ (fun _ => ?_)
def spec_moApply.T8 : Bool × List (List Nat × List Nat) := (true, [([], []), ([], []), ([1], [1]), ([], []), ([], []), ([4], [4]), ([3, 5], [3, 5]), ([6], [6]), ([0, 2, 0, 1, 2, 3, 4, 5, 6, 7], [0, 2]), ([8, 7, 0, 1, 2, 3, 4, 5, 6, 7], [7, 8])])
def spec_moApply.B8 : List Nat := [0, 0, 2, 0, 0, 16, 56, 120, 255, 511]
theorem spec_moApply.tab8 : rtab .any (opsOf Try.f74 8) = spec_moApply.T8 := by kernel_rfl
theorem spec_moApply.bits8 : waitsOk spec_moApply.T8.2 spec_moApply.B8 = true := by kernel_rfl
def spec_moApply.T9 : Bool × List (List Nat × List Nat) := (true, [([], []), ([], []), ([1], [1]), ([], []), ([], []), ([4], [4]), ([3, 5], [3, 5]), ([6], [6]), ([0, 2, 0, 1, 2, 3, 4, 5, 6, 7], [0, 2]), ([8, 7, 0, 1, 2, 3, 4, 5, 6, 7], [7, 8])])
def spec_moApply.B9 : List Nat := [0, 0, 2, 0, 0, 16, 56, 120, 255, 511]
theorem spec_moApply.tab9 : rtab .any (opsOf Try.f74 9) = spec_moApply.T9 := by kernel_rfl
theorem spec_moApply.bits9 : waitsOk spec_moApply.T9.2 spec_moApply.B9 = true := by kernel_rfl
set_option maxHeartbeats 8000000 in
set_option maxRecDepth 100000 in
theorem spec_moApply.calls (k : Nat) (A0 : Option Addr) (c0 : Nat) (l0 : List Int) (a1_0 : Int) (a1_1 : Int) (a1_2 : Int) (r : List Int) (w : World) (hr0 : Kd.C (Kd.int .i64) w A0 l0.length l0) (hc0 : l0.length ≤ c0) (h : spec_moApply.f k l0 a1_0 a1_1 a1_2 = some r) :
  Calls Try.prog 74 #[.slice A0 l0.length c0, .agg #[.int .i64 a1_0, .int .i64 a1_1, .int .i64 a1_2]] w fun e w' => ∃ v0_ : Value, e = .returned (v0_) ∧ Kd.R (Kd.int .i64) 3 w' w.heap.size (fun _ => True) v0_ r ∧ Below w.heap.size w w' := by
 have hu82 := Try.underlying82
 have HR0 := Ya hr0
 have HC0 := Ya hc0
 clear hr0 hc0
 have HB := Ya (Below.refl w.heap.size w)
 have H : ((spec_l1Own.f l0).bind fun t319 => (if a1_0 = 0 then (if 0 ≤ a1_2 then (if a1_2 < (l0.length : Int) then (if 0 ≤ a1_1 then (if a1_1 < (t319.length : Int) then (if a1_1 < (l0.length : Int) then (if a1_2 < (t319.length : Int) then (some ((t319.set (a1_1 : Int).toNat (rd l0 a1_2)).set (a1_2 : Int).toNat (rd l0 a1_1))) else (none)) else (none)) else (none)) else (none)) else (none)) else (none)) else (if a1_0 = 1 then (spec_moApply.l0 k l0 t319 0 a1_0 a1_1 a1_2) else (spec_moApply.l1 k l0 t319 0 a1_0 a1_1 a1_2)))) = some r := h
 clear h
 replace H := Z36.mp H
 obtain ⟨t319, A30, H⟩ := H
 replace H : (if a1_0 = 0 then (if 0 ≤ a1_2 then (if a1_2 < (l0.length : Int) then (if 0 ≤ a1_1 then (if a1_1 < (t319.length : Int) then (if a1_1 < (l0.length : Int) then (if a1_2 < (t319.length : Int) then (some ((t319.set (a1_1 : Int).toNat (rd l0 a1_2)).set (a1_2 : Int).toNat (rd l0 a1_1))) else (none)) else (none)) else (none)) else (none)) else (none)) else (none)) else (if a1_0 = 1 then (spec_moApply.l0 k l0 t319 0 a1_0 a1_1 a1_2) else (spec_moApply.l1 k l0 t319 0 a1_0 a1_1 a1_2))) = some r := H
 have A3 := Ya A30
 clear A30
 by_cases c4 : a1_0 = 0
 ·rw [if_pos c4] at H
  have c4b0 : (a1_0 == 0) = true := beq_iff_eq.mpr c4
  have c4b1 : (a1_0 != 0) = false := bne_eq_false_iff_eq.mpr c4
  clear c4
  by_cases c5 : 0 ≤ a1_2
  ·rw [if_pos c5] at H
   have c5b0 := Z38 c5
   clear c5
   by_cases c6 : a1_2 < (l0.length : Int)
   ·rw [if_pos c6] at H
    have c6b0 := Z38 c6
    clear c6
    by_cases c7 : 0 ≤ a1_1
    ·rw [if_pos c7] at H
     have c7b0 := Z38 c7
     clear c7
     by_cases c8 : a1_1 < (t319.length : Int)
     ·rw [if_pos c8] at H
      have c8b0 := Z38 c8
      clear c8
      obtain ⟨y323, hy323⟩ : ∃ y_ : List Int, y_ = (t319.set (a1_1 : Int).toNat (rd l0 a1_2)) := ⟨_, rfl⟩
      replace H : (if a1_1 < (l0.length : Int) then (if a1_2 < (t319.length : Int) then (some (y323.set (a1_2 : Int).toNat (rd l0 a1_1))) else (none)) else (none)) = some r := by first | (rw [hy323]; with_reducible exact H) | (have H2_ := (Option.bind_some _ _).symm.trans H; rw [hy323]; with_reducible exact H2_) | (have H2_ := (Option.bind_some _ _).symm.trans H; with_reducible exact H2_) | with_reducible exact H | (rw [hy323]; exact H) | exact H
      have Ny323 := Ya hy323
      clear hy323
      by_cases c10 : a1_1 < (l0.length : Int)
      ·rw [if_pos c10] at H
       have c10b0 := Z38 c10
       clear c10
       by_cases c11 : a1_2 < (t319.length : Int)
       ·rw [if_pos c11] at H
        have c11b0 := Z38 c11
        clear c11
        obtain ⟨y325, hy325⟩ : ∃ y_ : List Int, y_ = (y323.set (a1_2 : Int).toNat (rd l0 a1_1)) := ⟨_, rfl⟩
        replace H : (some y325) = some r := by first | (rw [hy325]; with_reducible exact H) | (have H2_ := (Option.bind_some _ _).symm.trans H; rw [hy325]; with_reducible exact H2_) | (have H2_ := (Option.bind_some _ _).symm.trans H; with_reducible exact H2_) | with_reducible exact H | (rw [hy325]; exact H) | exact H
        have Ny325 := Ya hy325
        clear hy325
        obtain rfl := Option.some.inj H
        go_enter Try.func74, Try.ntmps74
        try go_wp2_with (first | ((with_reducible refine gate_dst (N := 3) rfl ?_); refine Yx 3 #[.int .i64 a1_0, .int .i64 a1_1, .int .i64 a1_2] 82 ?_; intro gb318 hg w13 hbox hb; have BK318 := Ya hbox; have GE318 := Yg hg; replace HB := Yh hb; clear hb hbox hg) | ((with_reducible refine gate_callee (f := 79) rfl ?_); refine Yz 9 Try.func79 #[.slice A0 l0.length c0] ?_; (with_reducible refine (spec_l1Own.calls _ _ l0 t319 _ (Yc (Z22 HR0.out HB.out)) HC0.out A3.out).mono ?_); rintro e w14 ⟨v320, rfl, ho0, hb⟩; refine ⟨_, rfl, ?_⟩; have HO321 := Yl ho0; replace BK318 := Yb BK318 hb; replace HB := Yh hb; (try clear hb ho0); have hcz15_0 : w14.cell? ⟨gb318, 0, none⟩ = some (.int .i64 a1_0) := (Z23 BK318.out 0).trans rfl; have hcz15_1 : w14.cell? ⟨gb318, 1, none⟩ = some (.int .i64 a1_1) := (Z23 BK318.out 1).trans rfl; have hcz15_2 : w14.cell? ⟨gb318, 2, none⟩ = some (.int .i64 a1_2) := (Z23 BK318.out 2).trans rfl; have hfz15_0 := Z24 BK318.out 0; have hfz15_1 := Z24 BK318.out 1; have hfz15_2 := Z24 BK318.out 2))
        replace HO321 := Ya (Z11 HO321.out)
        replace BK318 := Ya (Z26 BK318.out)
        replace HB := Ya (Z4 HB.out)
        have p322 : 0 ≤ (a1_2 : Int) := Z30 Q1
        have q322 : a1_2 < (l0.length : Int) := Z30 Q1
        obtain ⟨ad322, e322, hx322_0⟩ := Kd.at_int HR0.out a1_2 p322 q322
        have hw322_0 := hx322_0
        cases e322
        try replace hx322_0 := (HB.out.cell (World.block_lt_of_cell? w _ hx322_0)).trans hx322_0
        replace p322 := eq_true p322
        replace q322 := eq_true q322
        have p9 : 0 ≤ (a1_1 : Int) := Z30 Q1
        have q9 : (a1_1 : Int) < ((t319.length : Int) : Int) := Z30 Q1
        obtain ⟨go9, co9, eo9, gb9, gl9, cl9, HG9⟩ := Kd.R_form HO321.out (by omega)
        (first | cases eo9 | (injection eo9 with ea_ en_ ec_; (first | subst ea_ | (injection ea_ with ea_; subst ea_)); subst ec_; clear en_))
        have GB9 := Ya gb9
        have GG9 := Ya HG9
        clear gb9 gl9 HG9
        obtain ⟨hx9_0, hf9_0⟩ := Kd.R_celln 0 HO321.out (a1_1 : Int) p9 q9
        replace p9 := eq_true p9
        replace q9 := eq_true q9
        have HP17 := Kd.R_putn HO321.out (a1_1 : Int) (rd l0 a1_2)
        rw [← Ny323.out] at HP17
        have HQ17 := Ya HP17
        clear HP17
        refine start_ (n := 10) (S := fun w' => w'.cell? ⟨gb318, 0, none⟩ = some (.int .i64 a1_0) ∧ w'.cell? ⟨gb318, 1, none⟩ = some (.int .i64 a1_1) ∧ w'.cell? ⟨gb318, 2, none⟩ = some (.int .i64 a1_2) ∧ w'.cell? (ad322.add (a1_2).toNat) = some (.int .i64 (rd l0 a1_2))) (ds := [9]) (YA 10 0) (by kernel_rfl) rfl rfl ⟨(Z23 BK318.out 0).trans rfl, (Z23 BK318.out 1).trans rfl, (Z23 BK318.out 2).trans rfl, ((HB.out.cell (World.block_lt_of_cell? w _ hw322_0)).trans hw322_0)⟩ (fun hHeld => ?_); refine with_tabW spec_moApply.tab8 spec_moApply.bits8 (fun HT_ HW_ => ?_)
        generalize w14.drew = w16 at HO321 BK318 HB GG9 HQ17 hf9_0 hx322_0 hx9_0 hHeld ⊢
        refine Yp 0 (some 31) (YA 10 1) rfl HT_.out ?_
        refine Yp 1 (some 32) (YA 10 3) rfl HT_.out ?_
        refine Yp 3 (some 34) (YA 10 11) rfl HT_.out ?_
        refine Yp 4 (some 35) (YA 10 27) rfl HT_.out ?_
        refine Yt 2 (some 33) (YA 10 31) rfl HT_.out HW_.out hHeld Q3 ?_
        refine Yt 5 (some 36) (YA 10 63) rfl HT_.out HW_.out hHeld Q3 ?_
        refine Yp 6 (some 37) (YA 10 127) rfl HT_.out ?_
        refine Yt 7 (some 38) (YA 10 255) rfl HT_.out HW_.out hHeld Q3 ?_
        refine Yp 8 (some 39) (YA 10 511) rfl HT_.out ?_
        refine last_ (i := 9) (N := none) (YA 10 1023) rfl rfl (one_of HT_.out (by kernel_rfl)) (by decide) (fun K hK => ?_)
        refine skip_ (w1 := ?_) (by rfl) rfl ?_ ?_
        rotate_left
        ·go_simp
         rfl
        refine hK.out _ _ ?_
        clear hK K
        refine done_ (done_of HT_.out (by kernel_rfl)) ?_
        try go_wp2
        replace BK318 : Aside0 ((w16.setCell ⟨go9, (a1_1 : Int).toNat, none⟩ (.int .i64 (rd l0 a1_2))).heap[gb318]? = some (.cells #[.int .i64 a1_0, .int .i64 a1_1, .int .i64 a1_2] 82 (0, 0))) := ⟨by (with_reducible repeat (first | refine Z25 ?_ _ | refine Z26 ?_ | refine Z27 ?_ _)); refine blk_far ?_ (by have h_ := Kd.R_ne HO321.out BK318.out (by decide); intro e_; exact h_ (by rw [e_]; rfl)) _; (with_reducible repeat (first | refine Z25 ?_ _ | refine Z26 ?_ | refine Z27 ?_ _)); exact BK318.out⟩
        replace HO321 : Aside0 (Kd.R (Kd.int .i64) 3 (w16.setCell ⟨go9, (a1_1 : Int).toNat, none⟩ (.int .i64 (rd l0 a1_2))) w.heap.size (fun _ => True) (.slice (some ⟨go9, 0, none⟩) t319.length co9) y323) := ⟨by (with_reducible repeat (first | apply Z9 | apply Z10 | apply Z11)); exact HQ17.out⟩
        replace HB : Aside0 (Below w.heap.size w (w16.setCell ⟨go9, (a1_1 : Int).toNat, none⟩ (.int .i64 (rd l0 a1_2)))) := ⟨Q12⟩
        generalize (w16.setCell ⟨go9, (a1_1 : Int).toNat, none⟩ (.int .i64 (rd l0 a1_2))) = w18 at HO321 BK318 HB ⊢
        replace HO321 := Ya (Z11 HO321.out)
        replace BK318 := Ya (Z26 BK318.out)
        replace HB := Ya (Z4 HB.out)
        have p324 : 0 ≤ (a1_1 : Int) := Z30 Q1
        have q324 : a1_1 < (l0.length : Int) := Z30 Q1
        obtain ⟨ad324, e324, hx324_0⟩ := Kd.at_int HR0.out a1_1 p324 q324
        have hw324_0 := hx324_0
        obtain rfl : ad322 = ad324 := (by injection e324)
        try replace hx324_0 := (HB.out.cell (World.block_lt_of_cell? w _ hx324_0)).trans hx324_0
        replace p324 := eq_true p324
        replace q324 := eq_true q324
        have p12 : 0 ≤ (a1_2 : Int) := Z30 Q1
        have q12 : (a1_2 : Int) < ((t319.length : Int) : Int) := Z30 Q1
        obtain ⟨hx12_0, hf12_0⟩ := Kd.R_celln 0 HO321.out (a1_2 : Int) p12 q12
        replace p12 := eq_true p12
        replace q12 := eq_true q12
        have HP20 := Kd.R_putn HO321.out (a1_2 : Int) (rd l0 a1_1)
        rw [← Ny325.out] at HP20
        have HQ20 := Ya HP20
        clear HP20
        refine start_ (n := 10) (S := fun w' => w'.cell? ⟨gb318, 0, none⟩ = some (.int .i64 a1_0) ∧ w'.cell? ⟨gb318, 1, none⟩ = some (.int .i64 a1_1) ∧ w'.cell? ⟨gb318, 2, none⟩ = some (.int .i64 a1_2) ∧ w'.cell? (ad322.add (a1_1).toNat) = some (.int .i64 (rd l0 a1_1))) (ds := [9]) (YA 10 0) (by kernel_rfl) rfl rfl ⟨(Z23 BK318.out 0).trans rfl, (Z23 BK318.out 1).trans rfl, (Z23 BK318.out 2).trans rfl, ((HB.out.cell (World.block_lt_of_cell? w _ hw324_0)).trans hw324_0)⟩ (fun hHeld => ?_); refine with_tabW spec_moApply.tab9 spec_moApply.bits9 (fun HT_ HW_ => ?_)
        generalize w18.drew = w19 at HO321 BK318 HB HQ17 HQ20 hf12_0 hx12_0 hx324_0 hHeld ⊢
        refine Yp 0 (some 40) (YA 10 1) rfl HT_.out ?_
        refine Yp 1 (some 41) (YA 10 3) rfl HT_.out ?_
        refine Yp 3 (some 43) (YA 10 11) rfl HT_.out ?_
        refine Yp 4 (some 44) (YA 10 27) rfl HT_.out ?_
        refine Yt 2 (some 42) (YA 10 31) rfl HT_.out HW_.out hHeld Q3 ?_
        refine Yt 5 (some 45) (YA 10 63) rfl HT_.out HW_.out hHeld Q3 ?_
        refine Yp 6 (some 46) (YA 10 127) rfl HT_.out ?_
        refine Yt 7 (some 47) (YA 10 255) rfl HT_.out HW_.out hHeld Q3 ?_
        refine Yp 8 (some 48) (YA 10 511) rfl HT_.out ?_
        refine last_ (i := 9) (N := none) (YA 10 1023) rfl rfl (one_of HT_.out (by kernel_rfl)) (by decide) (fun K hK => ?_)
        refine skip_ (w1 := ?_) (by rfl) rfl ?_ ?_
        rotate_left
        ·go_simp
         rfl
        refine hK.out _ _ ?_
        clear hK K
        refine done_ (done_of HT_.out (by kernel_rfl)) ?_
        try go_wp2
        go_ret
        exact ⟨_, Q2, by (with_reducible repeat (first | apply Z9 | apply Z10 | apply Z11)); exact HQ20.out, Q12⟩
       ·rw [if_neg c11] at H
        exact absurd H (by simp)
      ·rw [if_neg c10] at H
       exact absurd H (by simp)
     ·rw [if_neg c8] at H
      exact absurd H (by simp)
    ·rw [if_neg c7] at H
     exact absurd H (by simp)
   ·rw [if_neg c6] at H
    exact absurd H (by simp)
  ·rw [if_neg c5] at H
   exact absurd H (by simp)
 ·rw [if_neg c4] at H
  have c4b0 : (a1_0 == 0) = false := beq_eq_false_iff_ne.mpr c4
  have c4b1 : (a1_0 != 0) = true := bne_iff_ne.mpr c4
  by_cases c21 : a1_0 = 1
  ·rw [if_pos c21] at H
   have c21b0 : (a1_0 == 1) = true := beq_iff_eq.mpr c21
   have c21b1 : (a1_0 != 1) = false := bne_eq_false_iff_eq.mpr c21
   clear c21
   have H' := Ya H
   clear H
   go_enter Try.func74, Try.ntmps74
   go_wp2_with (first | ((with_reducible refine gate_dst (N := 3) rfl ?_); refine Yx 3 #[.int .i64 a1_0, .int .i64 a1_1, .int .i64 a1_2] 82 ?_; intro gb318 hg w22 hbox hb; have BK318 := Ya hbox; have GE318 := Yg hg; replace HB := Yh hb; clear hb hbox hg) | ((with_reducible refine gate_callee (f := 79) rfl ?_); refine Yz 9 Try.func79 #[.slice A0 l0.length c0] ?_; (with_reducible refine (spec_l1Own.calls _ _ l0 t319 _ (Yc (Z22 HR0.out HB.out)) HC0.out A3.out).mono ?_); rintro e w23 ⟨v320, rfl, ho0, hb⟩; refine ⟨_, rfl, ?_⟩; have HO321 := Yl ho0; replace BK318 := Yb BK318 hb; replace HB := Yh hb; (try clear hb ho0); have hcz24_0 : w23.cell? ⟨gb318, 0, none⟩ = some (.int .i64 a1_0) := (Z23 BK318.out 0).trans rfl; have hcz24_1 : w23.cell? ⟨gb318, 1, none⟩ = some (.int .i64 a1_1) := (Z23 BK318.out 1).trans rfl; have hcz24_2 : w23.cell? ⟨gb318, 2, none⟩ = some (.int .i64 a1_2) := (Z23 BK318.out 2).trans rfl; have hfz24_0 := Z24 BK318.out 0; have hfz24_1 := Z24 BK318.out 1; have hfz24_2 := Z24 BK318.out 2))
   go_loopg [6] k (fun kq v6 w' => ∃ (x5_1 : List Int) (x6_1 : Int), v6 = .int .i64 x6_1 ∧ Aside0 (spec_moApply.l0 kq l0 x5_1 x6_1 a1_0 a1_1 a1_2 = some r) ∧ Aside0 (kq ≤ k) ∧ Aside0 (Kd.R (Kd.int .i64) 3 w' w.heap.size (fun _ => True) v320 x5_1) ∧ Aside0 (w'.heap[gb318]? = some (.cells #[.int .i64 a1_0, .int .i64 a1_1, .int .i64 a1_2] 82 (0, 0))) ∧ Aside0 (Below w.heap.size w w'))
   case atStart => exact ⟨(t319), (0), Q8, H', ⟨Nat.le_refl _⟩, ⟨by (with_reducible repeat (first | apply Z9 | apply Z10 | apply Z11)); exact HO321.out⟩, ⟨Q35⟩, ⟨Q12⟩⟩
   case round =>
    clear H'
    try clear c1
    try clear p1
    try clear q1
    try clear hx1
    try clear c2
    try clear p2
    try clear p3
    try clear q3
    try clear hx3
    try clear c4
    try clear c4b0
    try clear c4b1
    try clear c5
    try clear c5b0
    try clear c6
    try clear c6b0
    try clear c7
    try clear c7b0
    try clear c8
    try clear c8b0
    try clear p9
    try clear q9
    try clear hx9
    try clear hf9
    try clear c10
    try clear c10b0
    try clear c11
    try clear c11b0
    try clear p12
    try clear q12
    try clear hx12
    try clear hf12
    try clear c21
    try clear c21b0
    try clear c21b1
    try clear hcz15_0
    try clear hcz15_1
    try clear hcz15_2
    try clear hcz24_0
    try clear hcz24_1
    try clear hcz24_2
    try clear hfz15_0
    try clear hfz15_1
    try clear hfz15_2
    try clear hfz24_0
    try clear hfz24_1
    try clear hfz24_2
    try clear hx12_0
    try clear hx322_0
    try clear hx324_0
    try clear hx9_0
    try clear p12
    try clear p322
    try clear p324
    try clear p9
    try clear q12
    try clear q322
    try clear q324
    try clear q9
    obtain ⟨x5_1, x6_1, rfl, HA, HK1, HO_5, BK318, HB⟩ := hrel
    cases gk with
    | zero => exact absurd HA.out (by simp [spec_moApply.l0])
    | succ k1 =>
     have H := HA.out
     clear HA
     simp only [spec_moApply.l0] at H
     by_cases c25 : x6_1 < a1_1
     ·rw [if_pos c25] at H
      have c25b0 := Z38 c25
      clear c25
      obtain ⟨ji26, hji26⟩ : ∃ j_ : Int, (wrap64 ((wrap64 (a1_1 - 1)) - x6_1)) = j_ := ⟨_, rfl⟩
      replace H : (if 0 ≤ (ji26) then (if (ji26) < (l0.length : Int) then (if 0 ≤ x6_1 then (if x6_1 < (x5_1.length : Int) then (spec_moApply.l0 k1 l0 (x5_1.set (x6_1 : Int).toNat (rd l0 (ji26))) (wrap64 (x6_1 + 1)) a1_0 a1_1 a1_2) else (none)) else (none)) else (none)) else (none)) = some r := by first | (rw [hji26] at H; exact H) | (simp only [hji26] at H ⊢; exact H)
      have hji26w : (IntKind.i64.wrap ((wrap64 (a1_1 - 1)) - x6_1)) = ji26 := (i64_w _).trans hji26
      by_cases c27 : 0 ≤ (ji26)
      ·rw [if_pos c27] at H
       have c27b0 := Z38 c27
       clear c27
       by_cases c28 : (ji26) < (l0.length : Int)
       ·rw [if_pos c28] at H
        have c28b0 := Z38 c28
        clear c28
        by_cases c29 : 0 ≤ x6_1
        ·rw [if_pos c29] at H
         have c29b0 := Z38 c29
         clear c29
         by_cases c30 : x6_1 < (x5_1.length : Int)
         ·rw [if_pos c30] at H
          have c30b0 := Z38 c30
          clear c30
          obtain ⟨y327, hy327⟩ : ∃ y_ : List Int, y_ = (x5_1.set (x6_1 : Int).toNat (rd l0 (ji26))) := ⟨_, rfl⟩
          replace H : (spec_moApply.l0 k1 l0 y327 (wrap64 (x6_1 + 1)) a1_0 a1_1 a1_2) = some r := by first | (rw [hy327]; with_reducible exact H) | (have H2_ := (Option.bind_some _ _).symm.trans H; rw [hy327]; with_reducible exact H2_) | (have H2_ := (Option.bind_some _ _).symm.trans H; with_reducible exact H2_) | with_reducible exact H | (rw [hy327]; exact H) | exact H
          have Ny327 := Ya hy327
          clear hy327
          have H' := Ya H
          clear H
          have hcz32_0 : wr.cell? ⟨gb318, 0, none⟩ = some (.int .i64 a1_0) := (Z23 BK318.out 0).trans rfl
          have hcz32_1 : wr.cell? ⟨gb318, 1, none⟩ = some (.int .i64 a1_1) := (Z23 BK318.out 1).trans rfl
          have hcz32_2 : wr.cell? ⟨gb318, 2, none⟩ = some (.int .i64 a1_2) := (Z23 BK318.out 2).trans rfl
          have hfz32_0 := Z24 BK318.out 0
          have hfz32_1 := Z24 BK318.out 1
          have hfz32_2 := Z24 BK318.out 2
          have p326 : 0 ≤ ((ji26) : Int) := Z30 Q1
          have q326 : (ji26) < (l0.length : Int) := Z30 Q1
          obtain ⟨ad326, e326, hx326_0⟩ := Kd.at_int HR0.out (ji26) p326 q326
          cases e326
          try replace hx326_0 := (HB.out.cell (World.block_lt_of_cell? w _ hx326_0)).trans hx326_0
          replace p326 := eq_true p326
          replace q326 := eq_true q326
          have p31 : 0 ≤ (x6_1 : Int) := Z30 Q1
          have q31 : (x6_1 : Int) < ((x5_1.length : Int) : Int) := Z30 Q1
          obtain ⟨go31, co31, eo31, gb31, gl31, cl31, HG31⟩ := Kd.R_form HO_5.out (by omega)
          (first | cases eo31 | (injection eo31 with ea_ en_ ec_; (first | subst ea_ | (injection ea_ with ea_; subst ea_)); subst ec_; clear en_))
          have GB31 := Ya gb31
          have GG31 := Ya HG31
          clear gb31 gl31 HG31
          obtain ⟨hx31_0, hf31_0⟩ := Kd.R_celln 0 HO_5.out (x6_1 : Int) p31 q31
          replace p31 := eq_true p31
          replace q31 := eq_true q31
          have HP33 := Kd.R_putg HO_5.out (x6_1 : Int) (rd l0 (ji26))
          go_wp2_with (first | ((with_reducible refine gate_store (t := 3) (p := 67) rfl ?_); refine store_event (t := 3) (p := 67) (v := ?vo_w34) (w1 := (wr.setCell ⟨go31, (x6_1 : Int).toNat, none⟩ (.int .i64 (rd l0 (ji26))))) ?hg ?ho ?hn ?hr ?_; (case ho => rfl); (case hg => rfl); (case hn => rfl); (case hr => first | (go_simp; done) | (go_simp; rfl)); intro w34 hw; have hg : wr.grownBy w34 (some go31) := (by rw [hw]; exact HP33.2); have hp_ : Kd.R (Kd.int .i64) 3 w34 w.heap.size (fun _ => True) (.slice (some ⟨go31, 0, none⟩) x5_1.length co31) y327 := (by rw [hw, Ny327.out]; exact HP33.1); clear HP33; replace BK318 := Ya (blk_grown (g := gb318) (o := .cells #[.int .i64 a1_0, .int .i64 a1_1, .int .i64 a1_2] 82 (0, 0)) (Yk BK318.out) hg (Kd.R_ne HO_5.out BK318.out (by decide))); replace HO_5 := Ya hp_; replace HB := Ya ((by rw [hw]; exact Z6 (HB.out) GB31.out : Below w.heap.size w w34)); clear hg hw hp_))
          go_roundg k1
          case measure => have := HK1.out; omega
          case rel => exact ⟨(y327), (wrap64 (x6_1 + 1)), Q8, H', ⟨Q20⟩, ⟨Q38⟩, ⟨Q35⟩, ⟨Q12⟩⟩
         ·rw [if_neg c30] at H
          exact absurd H (by simp)
        ·rw [if_neg c29] at H
         exact absurd H (by simp)
       ·rw [if_neg c28] at H
        exact absurd H (by simp)
      ·rw [if_neg c27] at H
       exact absurd H (by simp)
     ·rw [if_neg c25] at H
      have c25b0 := Z37 c25
      clear c25
      obtain rfl := Option.some.inj H
      have hcz35_0 : wr.cell? ⟨gb318, 0, none⟩ = some (.int .i64 a1_0) := (Z23 BK318.out 0).trans rfl
      have hcz35_1 : wr.cell? ⟨gb318, 1, none⟩ = some (.int .i64 a1_1) := (Z23 BK318.out 1).trans rfl
      have hcz35_2 : wr.cell? ⟨gb318, 2, none⟩ = some (.int .i64 a1_2) := (Z23 BK318.out 2).trans rfl
      have hfz35_0 := Z24 BK318.out 0
      have hfz35_1 := Z24 BK318.out 1
      have hfz35_2 := Z24 BK318.out 2
      go_wp2
      go_ret
      exact ⟨_, Q2, Q38, Q12⟩
  ·rw [if_neg c21] at H
   have c21b0 : (a1_0 == 1) = false := beq_eq_false_iff_ne.mpr c21
   have c21b1 : (a1_0 != 1) = true := bne_iff_ne.mpr c21
   have H' := Ya H
   clear H
   go_enter Try.func74, Try.ntmps74
   go_wp2_with (first | ((with_reducible refine gate_dst (N := 3) rfl ?_); refine Yx 3 #[.int .i64 a1_0, .int .i64 a1_1, .int .i64 a1_2] 82 ?_; intro gb318 hg w36 hbox hb; have BK318 := Ya hbox; have GE318 := Yg hg; replace HB := Yh hb; clear hb hbox hg) | ((with_reducible refine gate_callee (f := 79) rfl ?_); refine Yz 9 Try.func79 #[.slice A0 l0.length c0] ?_; (with_reducible refine (spec_l1Own.calls _ _ l0 t319 _ (Yc (Z22 HR0.out HB.out)) HC0.out A3.out).mono ?_); rintro e w37 ⟨v320, rfl, ho0, hb⟩; refine ⟨_, rfl, ?_⟩; have HO321 := Yl ho0; replace BK318 := Yb BK318 hb; replace HB := Yh hb; (try clear hb ho0); have hcz38_0 : w37.cell? ⟨gb318, 0, none⟩ = some (.int .i64 a1_0) := (Z23 BK318.out 0).trans rfl; have hcz38_1 : w37.cell? ⟨gb318, 1, none⟩ = some (.int .i64 a1_1) := (Z23 BK318.out 1).trans rfl; have hcz38_2 : w37.cell? ⟨gb318, 2, none⟩ = some (.int .i64 a1_2) := (Z23 BK318.out 2).trans rfl; have hfz38_0 := Z24 BK318.out 0; have hfz38_1 := Z24 BK318.out 1; have hfz38_2 := Z24 BK318.out 2))
   go_loopg [7] k (fun kq v7 w' => ∃ (x5_1 : List Int) (x7_1 : Int), v7 = .int .i64 x7_1 ∧ Aside0 (spec_moApply.l1 kq l0 x5_1 x7_1 a1_0 a1_1 a1_2 = some r) ∧ Aside0 (kq ≤ k) ∧ Aside0 (Kd.R (Kd.int .i64) 3 w' w.heap.size (fun _ => True) v320 x5_1) ∧ Aside0 (w'.heap[gb318]? = some (.cells #[.int .i64 a1_0, .int .i64 a1_1, .int .i64 a1_2] 82 (0, 0))) ∧ Aside0 (Below w.heap.size w w'))
   case atStart => exact ⟨(t319), (0), Q8, H', ⟨Nat.le_refl _⟩, ⟨by (with_reducible repeat (first | apply Z9 | apply Z10 | apply Z11)); exact HO321.out⟩, ⟨Q35⟩, ⟨Q12⟩⟩
   case round =>
    clear H'
    try clear c1
    try clear p1
    try clear q1
    try clear hx1
    try clear c2
    try clear p2
    try clear c3
    try clear p3
    try clear q3
    try clear hx3
    try clear hf3
    try clear c4
    try clear c4b0
    try clear c4b1
    try clear c5
    try clear c5b0
    try clear c6
    try clear c6b0
    try clear p6
    try clear c7
    try clear c7b0
    try clear c8
    try clear c8b0
    try clear p9
    try clear q9
    try clear hx9
    try clear hf9
    try clear c10
    try clear c10b0
    try clear c11
    try clear c11b0
    try clear p12
    try clear q12
    try clear hx12
    try clear hf12
    try clear c21
    try clear c21b0
    try clear c21b1
    try clear c25
    try clear c25b0
    try clear c27
    try clear c27b0
    try clear c28
    try clear c28b0
    try clear c29
    try clear c29b0
    try clear c30
    try clear c30b0
    try clear p31
    try clear q31
    try clear hx31
    try clear hf31
    try clear p32
    try clear q32
    try clear hx32
    try clear hcz15_0
    try clear hcz15_1
    try clear hcz15_2
    try clear hcz24_0
    try clear hcz24_1
    try clear hcz24_2
    try clear hcz32_0
    try clear hcz32_1
    try clear hcz32_2
    try clear hcz35_0
    try clear hcz35_1
    try clear hcz35_2
    try clear hcz38_0
    try clear hcz38_1
    try clear hcz38_2
    try clear hfz15_0
    try clear hfz15_1
    try clear hfz15_2
    try clear hfz24_0
    try clear hfz24_1
    try clear hfz24_2
    try clear hfz32_0
    try clear hfz32_1
    try clear hfz32_2
    try clear hfz35_0
    try clear hfz35_1
    try clear hfz35_2
    try clear hfz38_0
    try clear hfz38_1
    try clear hfz38_2
    try clear hx12_0
    try clear hx31_0
    try clear hx322_0
    try clear hx324_0
    try clear hx326_0
    try clear hx9_0
    try clear p1
    try clear p12
    try clear p2
    try clear p3
    try clear p31
    try clear p322
    try clear p324
    try clear p326
    try clear p9
    try clear q1
    try clear q12
    try clear q3
    try clear q31
    try clear q322
    try clear q324
    try clear q326
    try clear q9
    obtain ⟨x5_1, x7_1, rfl, HA, HK1, HO_5, BK318, HB⟩ := hrel
    cases gk with
    | zero => exact absurd HA.out (by simp [spec_moApply.l1])
    | succ k1 =>
     have H := HA.out
     clear HA
     simp only [spec_moApply.l1] at H
     by_cases c39 : x7_1 < a1_1
     ·rw [if_pos c39] at H
      have c39b0 := Z38 c39
      clear c39
      by_cases c40 : a1_1 = 0
      ·rw [if_pos c40] at H
       exact absurd H (by simp)
      ·rw [if_neg c40] at H
       have c40b0 : (a1_1 == 0) = false := beq_eq_false_iff_ne.mpr c40
       have c40b1 : (a1_1 != 0) = true := bne_iff_ne.mpr c40
       obtain ⟨ji41, hji41⟩ : ∃ j_ : Int, (Int.tmod (wrap64 (x7_1 + 1)) a1_1) = j_ := ⟨_, rfl⟩
       replace H : (if 0 ≤ (ji41) then (if (ji41) < (l0.length : Int) then (if 0 ≤ x7_1 then (if x7_1 < (x5_1.length : Int) then (spec_moApply.l1 k1 l0 (x5_1.set (x7_1 : Int).toNat (rd l0 (ji41))) (wrap64 (x7_1 + 1)) a1_0 a1_1 a1_2) else (none)) else (none)) else (none)) else (none)) = some r := by first | (rw [hji41] at H; exact H) | (simp only [hji41] at H ⊢; exact H)
       by_cases c42 : 0 ≤ (ji41)
       ·rw [if_pos c42] at H
        have c42b0 := Z38 c42
        clear c42
        by_cases c43 : (ji41) < (l0.length : Int)
        ·rw [if_pos c43] at H
         have c43b0 := Z38 c43
         clear c43
         by_cases c44 : 0 ≤ x7_1
         ·rw [if_pos c44] at H
          have c44b0 := Z38 c44
          clear c44
          by_cases c45 : x7_1 < (x5_1.length : Int)
          ·rw [if_pos c45] at H
           have c45b0 := Z38 c45
           clear c45
           obtain ⟨y329, hy329⟩ : ∃ y_ : List Int, y_ = (x5_1.set (x7_1 : Int).toNat (rd l0 (ji41))) := ⟨_, rfl⟩
           replace H : (spec_moApply.l1 k1 l0 y329 (wrap64 (x7_1 + 1)) a1_0 a1_1 a1_2) = some r := by first | (rw [hy329]; with_reducible exact H) | (have H2_ := (Option.bind_some _ _).symm.trans H; rw [hy329]; with_reducible exact H2_) | (have H2_ := (Option.bind_some _ _).symm.trans H; with_reducible exact H2_) | with_reducible exact H | (rw [hy329]; exact H) | exact H
           have Ny329 := Ya hy329
           clear hy329
           have H' := Ya H
           clear H
           have hcz47_0 : wr.cell? ⟨gb318, 0, none⟩ = some (.int .i64 a1_0) := (Z23 BK318.out 0).trans rfl
           have hcz47_1 : wr.cell? ⟨gb318, 1, none⟩ = some (.int .i64 a1_1) := (Z23 BK318.out 1).trans rfl
           have hcz47_2 : wr.cell? ⟨gb318, 2, none⟩ = some (.int .i64 a1_2) := (Z23 BK318.out 2).trans rfl
           have hfz47_0 := Z24 BK318.out 0
           have hfz47_1 := Z24 BK318.out 1
           have hfz47_2 := Z24 BK318.out 2
           have p328 : 0 ≤ ((ji41) : Int) := Z30 Q1
           have q328 : (ji41) < (l0.length : Int) := Z30 Q1
           obtain ⟨ad328, e328, hx328_0⟩ := Kd.at_int HR0.out (ji41) p328 q328
           cases e328
           try replace hx328_0 := (HB.out.cell (World.block_lt_of_cell? w _ hx328_0)).trans hx328_0
           replace p328 := eq_true p328
           replace q328 := eq_true q328
           have p46 : 0 ≤ (x7_1 : Int) := Z30 Q1
           have q46 : (x7_1 : Int) < ((x5_1.length : Int) : Int) := Z30 Q1
           obtain ⟨go46, co46, eo46, gb46, gl46, cl46, HG46⟩ := Kd.R_form HO_5.out (by omega)
           (first | cases eo46 | (injection eo46 with ea_ en_ ec_; (first | subst ea_ | (injection ea_ with ea_; subst ea_)); subst ec_; clear en_))
           have GB46 := Ya gb46
           have GG46 := Ya HG46
           clear gb46 gl46 HG46
           obtain ⟨hx46_0, hf46_0⟩ := Kd.R_celln 0 HO_5.out (x7_1 : Int) p46 q46
           replace p46 := eq_true p46
           replace q46 := eq_true q46
           have HP48 := Kd.R_putg HO_5.out (x7_1 : Int) (rd l0 (ji41))
           go_wp2_with (first | ((with_reducible refine gate_store (t := 3) (p := 28) rfl ?_); refine store_event (t := 3) (p := 28) (v := ?vo_w49) (w1 := (wr.setCell ⟨go46, (x7_1 : Int).toNat, none⟩ (.int .i64 (rd l0 (ji41))))) ?hg ?ho ?hn ?hr ?_; (case ho => rfl); (case hg => rfl); (case hn => rfl); (case hr => first | (go_simp; done) | (go_simp; rfl)); intro w49 hw; have hg : wr.grownBy w49 (some go46) := (by rw [hw]; exact HP48.2); have hp_ : Kd.R (Kd.int .i64) 3 w49 w.heap.size (fun _ => True) (.slice (some ⟨go46, 0, none⟩) x5_1.length co46) y329 := (by rw [hw, Ny329.out]; exact HP48.1); clear HP48; replace BK318 := Ya (blk_grown (g := gb318) (o := .cells #[.int .i64 a1_0, .int .i64 a1_1, .int .i64 a1_2] 82 (0, 0)) (Yk BK318.out) hg (Kd.R_ne HO_5.out BK318.out (by decide))); replace HO_5 := Ya hp_; replace HB := Ya ((by rw [hw]; exact Z6 (HB.out) GB46.out : Below w.heap.size w w49)); clear hg hw hp_))
           go_roundg k1
           case measure => have := HK1.out; omega
           case rel => exact ⟨(y329), (wrap64 (x7_1 + 1)), Q8, H', ⟨Q20⟩, ⟨Q38⟩, ⟨Q35⟩, ⟨Q12⟩⟩
          ·rw [if_neg c45] at H
           exact absurd H (by simp)
         ·rw [if_neg c44] at H
          exact absurd H (by simp)
        ·rw [if_neg c43] at H
         exact absurd H (by simp)
       ·rw [if_neg c42] at H
        exact absurd H (by simp)
     ·rw [if_neg c39] at H
      have c39b0 := Z37 c39
      clear c39
      obtain rfl := Option.some.inj H
      have hcz50_0 : wr.cell? ⟨gb318, 0, none⟩ = some (.int .i64 a1_0) := (Z23 BK318.out 0).trans rfl
      have hcz50_1 : wr.cell? ⟨gb318, 1, none⟩ = some (.int .i64 a1_1) := (Z23 BK318.out 1).trans rfl
      have hcz50_2 : wr.cell? ⟨gb318, 2, none⟩ = some (.int .i64 a1_2) := (Z23 BK318.out 2).trans rfl
      have hfz50_0 := Z24 BK318.out 0
      have hfz50_1 := Z24 BK318.out 1
      have hfz50_2 := Z24 BK318.out 2
      go_wp2
      go_ret
      exact ⟨_, Q2, Q38, Q12⟩
def spec_raInverse.l0 : Nat → List Int → List Int → Int → Int → Option (List Int)
 | 0, _, _, _, _ => none
 | k + 1, x3, x9, x10, x11 => if x11 < x10 then (if 0 ≤ x11 then (if x11 < (x9.length : Int) then (if 0 ≤ (rd x9 x11) then (if (rd x9 x11) < (x3.length : Int) then (spec_raInverse.l0 k (x3.set ((rd x9 x11) : Int).toNat x11) x9 x10 (wrap64 (x11 + 1))) else (none)) else (none)) else (none)) else (none)) else (some x3)
def spec_raInverse.f (k : Nat) (l0 : List Int) : Option (List Int) := if 0 ≤ (l0.length : Int) then (if ((l0.length : Int) : Int).toNat ≤ 35184372088832 then (spec_raInverse.l0 k (List.replicate ((l0.length : Int) : Int).toNat 0) l0 (l0.length : Int) 0) else (none)) else (none)
theorem spec_raInverse.mono_l : ∀ k, (∀ y0 y1 y2 y3, LeO (spec_raInverse.l0 k y0 y1 y2 y3) (spec_raInverse.l0 (k + 1) y0 y1 y2 y3))
 | 0 => fun _ _ _ _ r h => by simp [spec_raInverse.l0] at h
 | k + 1 => by
  have ih0 := spec_raInverse.mono_l k
  ·intro y0 y1 y2 y3
   unfold spec_raInverse.l0
   repeat' first
   | (with_reducible exact ih0 _ _ _ _)
   | (with_reducible exact LeO.refl _)
   | (with_reducible exact LeO.none _)
   | (with_reducible refine LeO.ite ?_ ?_)
   | (with_reducible refine LeO.bind ?_ (fun _ => ?_))
   | exact ih0 _ _ _ _
   | exact LeO.none _
   | refine LeO.ite ?_ ?_
   | refine LeO.bind ?_ (fun _ => ?_)
theorem spec_raInverse.mono : ∀ a0 k, LeO (spec_raInverse.f k a0) (spec_raInverse.f (k + 1) a0) := by
 intro a0 k
 have ih0 := spec_raInverse.mono_l k
 unfold spec_raInverse.f
 repeat' first
   | (with_reducible exact ih0 _ _ _ _)
   | (with_reducible exact LeO.refl _)
   | (with_reducible exact LeO.none _)
   | (with_reducible refine LeO.ite ?_ ?_)
   | (with_reducible refine LeO.bind ?_ (fun _ => ?_))
   | exact ih0 _ _ _ _
   | exact LeO.none _
   | refine LeO.ite ?_ ?_
   | refine LeO.bind ?_ (fun _ => ?_)
set_option maxHeartbeats 8000000 in
set_option maxRecDepth 100000 in
theorem spec_raInverse.calls (k : Nat) (A0 : Option Addr) (c0 : Nat) (l0 : List Int) (r : List Int) (w : World) (hr0 : Kd.C (Kd.int .i64) w A0 l0.length l0) (hc0 : l0.length ≤ c0) (h : spec_raInverse.f k l0 = some r) :
  Calls Try.prog 75 #[.slice A0 l0.length c0] w fun e w' => ∃ v0_ : Value, e = .returned (v0_) ∧ Kd.R (Kd.int .i64) 3 w' w.heap.size (fun _ => True) v0_ r ∧ Below w.heap.size w w' := by
 have HR0 := Ya hr0
 have HC0 := Ya hc0
 clear hr0 hc0
 have HB := Ya (Below.refl w.heap.size w)
 have H : (if 0 ≤ (l0.length : Int) then (if ((l0.length : Int) : Int).toNat ≤ 35184372088832 then (spec_raInverse.l0 k (List.replicate ((l0.length : Int) : Int).toNat 0) l0 (l0.length : Int) 0) else (none)) else (none)) = some r := h
 clear h
 by_cases c2 : 0 ≤ (l0.length : Int)
 ·rw [if_pos c2] at H
  have c2b0 := eq_true c2
  have c2b1 := Z38 c2
  have HLEc2 := Ya c2
  clear c2
  by_cases c3 : ((l0.length : Int) : Int).toNat ≤ 35184372088832
  ·rw [if_pos c3] at H
   have c3b0 := eq_true c3
   have c3b1 := Z38 c3
   clear c3
   obtain ⟨y330, hy330⟩ : ∃ y_ : List Int, y_ = (List.replicate ((l0.length : Int) : Int).toNat 0) := ⟨_, rfl⟩
   replace H : (spec_raInverse.l0 k y330 l0 (l0.length : Int) 0) = some r := by first | (rw [hy330]; with_reducible exact H) | (have H2_ := (Option.bind_some _ _).symm.trans H; rw [hy330]; with_reducible exact H2_) | (have H2_ := (Option.bind_some _ _).symm.trans H; with_reducible exact H2_) | with_reducible exact H | (rw [hy330]; exact H) | exact H
   have Ny330 := Ya hy330
   clear hy330
   have H' := Ya H
   clear H
   go_enter Try.func75, Try.ntmps75
   go_wp2_with (first | ((with_reducible refine gate_dst (N := 8) rfl ?_); refine Kd.R_make (Kd.int .i64) _ 3 rfl (N := 8) rfl 22 _ _ rfl (l0.length : Int) rfl rfl Try.underlying22 (.int .i64 0) 8 info3 rfl (by decide) (by omega) 0 (ok := fun _ => True) (okp := fun _ => True) rfl (fun _ hk => hk) trivial (Z30 Q1) (Nat.le_trans (Nat.mul_le_mul_right _ (Z30 Q1 : (l0.length : Int).toNat ≤ 35184372088832)) (by omega)) (Below.refl _ _) (Nat.le_refl _) ?_; intro v331 w4 ho5 hb hg_ hnew_; clear hg_ hnew_; (first | rw [← Ny330.out] at ho5 | (simp only [Int.reduceToNat] at ho5; rw [← Ny330.out] at ho5)); have HO332 := Yl ho5; replace HB := Yh hb; clear hb ho5))
   go_loopg [11] k (fun kq v11 w' => ∃ (x3_1 : List Int) (x11_1 : Int), v11 = .int .i64 x11_1 ∧ Aside0 (spec_raInverse.l0 kq x3_1 l0 (l0.length : Int) x11_1 = some r) ∧ Aside0 (kq ≤ k) ∧ Aside0 (Kd.R (Kd.int .i64) 3 w' w.heap.size (fun _ => True) v331 x3_1) ∧ Aside0 (Below w.heap.size w w'))
   case atStart => exact ⟨(y330), (0), Q8, H', ⟨Nat.le_refl _⟩, ⟨by (with_reducible repeat (first | apply Z9 | apply Z10 | apply Z11)); exact HO332.out⟩, ⟨Q12⟩⟩
   case round =>
    clear H'
    try clear c2
    try clear c2b0
    try clear c2b1
    try clear p2
    try clear c3
    try clear c3b0
    try clear c3b1
    obtain ⟨x3_1, x11_1, rfl, HA, HK1, HO_3, HB⟩ := hrel
    cases gk with
    | zero => exact absurd HA.out (by simp [spec_raInverse.l0])
    | succ k1 =>
     have H := HA.out
     clear HA
     simp only [spec_raInverse.l0] at H
     by_cases c6 : x11_1 < (l0.length : Int)
     ·rw [if_pos c6] at H
      have c6b0 := Z38 c6
      clear c6
      by_cases c7 : 0 ≤ x11_1
      ·rw [if_pos c7] at H
       have c7b0 := Z38 c7
       clear c7
       by_cases c8 : x11_1 < (l0.length : Int)
       ·rw [if_pos c8] at H
        have c8b0 := Z38 c8
        clear c8
        by_cases c9 : 0 ≤ (rd l0 x11_1)
        ·rw [if_pos c9] at H
         have c9b0 := Z38 c9
         clear c9
         by_cases c10 : (rd l0 x11_1) < (x3_1.length : Int)
         ·rw [if_pos c10] at H
          have c10b0 := Z38 c10
          clear c10
          obtain ⟨y334, hy334⟩ : ∃ y_ : List Int, y_ = (x3_1.set ((rd l0 x11_1) : Int).toNat x11_1) := ⟨_, rfl⟩
          replace H : (spec_raInverse.l0 k1 y334 l0 (l0.length : Int) (wrap64 (x11_1 + 1))) = some r := by first | (rw [hy334]; with_reducible exact H) | (have H2_ := (Option.bind_some _ _).symm.trans H; rw [hy334]; with_reducible exact H2_) | (have H2_ := (Option.bind_some _ _).symm.trans H; with_reducible exact H2_) | with_reducible exact H | (rw [hy334]; exact H) | exact H
          have Ny334 := Ya hy334
          clear hy334
          have H' := Ya H
          clear H
          have p333 : 0 ≤ (x11_1 : Int) := Z30 Q1
          have q333 : x11_1 < (l0.length : Int) := Z30 Q1
          obtain ⟨ad333, e333, hx333_0⟩ := Kd.at_int HR0.out x11_1 p333 q333
          cases e333
          try replace hx333_0 := (HB.out.cell (World.block_lt_of_cell? w _ hx333_0)).trans hx333_0
          replace p333 := eq_true p333
          replace q333 := eq_true q333
          have p11 : 0 ≤ ((rd l0 x11_1) : Int) := Z30 Q1
          have q11 : ((rd l0 x11_1) : Int) < ((x3_1.length : Int) : Int) := Z30 Q1
          obtain ⟨go11, co11, eo11, gb11, gl11, cl11, HG11⟩ := Kd.R_form HO_3.out (by omega)
          (first | cases eo11 | (injection eo11 with ea_ en_ ec_; (first | subst ea_ | (injection ea_ with ea_; subst ea_)); subst ec_; clear en_))
          have GB11 := Ya gb11
          have GG11 := Ya HG11
          clear gb11 gl11 HG11
          obtain ⟨hx11_0, hf11_0⟩ := Kd.R_celln 0 HO_3.out ((rd l0 x11_1) : Int) p11 q11
          replace p11 := eq_true p11
          replace q11 := eq_true q11
          have HP12 := Kd.R_putg HO_3.out ((rd l0 x11_1) : Int) x11_1
          go_wp2_with (first | ((with_reducible refine gate_store (t := 3) (p := 19) rfl ?_); refine store_event (t := 3) (p := 19) (v := ?vo_w13) (w1 := (wr.setCell ⟨go11, ((rd l0 x11_1) : Int).toNat, none⟩ (.int .i64 x11_1))) ?hg ?ho ?hn ?hr ?_; (case ho => rfl); (case hg => rfl); (case hn => rfl); (case hr => first | (go_simp; done) | (go_simp; rfl)); intro w13 hw; have hg : wr.grownBy w13 (some go11) := (by rw [hw]; exact HP12.2); have hp_ : Kd.R (Kd.int .i64) 3 w13 w.heap.size (fun _ => True) (.slice (some ⟨go11, 0, none⟩) x3_1.length co11) y334 := (by rw [hw, Ny334.out]; exact HP12.1); clear HP12; replace HO_3 := Ya hp_; replace HB := Ya ((by rw [hw]; exact Z6 (HB.out) GB11.out : Below w.heap.size w w13)); clear hg hw hp_))
          go_roundg k1
          case measure => have := HK1.out; omega
          case rel => exact ⟨(y334), (wrap64 (x11_1 + 1)), Q8, H', ⟨Q20⟩, ⟨Q25⟩, ⟨Q12⟩⟩
         ·rw [if_neg c10] at H
          exact absurd H (by simp)
        ·rw [if_neg c9] at H
         exact absurd H (by simp)
       ·rw [if_neg c8] at H
        exact absurd H (by simp)
      ·rw [if_neg c7] at H
       exact absurd H (by simp)
     ·rw [if_neg c6] at H
      have c6b0 := Z37 c6
      clear c6
      obtain rfl := Option.some.inj H
      go_wp2
      go_ret
      exact ⟨_, Q2, Q25, Q12⟩
  ·rw [if_neg c3] at H
   exact absurd H (by simp)
 ·rw [if_neg c2] at H
  exact absurd H (by simp)
def spec_foSwap.f (k : Nat) (l0_0 : List Int) (l0_1 : List Int) (l0_2 : List Bool) (l0_3 : List Int) (l0_4 : List Int) (l0_5 : List Int) : Option (List Int × List Int × List Bool × List Int × List Int × List Int × Int) := (spec_foStep.f l0_0 l0_1 l0_2 l0_3).bind fun bt337 => (if bt337.2.2.2.2 < 0 then (some (([] : List Int), ([] : List Int), ([] : List Bool), ([] : List Int), ([] : List Int), ([] : List Int), (-1))) else (if 0 ≤ (wrap64 (bt337.2.2.2.2 + 1)) then (if (wrap64 (bt337.2.2.2.2 + 1)) < (l0_5.length : Int) then (if 0 ≤ bt337.2.2.2.2 then (if bt337.2.2.2.2 < (bt337.2.1.length : Int) then (if bt337.2.2.2.2 < (l0_1.length : Int) then (if (rd bt337.2.1 bt337.2.2.2.2) > (rd l0_1 bt337.2.2.2.2) then ((spec_moApply.f k l0_4 0 (wrap64 ((rd l0_5 (wrap64 (bt337.2.2.2.2 + 1))) - 1)) (wrap64 ((wrap64 ((rd l0_5 (wrap64 (bt337.2.2.2.2 + 1))) - 1)) + 1))).bind fun t354 => ((spec_raInverse.f k t354).bind fun t357 => (some (bt337.1, bt337.2.1, bt337.2.2.1, bt337.2.2.2.1, t354, t357, wrap64 ((rd l0_5 (wrap64 (bt337.2.2.2.2 + 1))) - 1))))) else ((spec_moApply.f k l0_4 0 (rd l0_5 (wrap64 (bt337.2.2.2.2 + 1))) (wrap64 ((rd l0_5 (wrap64 (bt337.2.2.2.2 + 1))) + 1))).bind fun t360 => ((spec_raInverse.f k t360).bind fun t363 => (some (bt337.1, bt337.2.1, bt337.2.2.1, bt337.2.2.2.1, t360, t363, rd l0_5 (wrap64 (bt337.2.2.2.2 + 1))))))) else (none)) else (none)) else (none)) else (none)) else (none)))
theorem spec_foSwap.mono : ∀ a0 a1 a2 a3 a4 a5 k, LeO (spec_foSwap.f k a0 a1 a2 a3 a4 a5) (spec_foSwap.f (k + 1) a0 a1 a2 a3 a4 a5) := by
 intro a0 a1 a2 a3 a4 a5 k
 unfold spec_foSwap.f
 repeat' first
   | (with_reducible exact spec_moApply.mono _ _ _ _ _)
   | (with_reducible exact spec_raInverse.mono _ _)
   | (with_reducible exact LeO.refl _)
   | (with_reducible exact LeO.none _)
   | (with_reducible refine LeO.ite ?_ ?_)
   | (with_reducible refine LeO.bind ?_ (fun _ => ?_))
   | exact spec_moApply.mono _ _ _ _ _
   | exact spec_raInverse.mono _ _
   | exact LeO.none _
   | refine LeO.ite ?_ ?_
   | refine LeO.bind ?_ (fun _ => ?_)
def spec_foSwap.T5 : Bool × List (List Nat × List Nat) := (true, [([], []), ([0], [0]), ([], []), ([1, 2], [1, 2]), ([3], [3]), ([], []), ([5], [5]), ([6], [6]), ([], []), ([7, 8], [7, 8]), ([9], [9]), ([4, 10], [4, 10])])
def spec_foSwap.B5 : List Nat := [0, 1, 0, 7, 15, 0, 32, 96, 0, 480, 992, 2047]
theorem spec_foSwap.tab5 : rtab .any (opsOf Try.f55 5) = spec_foSwap.T5 := by kernel_rfl
theorem spec_foSwap.bits5 : waitsOk spec_foSwap.T5.2 spec_foSwap.B5 = true := by kernel_rfl
def spec_foSwap.T8 : Bool × List (List Nat × List Nat) := (true, [([], []), ([], []), ([], []), ([2], [2]), ([0, 1, 3], [0, 1, 3]), ([], []), ([4, 3, 0, 1, 2, 3, 4], [4]), ([5, 6, 0, 1, 2, 3, 4, 5, 6], [5])])
def spec_foSwap.B8 : List Nat := [0, 0, 0, 4, 15, 0, 31, 127]
theorem spec_foSwap.tab8 : rtab .any (opsOf Try.f55 8) = spec_foSwap.T8 := by kernel_rfl
theorem spec_foSwap.bits8 : waitsOk spec_foSwap.T8.2 spec_foSwap.B8 = true := by kernel_rfl
set_option maxHeartbeats 8000000 in
set_option maxRecDepth 100000 in
theorem spec_foSwap.calls (k : Nat) (A0_0 : Option Addr) (c0_0 : Nat) (l0_0 : List Int) (A0_1 : Option Addr) (c0_1 : Nat) (l0_1 : List Int) (A0_2 : Option Addr) (c0_2 : Nat) (l0_2 : List Bool) (A0_3 : Option Addr) (c0_3 : Nat) (l0_3 : List Int) (A0_4 : Option Addr) (c0_4 : Nat) (l0_4 : List Int) (A0_5 : Option Addr) (c0_5 : Nat) (l0_5 : List Int) (r1 : List Int) (r2 : List Int) (r3 : List Bool) (r4 : List Int) (r5 : List Int) (r6 : List Int) (r7 : Int) (w : World) (hr0_0 : Kd.C (Kd.int .i64) w A0_0 l0_0.length l0_0) (hc0_0 : l0_0.length ≤ c0_0) (hr0_1 : Kd.C (Kd.int .i64) w A0_1 l0_1.length l0_1) (hc0_1 : l0_1.length ≤ c0_1) (hr0_2 : Kd.C Kd.bool w A0_2 l0_2.length l0_2) (hc0_2 : l0_2.length ≤ c0_2) (hr0_3 : Kd.C (Kd.int .i64) w A0_3 l0_3.length l0_3) (hc0_3 : l0_3.length ≤ c0_3) (hr0_4 : Kd.C (Kd.int .i64) w A0_4 l0_4.length l0_4) (hc0_4 : l0_4.length ≤ c0_4) (hr0_5 : Kd.C (Kd.int .i64) w A0_5 l0_5.length l0_5) (hc0_5 : l0_5.length ≤ c0_5) (h : spec_foSwap.f k l0_0 l0_1 l0_2 l0_3 l0_4 l0_5 = some (r1, r2, r3, r4, r5, r6, r7)) :
  Calls Try.prog 55 #[.agg #[.slice A0_0 l0_0.length c0_0, .slice A0_1 l0_1.length c0_1, .slice A0_2 l0_2.length c0_2, .slice A0_3 l0_3.length c0_3, .slice A0_4 l0_4.length c0_4, .slice A0_5 l0_5.length c0_5]] w fun e w' => ∃ v0_ v1_ v2_ v3_ v4_ v5_ : Value, e = .returned (.tuple #[.agg #[v0_, v1_, v2_, v3_, v4_, v5_], .int .i64 r7]) ∧ Kd.R (Kd.int .i64) 3 w' w.heap.size (fun k_ => some k_ ≠ (v1_ : Value).ownBlock ∧ some k_ ≠ (v3_ : Value).ownBlock ∧ some k_ ≠ (v4_ : Value).ownBlock ∧ some k_ ≠ (v5_ : Value).ownBlock) v0_ r1 ∧ Kd.R (Kd.int .i64) 3 w' w.heap.size (fun k_ => some k_ ≠ (v0_ : Value).ownBlock ∧ some k_ ≠ (v3_ : Value).ownBlock ∧ some k_ ≠ (v4_ : Value).ownBlock ∧ some k_ ≠ (v5_ : Value).ownBlock) v1_ r2 ∧ Kd.R Kd.bool 4 w' w.heap.size (fun _ => True) v2_ r3 ∧ Kd.R (Kd.int .i64) 3 w' w.heap.size (fun k_ => some k_ ≠ (v0_ : Value).ownBlock ∧ some k_ ≠ (v1_ : Value).ownBlock ∧ some k_ ≠ (v4_ : Value).ownBlock ∧ some k_ ≠ (v5_ : Value).ownBlock) v3_ r4 ∧ Kd.R (Kd.int .i64) 3 w' w.heap.size (fun k_ => some k_ ≠ (v0_ : Value).ownBlock ∧ some k_ ≠ (v1_ : Value).ownBlock ∧ some k_ ≠ (v3_ : Value).ownBlock ∧ some k_ ≠ (v5_ : Value).ownBlock) v4_ r5 ∧ Kd.R (Kd.int .i64) 3 w' w.heap.size (fun k_ => some k_ ≠ (v0_ : Value).ownBlock ∧ some k_ ≠ (v1_ : Value).ownBlock ∧ some k_ ≠ (v3_ : Value).ownBlock ∧ some k_ ≠ (v4_ : Value).ownBlock) v5_ r6 ∧ Below w.heap.size w w' := by
 have hu35 := Try.underlying35
 have hu27 := Try.underlying27
 have hu82 := Try.underlying82
 have HR0_0 := Ya hr0_0
 have HC0_0 := Ya hc0_0
 clear hr0_0 hc0_0
 have HR0_1 := Ya hr0_1
 have HC0_1 := Ya hc0_1
 clear hr0_1 hc0_1
 have HR0_2 := Ya hr0_2
 have HC0_2 := Ya hc0_2
 clear hr0_2 hc0_2
 have HR0_3 := Ya hr0_3
 have HC0_3 := Ya hc0_3
 clear hr0_3 hc0_3
 have HR0_4 := Ya hr0_4
 have HC0_4 := Ya hc0_4
 clear hr0_4 hc0_4
 have HR0_5 := Ya hr0_5
 have HC0_5 := Ya hc0_5
 clear hr0_5 hc0_5
 have HB := Ya (Below.refl w.heap.size w)
 have H : ((spec_foStep.f l0_0 l0_1 l0_2 l0_3).bind fun bt337 => (if bt337.2.2.2.2 < 0 then (some (([] : List Int), ([] : List Int), ([] : List Bool), ([] : List Int), ([] : List Int), ([] : List Int), (-1))) else (if 0 ≤ (wrap64 (bt337.2.2.2.2 + 1)) then (if (wrap64 (bt337.2.2.2.2 + 1)) < (l0_5.length : Int) then (if 0 ≤ bt337.2.2.2.2 then (if bt337.2.2.2.2 < (bt337.2.1.length : Int) then (if bt337.2.2.2.2 < (l0_1.length : Int) then (if (rd bt337.2.1 bt337.2.2.2.2) > (rd l0_1 bt337.2.2.2.2) then ((spec_moApply.f k l0_4 0 (wrap64 ((rd l0_5 (wrap64 (bt337.2.2.2.2 + 1))) - 1)) (wrap64 ((wrap64 ((rd l0_5 (wrap64 (bt337.2.2.2.2 + 1))) - 1)) + 1))).bind fun t354 => ((spec_raInverse.f k t354).bind fun t357 => (some (bt337.1, bt337.2.1, bt337.2.2.1, bt337.2.2.2.1, t354, t357, wrap64 ((rd l0_5 (wrap64 (bt337.2.2.2.2 + 1))) - 1))))) else ((spec_moApply.f k l0_4 0 (rd l0_5 (wrap64 (bt337.2.2.2.2 + 1))) (wrap64 ((rd l0_5 (wrap64 (bt337.2.2.2.2 + 1))) + 1))).bind fun t360 => ((spec_raInverse.f k t360).bind fun t363 => (some (bt337.1, bt337.2.1, bt337.2.2.1, bt337.2.2.2.1, t360, t363, rd l0_5 (wrap64 (bt337.2.2.2.2 + 1))))))) else (none)) else (none)) else (none)) else (none)) else (none)))) = some (r1, r2, r3, r4, r5, r6, r7) := h
 clear h
 replace H := Z36.mp H
 obtain ⟨⟨t337, t340, t343, t346, t349⟩, A20, H⟩ := H
 replace H : (if t349 < 0 then (some (([] : List Int), ([] : List Int), ([] : List Bool), ([] : List Int), ([] : List Int), ([] : List Int), (-1))) else (if 0 ≤ (wrap64 (t349 + 1)) then (if (wrap64 (t349 + 1)) < (l0_5.length : Int) then (if 0 ≤ t349 then (if t349 < (t340.length : Int) then (if t349 < (l0_1.length : Int) then (if (rd t340 t349) > (rd l0_1 t349) then ((spec_moApply.f k l0_4 0 (wrap64 ((rd l0_5 (wrap64 (t349 + 1))) - 1)) (wrap64 ((wrap64 ((rd l0_5 (wrap64 (t349 + 1))) - 1)) + 1))).bind fun t354 => ((spec_raInverse.f k t354).bind fun t357 => (some (t337, t340, t343, t346, t354, t357, wrap64 ((rd l0_5 (wrap64 (t349 + 1))) - 1))))) else ((spec_moApply.f k l0_4 0 (rd l0_5 (wrap64 (t349 + 1))) (wrap64 ((rd l0_5 (wrap64 (t349 + 1))) + 1))).bind fun t360 => ((spec_raInverse.f k t360).bind fun t363 => (some (t337, t340, t343, t346, t360, t363, rd l0_5 (wrap64 (t349 + 1))))))) else (none)) else (none)) else (none)) else (none)) else (none))) = some (r1, r2, r3, r4, r5, r6, r7) := H
 have A2 := Ya A20
 clear A20
 by_cases c3 : t349 < 0
 ·rw [if_pos c3] at H
  have c3b0 := Z38 c3
  clear c3
  simp only [Option.some.injEq, Prod.mk.injEq] at H
  obtain ⟨rfl, rfl, rfl, rfl, rfl, rfl, rfl⟩ := H
  go_enter Try.func55, Try.ntmps55
  go_wp2_with (first | ((with_reducible refine gate_dst (N := 1) rfl ?_); refine Yx 1 #[.slice A0_0 l0_0.length c0_0, .slice A0_1 l0_1.length c0_1, .slice A0_2 l0_2.length c0_2, .slice A0_3 l0_3.length c0_3, .slice A0_4 l0_4.length c0_4, .slice A0_5 l0_5.length c0_5] 35 ?_; intro gb335 hg w4 hbox hb; have BK335 := Ya hbox; have GW335 := Yg hg; have GE335 := GW335; replace HB := Yh hb; clear hb hbox hg) | ((with_reducible refine gate_dst (N := 2) rfl ?_); refine Yx 2 YN6 35 ?_; intro gb336 hg w5 hbox hb; have BK336 := Ya hbox; have GW336 := Yg hg; have GE336 := GW336; replace HB := Yh hb; have NB335_336 := Yn BK335 hg; have NB336_335 := Ym BK335 hg; replace BK335 := Yb BK335 hb; clear hb hbox hg; have hnb6 := NB335_336.out; have hnc6 := NB336_335.out; have hz7 := Y6 BK335.out) | ((with_reducible refine gate_callee (f := 31) rfl ?_); refine Yz 11 Try.func31 #[.agg #[.slice A0_0 l0_0.length c0_0, .slice A0_1 l0_1.length c0_1, .slice A0_2 l0_2.length c0_2, .slice A0_3 l0_3.length c0_3]] ?_; (with_reducible refine (spec_foStep.calls _ _ l0_0 _ _ l0_1 _ _ l0_2 _ _ l0_3 t337 t340 t343 t346 t349 _ (Yc (Z22 HR0_0.out HB.out)) HC0_0.out (Yc (Z22 HR0_1.out HB.out)) HC0_1.out (Yc (Z22 HR0_2.out HB.out)) HC0_2.out (Yc (Z22 HR0_3.out HB.out)) HC0_3.out A2.out).mono ?_); rintro e w8 ⟨v338, v341, v344, v347, rfl, ho0, ho1, ho2, ho3, hb⟩; refine ⟨_, rfl, ?_⟩; have HO339 := Yl ho0; have HO342 := Yl ho1; have HO345 := Yl ho2; have HO348 := Yl ho3; replace BK335 := Yb BK335 hb; replace BK336 := Yb BK336 hb; replace HB := Yh hb; (try clear hb ho0 ho1 ho2 ho3)) | ((with_reducible refine gate_dst (N := 4) rfl ?_); refine Yx 4 YN4 27 ?_; intro gb350 hg w9 hbox hb; replace HO339 := Yw HO339 hb; replace HO342 := Yw HO342 hb; replace HO345 := Yw HO345 hb; replace HO348 := Yw HO348 hb; have BK350 := Ya hbox; have GW350 := Yg hg; have GE350 := GW350; replace HB := Yh hb; have NB335_350 := Yn BK335 hg; have NB350_335 := Ym BK335 hg; replace BK335 := Yb BK335 hb; have NB336_350 := Yn BK336 hg; have NB350_336 := Ym BK336 hg; replace BK336 := Yb BK336 hb; clear hb hbox hg; obtain ⟨Ao10, co10, rfl⟩ := Z19 HO339.out; have hnb11 := NB350_335.out; have hnc11 := NB335_350.out; have hnb12 := NB350_336.out; have hnc12 := NB336_350.out; have hz13 := Y4 BK350.out; obtain ⟨Ao14, co14, rfl⟩ := Z19 HO342.out; obtain ⟨Ao15, co15, rfl⟩ := Z19 HO345.out; obtain ⟨Ao16, co16, rfl⟩ := Z19 HO348.out; have hz17 := Y6 BK336.out))
  refine bodyPost_ret (results_ct rfl _ _ gb336 35 YN6 (0, 0) _ rfl (Yk (Yv6 (Yo4 BK336.out NB336_350.out))) Try.underlying35 rfl (by kernel_rfl)) rfl ?_
  exact ⟨_, _, _, _, _, _, Q2, Q6, Q6, Q6, Q6, Q6, Q6, Q12⟩
 ·rw [if_neg c3] at H
  have c3b0 := Z37 c3
  clear c3
  obtain ⟨ji18, hji18⟩ : ∃ j_ : Int, (wrap64 (t349 + 1)) = j_ := ⟨_, rfl⟩
  replace H : (if 0 ≤ (ji18) then (if (ji18) < (l0_5.length : Int) then (if 0 ≤ t349 then (if t349 < (t340.length : Int) then (if t349 < (l0_1.length : Int) then (if (rd t340 t349) > (rd l0_1 t349) then ((spec_moApply.f k l0_4 0 (wrap64 ((rd l0_5 (ji18)) - 1)) (wrap64 ((wrap64 ((rd l0_5 (ji18)) - 1)) + 1))).bind fun t354 => ((spec_raInverse.f k t354).bind fun t357 => (some (t337, t340, t343, t346, t354, t357, wrap64 ((rd l0_5 (ji18)) - 1))))) else ((spec_moApply.f k l0_4 0 (rd l0_5 (ji18)) (wrap64 ((rd l0_5 (ji18)) + 1))).bind fun t360 => ((spec_raInverse.f k t360).bind fun t363 => (some (t337, t340, t343, t346, t360, t363, rd l0_5 (ji18)))))) else (none)) else (none)) else (none)) else (none)) else (none)) = some (r1, r2, r3, r4, r5, r6, r7) := by first | (rw [hji18] at H; exact H) | (simp only [hji18] at H ⊢; exact H)
  (try rw [hji18] at A2)
  have hji18w : (IntKind.i64.wrap (t349 + 1)) = ji18 := (i64_w _).trans hji18
  by_cases c19 : 0 ≤ (ji18)
  ·rw [if_pos c19] at H
   have c19b0 := Z38 c19
   clear c19
   by_cases c20 : (ji18) < (l0_5.length : Int)
   ·rw [if_pos c20] at H
    have c20b0 := Z38 c20
    clear c20
    by_cases c21 : 0 ≤ t349
    ·rw [if_pos c21] at H
     have c21b0 := Z38 c21
     clear c21
     by_cases c22 : t349 < (t340.length : Int)
     ·rw [if_pos c22] at H
      have c22b0 := Z38 c22
      clear c22
      by_cases c23 : t349 < (l0_1.length : Int)
      ·rw [if_pos c23] at H
       have c23b0 := Z38 c23
       clear c23
       by_cases c24 : (rd t340 t349) > (rd l0_1 t349)
       ·rw [if_pos c24] at H
        have c24b0 : decide ((rd l0_1 t349) < (rd t340 t349)) = true := Z38 c24
        clear c24
        replace H := Z36.mp H
        obtain ⟨t354, A250, H⟩ := H
        replace H : ((spec_raInverse.f k t354).bind fun t357 => (some (t337, t340, t343, t346, t354, t357, wrap64 ((rd l0_5 (ji18)) - 1)))) = some (r1, r2, r3, r4, r5, r6, r7) := H
        have A25 := Ya A250
        clear A250
        replace H := Z36.mp H
        obtain ⟨t357, A260, H⟩ := H
        replace H : (some (t337, t340, t343, t346, t354, t357, wrap64 ((rd l0_5 (ji18)) - 1))) = some (r1, r2, r3, r4, r5, r6, r7) := H
        have A26 := Ya A260
        clear A260
        simp only [Option.some.injEq, Prod.mk.injEq] at H
        obtain ⟨rfl, rfl, rfl, rfl, rfl, rfl, rfl⟩ := H
        go_enter Try.func55, Try.ntmps55
        try go_wp2_with (first | ((with_reducible refine gate_dst (N := 1) rfl ?_); refine Yx 1 #[.slice A0_0 l0_0.length c0_0, .slice A0_1 l0_1.length c0_1, .slice A0_2 l0_2.length c0_2, .slice A0_3 l0_3.length c0_3, .slice A0_4 l0_4.length c0_4, .slice A0_5 l0_5.length c0_5] 35 ?_; intro gb335 hg w27 hbox hb; have BK335 := Ya hbox; have GW335 := Yg hg; have GE335 := GW335; replace HB := Yh hb; clear hb hbox hg) | ((with_reducible refine gate_dst (N := 2) rfl ?_); refine Yx 2 YN6 35 ?_; intro gb336 hg w28 hbox hb; have BK336 := Ya hbox; have GW336 := Yg hg; have GE336 := GW336; replace HB := Yh hb; have NB335_336 := Yn BK335 hg; have NB336_335 := Ym BK335 hg; replace BK335 := Yb BK335 hb; clear hb hbox hg; have hnb29 := NB335_336.out; have hnc29 := NB336_335.out; have hz30 := Y6 BK335.out) | ((with_reducible refine gate_callee (f := 31) rfl ?_); refine Yz 11 Try.func31 #[.agg #[.slice A0_0 l0_0.length c0_0, .slice A0_1 l0_1.length c0_1, .slice A0_2 l0_2.length c0_2, .slice A0_3 l0_3.length c0_3]] ?_; (with_reducible refine (spec_foStep.calls _ _ l0_0 _ _ l0_1 _ _ l0_2 _ _ l0_3 t337 t340 t343 t346 t349 _ (Yc (Z22 HR0_0.out HB.out)) HC0_0.out (Yc (Z22 HR0_1.out HB.out)) HC0_1.out (Yc (Z22 HR0_2.out HB.out)) HC0_2.out (Yc (Z22 HR0_3.out HB.out)) HC0_3.out A2.out).mono ?_); rintro e w31 ⟨v338, v341, v344, v347, rfl, ho0, ho1, ho2, ho3, hb⟩; refine ⟨_, rfl, ?_⟩; have HO339 := Yl ho0; have HO342 := Yl ho1; have HO345 := Yl ho2; have HO348 := Yl ho3; replace BK335 := Yb BK335 hb; replace BK336 := Yb BK336 hb; replace HB := Yh hb; (try clear hb ho0 ho1 ho2 ho3)) | ((with_reducible refine gate_dst (N := 4) rfl ?_); refine Yx 4 YN4 27 ?_; intro gb350 hg w32 hbox hb; replace HO339 := Yw HO339 hb; replace HO342 := Yw HO342 hb; replace HO345 := Yw HO345 hb; replace HO348 := Yw HO348 hb; have BK350 := Ya hbox; have GW350 := Yg hg; have GE350 := GW350; replace HB := Yh hb; have NB335_350 := Yn BK335 hg; have NB350_335 := Ym BK335 hg; replace BK335 := Yb BK335 hb; have NB336_350 := Yn BK336 hg; have NB350_336 := Ym BK336 hg; replace BK336 := Yb BK336 hb; clear hb hbox hg; obtain ⟨Ao33, co33, rfl⟩ := Z19 HO339.out; have hnb34 := NB350_335.out; have hnc34 := NB335_350.out; have hnb35 := NB350_336.out; have hnc35 := NB336_350.out; have hz36 := Y4 BK350.out; obtain ⟨Ao37, co37, rfl⟩ := Z19 HO342.out; obtain ⟨Ao38, co38, rfl⟩ := Z19 HO345.out; obtain ⟨Ao39, co39, rfl⟩ := Z19 HO348.out; have hz40 := Y6 BK335.out; have p351 : 0 ≤ ((ji18) : Int) := Z30 Q1; have q351 : (ji18) < (l0_5.length : Int) := Z30 Q1; obtain ⟨ad351, e351, hx351_0⟩ := Kd.at_int HR0_5.out (ji18) p351 q351; cases e351; have hn351_0 : ad351.block ≠ gb350 := Nat.ne_of_lt (Nat.lt_of_lt_of_le Q21 GW350.out); have hn351_1 : ad351.block ≠ gb350 := Nat.ne_of_lt (Nat.lt_of_lt_of_le Q21 GW350.out); have hn351_2 : ad351.block ≠ gb350 := Nat.ne_of_lt (Nat.lt_of_lt_of_le Q21 GW350.out); have hn351_3 : ad351.block ≠ gb350 := Nat.ne_of_lt (Nat.lt_of_lt_of_le Q21 GW350.out); try replace hx351_0 := (HB.out.cell (World.block_lt_of_cell? w _ hx351_0)).trans hx351_0; replace hx351_0 := (cell_far (p := ⟨gb350, 0, none⟩) Q50 (.slice Ao33 t337.length co33)).trans hx351_0; replace hx351_0 := (cell_far (p := ⟨gb350, 1, none⟩) Q49 (.slice Ao37 t340.length co37)).trans hx351_0; replace hx351_0 := (cell_far (p := ⟨gb350, 2, none⟩) Q48 (.slice Ao38 t343.length co38)).trans hx351_0; replace hx351_0 := (cell_far (p := ⟨gb350, 3, none⟩) Q47 (.slice Ao39 t346.length co39)).trans hx351_0; clear hn351_0; clear hn351_1; clear hn351_2; clear hn351_3; replace p351 := eq_true p351; replace q351 := eq_true q351))
        replace HO339 : Aside0 (Kd.R (Kd.int .i64) 3 ((((w32.setCell ⟨gb350, 0, none⟩ (.slice Ao33 t337.length co33)).setCell ⟨gb350, 1, none⟩ (.slice Ao37 t340.length co37)).setCell ⟨gb350, 2, none⟩ (.slice Ao38 t343.length co38)).setCell ⟨gb350, 3, none⟩ (.slice Ao39 t346.length co39)) w.heap.size (fun k_ => some k_ ≠ (.slice Ao37 t340.length co37 : Value).ownBlock ∧ some k_ ≠ (.slice Ao39 t346.length co39 : Value).ownBlock) (.slice Ao33 t337.length co33) t337) := ⟨Yj (Yf4 HO339.out BK350.out) (fun _ hk => ⟨hk.1.1, hk.1.2⟩)⟩
        replace HO342 : Aside0 (Kd.R (Kd.int .i64) 3 ((((w32.setCell ⟨gb350, 0, none⟩ (.slice Ao33 t337.length co33)).setCell ⟨gb350, 1, none⟩ (.slice Ao37 t340.length co37)).setCell ⟨gb350, 2, none⟩ (.slice Ao38 t343.length co38)).setCell ⟨gb350, 3, none⟩ (.slice Ao39 t346.length co39)) w.heap.size (fun k_ => some k_ ≠ (.slice Ao33 t337.length co33 : Value).ownBlock ∧ some k_ ≠ (.slice Ao39 t346.length co39 : Value).ownBlock) (.slice Ao37 t340.length co37) t340) := ⟨Yj (Yf4 HO342.out BK350.out) (fun _ hk => ⟨hk.1.1, hk.1.2⟩)⟩
        replace HO345 : Aside0 (Kd.R Kd.bool 4 ((((w32.setCell ⟨gb350, 0, none⟩ (.slice Ao33 t337.length co33)).setCell ⟨gb350, 1, none⟩ (.slice Ao37 t340.length co37)).setCell ⟨gb350, 2, none⟩ (.slice Ao38 t343.length co38)).setCell ⟨gb350, 3, none⟩ (.slice Ao39 t346.length co39)) w.heap.size (fun _ => True) (.slice Ao38 t343.length co38) t343) := ⟨Yj (Yf4 HO345.out BK350.out) (fun _ hk => trivial)⟩
        replace HO348 : Aside0 (Kd.R (Kd.int .i64) 3 ((((w32.setCell ⟨gb350, 0, none⟩ (.slice Ao33 t337.length co33)).setCell ⟨gb350, 1, none⟩ (.slice Ao37 t340.length co37)).setCell ⟨gb350, 2, none⟩ (.slice Ao38 t343.length co38)).setCell ⟨gb350, 3, none⟩ (.slice Ao39 t346.length co39)) w.heap.size (fun k_ => some k_ ≠ (.slice Ao33 t337.length co33 : Value).ownBlock ∧ some k_ ≠ (.slice Ao37 t340.length co37 : Value).ownBlock) (.slice Ao39 t346.length co39) t346) := ⟨Yj (Yf4 HO348.out BK350.out) (fun _ hk => ⟨hk.1.1, hk.1.2⟩)⟩
        replace BK335 : Aside0 (((((w32.setCell ⟨gb350, 0, none⟩ (.slice Ao33 t337.length co33)).setCell ⟨gb350, 1, none⟩ (.slice Ao37 t340.length co37)).setCell ⟨gb350, 2, none⟩ (.slice Ao38 t343.length co38)).setCell ⟨gb350, 3, none⟩ (.slice Ao39 t346.length co39)).heap[gb335]? = some (.cells #[.slice A0_0 l0_0.length c0_0, .slice A0_1 l0_1.length c0_1, .slice A0_2 l0_2.length c0_2, .slice A0_3 l0_3.length c0_3, .slice A0_4 l0_4.length c0_4, .slice (some ad351) l0_5.length c0_5] 35 (0, 0))) := ⟨Q24⟩
        replace BK336 : Aside0 (((((w32.setCell ⟨gb350, 0, none⟩ (.slice Ao33 t337.length co33)).setCell ⟨gb350, 1, none⟩ (.slice Ao37 t340.length co37)).setCell ⟨gb350, 2, none⟩ (.slice Ao38 t343.length co38)).setCell ⟨gb350, 3, none⟩ (.slice Ao39 t346.length co39)).heap[gb336]? = some (.cells YN6 35 (0, 0))) := ⟨Q23⟩
        replace BK350 : Aside0 (((((w32.setCell ⟨gb350, 0, none⟩ (.slice Ao33 t337.length co33)).setCell ⟨gb350, 1, none⟩ (.slice Ao37 t340.length co37)).setCell ⟨gb350, 2, none⟩ (.slice Ao38 t343.length co38)).setCell ⟨gb350, 3, none⟩ (.slice Ao39 t346.length co39)).heap[gb350]? = some (.cells #[.slice Ao33 t337.length co33, .slice Ao37 t340.length co37, .slice Ao38 t343.length co38, .slice Ao39 t346.length co39] 27 (0, 0))) := ⟨by (with_reducible repeat (first | refine Z25 ?_ _ | refine Z26 ?_ | refine Z27 ?_ _)); refine Z29 (cs := #[.slice Ao33 t337.length co33, .slice Ao37 t340.length co37, .slice Ao38 t343.length co38, .slice none 0 0]) ?_ 3 _ rfl; (with_reducible repeat (first | refine Z25 ?_ _ | refine Z26 ?_ | refine Z27 ?_ _)); refine Z29 (cs := #[.slice Ao33 t337.length co33, .slice Ao37 t340.length co37, .slice none 0 0, .slice none 0 0]) ?_ 2 _ rfl; (with_reducible repeat (first | refine Z25 ?_ _ | refine Z26 ?_ | refine Z27 ?_ _)); refine Z29 (cs := #[.slice Ao33 t337.length co33, .slice none 0 0, .slice none 0 0, .slice none 0 0]) ?_ 1 _ rfl; (with_reducible repeat (first | refine Z25 ?_ _ | refine Z26 ?_ | refine Z27 ?_ _)); refine Z29 (cs := YN4) ?_ 0 _ rfl; (with_reducible repeat (first | refine Z25 ?_ _ | refine Z26 ?_ | refine Z27 ?_ _)); exact BK350.out⟩
        replace HB : Aside0 (Below w.heap.size w ((((w32.setCell ⟨gb350, 0, none⟩ (.slice Ao33 t337.length co33)).setCell ⟨gb350, 1, none⟩ (.slice Ao37 t340.length co37)).setCell ⟨gb350, 2, none⟩ (.slice Ao38 t343.length co38)).setCell ⟨gb350, 3, none⟩ (.slice Ao39 t346.length co39))) := ⟨Q12⟩
        generalize ((((w32.setCell ⟨gb350, 0, none⟩ (.slice Ao33 t337.length co33)).setCell ⟨gb350, 1, none⟩ (.slice Ao37 t340.length co37)).setCell ⟨gb350, 2, none⟩ (.slice Ao38 t343.length co38)).setCell ⟨gb350, 3, none⟩ (.slice Ao39 t346.length co39)) = w41 at HO339 HO342 HO345 HO348 BK335 BK336 BK350 HB ⊢
        replace HO339 := Ya (Z11 HO339.out)
        replace HO342 := Ya (Z11 HO342.out)
        replace HO345 := Ya (Z11 HO345.out)
        replace HO348 := Ya (Z11 HO348.out)
        replace BK335 := Ya (Z26 BK335.out)
        replace BK336 := Ya (Z26 BK336.out)
        replace BK350 := Ya (Z26 BK350.out)
        replace HB := Ya (Z4 HB.out)
        have p352 : 0 ≤ (t349 : Int) := Z30 Q1
        have q352 : t349 < (t340.length : Int) := Z30 Q1
        obtain ⟨ad352, e352, hx352_0⟩ := Kd.at_int (Kd.R_reads' HO342.out).2.2 t349 p352 q352
        cases e352
        replace p352 := eq_true p352
        replace q352 := eq_true q352
        have p353 : 0 ≤ (t349 : Int) := Z30 Q1
        have q353 : t349 < (l0_1.length : Int) := Z30 Q1
        obtain ⟨ad353, e353, hx353_0⟩ := Kd.at_int HR0_1.out t349 p353 q353
        have hw353_0 := hx353_0
        cases e353
        try replace hx353_0 := (HB.out.cell (World.block_lt_of_cell? w _ hx353_0)).trans hx353_0
        replace p353 := eq_true p353
        replace q353 := eq_true q353
        refine start_ (n := 12) (S := fun w' => w'.cell? ⟨gb350, 0, none⟩ = some (.slice Ao33 t337.length co33) ∧ w'.cell? ⟨gb350, 1, none⟩ = some (.slice (some ad352) t340.length co37) ∧ w'.cell? ⟨gb350, 2, none⟩ = some (.slice Ao38 t343.length co38) ∧ w'.cell? ⟨gb350, 3, none⟩ = some (.slice Ao39 t346.length co39) ∧ w'.cell? ⟨gb335, 0, none⟩ = some (.slice A0_0 l0_0.length c0_0) ∧ w'.cell? ⟨gb335, 1, none⟩ = some (.slice (some ad353) l0_1.length c0_1) ∧ w'.cell? ⟨gb335, 2, none⟩ = some (.slice A0_2 l0_2.length c0_2) ∧ w'.cell? ⟨gb335, 3, none⟩ = some (.slice A0_3 l0_3.length c0_3) ∧ w'.cell? ⟨gb335, 4, none⟩ = some (.slice A0_4 l0_4.length c0_4) ∧ w'.cell? ⟨gb335, 5, none⟩ = some (.slice (some ad351) l0_5.length c0_5) ∧ w'.cell? (ad352.add (t349).toNat) = some (.int .i64 (rd t340 t349)) ∧ w'.cell? (ad353.add (t349).toNat) = some (.int .i64 (rd l0_1 t349))) (ds := []) (YA 12 0) (by kernel_rfl) rfl rfl ⟨(Z23 BK350.out 0).trans rfl, (Z23 BK350.out 1).trans rfl, (Z23 BK350.out 2).trans rfl, (Z23 BK350.out 3).trans rfl, (Z23 BK335.out 0).trans rfl, (Z23 BK335.out 1).trans rfl, (Z23 BK335.out 2).trans rfl, (Z23 BK335.out 3).trans rfl, (Z23 BK335.out 4).trans rfl, (Z23 BK335.out 5).trans rfl, hx352_0, ((HB.out.cell (World.block_lt_of_cell? w _ hw353_0)).trans hw353_0)⟩ (fun hHeld => ?_); refine with_tabW spec_foSwap.tab5 spec_foSwap.bits5 (fun HT_ HW_ => ?_)
        generalize w41.drew = w42 at HO339 HO342 HO345 HO348 BK335 BK336 BK350 HB hx352_0 hx353_0 hHeld ⊢
        refine Yp 0 (some 23) (YA 12 1) rfl HT_.out ?_
        refine Yp 2 (some 25) (YA 12 5) rfl HT_.out ?_
        refine Yp 5 (some 28) (YA 12 37) rfl HT_.out ?_
        refine Yp 6 (some 29) (YA 12 101) rfl HT_.out ?_
        refine Yp 8 (some 31) (YA 12 357) rfl HT_.out ?_
        refine Yt 1 (some 24) (YA 12 359) rfl HT_.out HW_.out hHeld Q15 ?_
        refine Yp 3 (some 26) (YA 12 367) rfl HT_.out ?_
        refine Yt 4 (some 27) (YA 12 383) rfl HT_.out HW_.out hHeld Q15 ?_
        refine Yt 7 (some 30) (YA 12 511) rfl HT_.out HW_.out hHeld Q15 ?_
        refine Yp 9 (some 32) (YA 12 1023) rfl HT_.out ?_
        refine Yt 10 (some 33) (YA 12 2047) rfl HT_.out HW_.out hHeld Q15 ?_
        refine Yp 11 (some 34) (YA 12 4095) rfl HT_.out ?_
        refine done_ (done_of HT_.out (by kernel_rfl)) ?_
        have hz43 := Y6 BK335.out
        try go_wp2_with (first | ((with_reducible refine gate_callee (f := 74) rfl ?_); refine Yz 43 Try.func74 #[.slice A0_4 l0_4.length c0_4, .agg #[.int .i64 0, .int .i64 (wrap64 ((rd l0_5 (ji18)) - 1)), .int .i64 (wrap64 ((wrap64 ((rd l0_5 (ji18)) - 1)) + 1))]] ?_ (hargs := (by (try simp only [Z33, Z34, Z35]); first | done | (simp only [hji18]; rfl) | rfl | (simp only [Z31, Z32]; rfl))); (with_reducible refine (spec_moApply.calls k _ _ l0_4 0 (wrap64 ((rd l0_5 (ji18)) - 1)) (wrap64 ((wrap64 ((rd l0_5 (ji18)) - 1)) + 1)) t354 _ (Yc (Z22 HR0_4.out HB.out)) HC0_4.out A25.out).mono ?_); rintro e w44 ⟨v355, rfl, ho0, hb⟩; refine ⟨_, rfl, ?_⟩; replace HO345 := Yw HO345 hb; have HO356 := Yl (Kd.R_new' (Kd.R_new' (Kd.R_new' ho0 (Z18 (Yr HO339.out))) (Z18 (Yr HO342.out))) (Z18 (Yr HO348.out))); replace HO339 := Ya (Kd.R_elder' (Yr HO339.out) (Kd.R_base ho0) hb); replace HO342 := Ya (Kd.R_elder' (Yr HO342.out) (Kd.R_base ho0) hb); replace HO348 := Ya (Kd.R_elder' (Yr HO348.out) (Kd.R_base ho0) hb); replace BK335 := Yb BK335 hb; replace BK336 := Yb BK336 hb; replace BK350 := Yb BK350 hb; replace HB := Yh hb; (try clear hb ho0)))
        replace HO339 := Ya (Z11 HO339.out)
        replace HO342 := Ya (Z11 HO342.out)
        replace HO345 := Ya (Z11 HO345.out)
        replace HO348 := Ya (Z11 HO348.out)
        replace HO356 := Ya (Z11 HO356.out)
        replace BK335 := Ya (Z26 BK335.out)
        replace BK336 := Ya (Z26 BK336.out)
        replace BK350 := Ya (Z26 BK350.out)
        replace HB := Ya (Z4 HB.out)
        obtain ⟨Ao46, co46, eo46⟩ := Z19 HO356.out
        (first | subst eo46 | (injection eo46 with f1_ f2_ f3_; have f4_ := f1_.symm; have f5_ := f3_.symm; clear f1_ f2_ f3_; subst f4_; subst f5_))
        refine start_ (n := 8) (S := fun w' => w'.cell? ⟨gb350, 0, none⟩ = some (.slice Ao33 t337.length co33) ∧ w'.cell? ⟨gb350, 1, none⟩ = some (.slice (some ad352) t340.length co37) ∧ w'.cell? ⟨gb350, 2, none⟩ = some (.slice Ao38 t343.length co38) ∧ w'.cell? ⟨gb350, 3, none⟩ = some (.slice Ao39 t346.length co39)) (ds := []) (YA 8 0) (by kernel_rfl) rfl rfl (Yz4 BK350.out) (fun hHeld => ?_); refine with_tabW spec_foSwap.tab8 spec_foSwap.bits8 (fun HT_ HW_ => ?_)
        generalize w44.drew = w45 at HO339 HO342 HO345 HO348 HO356 BK335 BK336 BK350 HB hHeld ⊢
        refine Yp 1 (some 45) (YA 8 2) rfl HT_.out ?_
        refine Yp 2 (some 46) (YA 8 6) rfl HT_.out ?_
        refine Yp 5 (some 49) (YA 8 38) rfl HT_.out ?_
        refine Yt 0 (some 44) (YA 8 39) rfl HT_.out HW_.out hHeld Q3 ?_
        refine one_ (i := 3) (N := some 47) (YA 8 47) rfl rfl (one_of HT_.out (by kernel_rfl)) (by decide) (fun K hK => ?_)
        refine goes_ Try.func75 (by kernel_rfl) rfl #[.slice Ao46 t354.length co46] (by rfl) rfl rfl Q7 ?_
        with_reducible refine (spec_raInverse.calls k _ _ t354 t357 _ ?side1 ?side2 A26.out).mono ?_
        (case side1 => exact Yc (Kd.R_reads' HO356.out).2.2)
        (case side2 => exact (Kd.R_reads' HO356.out).2.1)
        rintro e w47 ⟨v358, rfl, ho0, hb⟩
        refine ⟨_, rfl, ?_⟩
        replace HO345 := Yw HO345 hb
        have HO359 := Yl (Kd.R_new' (Kd.R_new' (Kd.R_new' (Kd.R_new' ho0 (Z18 (Yr HO339.out))) (Z18 (Yr HO342.out))) (Z18 (Yr HO348.out))) (Z18 (Yr HO356.out)))
        replace HO339 := Ya (Kd.R_elder' (Yr HO339.out) (Kd.R_base ho0) hb)
        replace HO342 := Ya (Kd.R_elder' (Yr HO342.out) (Kd.R_base ho0) hb)
        replace HO348 := Ya (Kd.R_elder' (Yr HO348.out) (Kd.R_base ho0) hb)
        replace HO356 := Ya (Kd.R_elder' (Yr HO356.out) (Kd.R_base ho0) hb)
        replace BK335 := Yb BK335 hb
        replace BK336 := Yb BK336 hb
        replace BK350 := Yb BK350 hb
        replace HB := Yh hb
        (try clear hb ho0)
        obtain ⟨Ao48, co48, eo48⟩ := Z19 HO359.out
        (first | subst eo48 | (injection eo48 with f1_ f2_ f3_; have f4_ := f1_.symm; have f5_ := f3_.symm; clear f1_ f2_ f3_; subst f4_; subst f5_))
        refine hK.out _ _ (Yz4 BK350.out) (fun hHeld => ?_)
        clear hK K
        refine norm_ (a' := ?_) ?_ ?_
        rotate_left
        ·show Act.put _ (some 47) _ = _
         simp only [Act.put, Z0, Z1, Z2, i64_w, i32_w]
         rfl
        refine Yp 4 (some 48) (YA 8 63) rfl HT_.out ?_
        refine one_ (i := 6) (N := none) (YA 8 127) rfl rfl (one_of HT_.out (by kernel_rfl)) (by decide) (fun K hK => ?_)
        have hs49 : w47.cell? ⟨gb336, 0, none⟩ = some (.slice none 0 0) := (Z23 BK336.out 0).trans rfl
        have hfs49 := Z24 BK336.out 0
        have hns49_0 := NB335_336.out
        have hns49_2 := NB350_336.out
        have hms49_0 := NB336_335.out
        have hms49_2 := NB336_350.out
        have hs50 : w47.cell? ⟨gb336, 1, none⟩ = some (.slice none 0 0) := (Z23 BK336.out 1).trans rfl
        have hfs50 := Z24 BK336.out 1
        have hns50_0 := NB335_336.out
        have hns50_2 := NB350_336.out
        have hms50_0 := NB336_335.out
        have hms50_2 := NB336_350.out
        have hs51 : w47.cell? ⟨gb336, 2, none⟩ = some (.slice none 0 0) := (Z23 BK336.out 2).trans rfl
        have hfs51 := Z24 BK336.out 2
        have hns51_0 := NB335_336.out
        have hns51_2 := NB350_336.out
        have hms51_0 := NB336_335.out
        have hms51_2 := NB336_350.out
        have hs52 : w47.cell? ⟨gb336, 3, none⟩ = some (.slice none 0 0) := (Z23 BK336.out 3).trans rfl
        have hfs52 := Z24 BK336.out 3
        have hns52_0 := NB335_336.out
        have hns52_2 := NB350_336.out
        have hms52_0 := NB336_335.out
        have hms52_2 := NB336_350.out
        have hs53 : w47.cell? ⟨gb336, 4, none⟩ = some (.slice none 0 0) := (Z23 BK336.out 4).trans rfl
        have hfs53 := Z24 BK336.out 4
        have hns53_0 := NB335_336.out
        have hns53_2 := NB350_336.out
        have hms53_0 := NB336_335.out
        have hms53_2 := NB336_350.out
        have hs54 : w47.cell? ⟨gb336, 5, none⟩ = some (.slice none 0 0) := (Z23 BK336.out 5).trans rfl
        have hfs54 := Z24 BK336.out 5
        have hns54_0 := NB335_336.out
        have hns54_2 := NB350_336.out
        have hms54_0 := NB336_335.out
        have hms54_2 := NB336_350.out
        refine skip_ (w1 := ?_) (by rfl) rfl ?_ ?_
        rotate_left
        ·go_simp
         rfl
        refine hK.out _ _ ⟨((cell_far (p := ⟨gb336, _, none⟩) NB350_336.out _).trans (((cell_far (p := ⟨gb336, _, none⟩) NB350_336.out _).trans (((cell_far (p := ⟨gb336, _, none⟩) NB350_336.out _).trans (((cell_far (p := ⟨gb336, _, none⟩) NB350_336.out _).trans (((cell_far (p := ⟨gb336, _, none⟩) NB350_336.out _).trans (((cell_far (p := ⟨gb336, _, none⟩) NB350_336.out _).trans (hHeld.1)))))))))))), ((cell_far (p := ⟨gb336, _, none⟩) NB350_336.out _).trans (((cell_far (p := ⟨gb336, _, none⟩) NB350_336.out _).trans (((cell_far (p := ⟨gb336, _, none⟩) NB350_336.out _).trans (((cell_far (p := ⟨gb336, _, none⟩) NB350_336.out _).trans (((cell_far (p := ⟨gb336, _, none⟩) NB350_336.out _).trans (((cell_far (p := ⟨gb336, _, none⟩) NB350_336.out _).trans (hHeld.2.1)))))))))))), ((cell_far (p := ⟨gb336, _, none⟩) NB350_336.out _).trans (((cell_far (p := ⟨gb336, _, none⟩) NB350_336.out _).trans (((cell_far (p := ⟨gb336, _, none⟩) NB350_336.out _).trans (((cell_far (p := ⟨gb336, _, none⟩) NB350_336.out _).trans (((cell_far (p := ⟨gb336, _, none⟩) NB350_336.out _).trans (((cell_far (p := ⟨gb336, _, none⟩) NB350_336.out _).trans (hHeld.2.2.1)))))))))))), ((cell_far (p := ⟨gb336, _, none⟩) NB350_336.out _).trans (((cell_far (p := ⟨gb336, _, none⟩) NB350_336.out _).trans (((cell_far (p := ⟨gb336, _, none⟩) NB350_336.out _).trans (((cell_far (p := ⟨gb336, _, none⟩) NB350_336.out _).trans (((cell_far (p := ⟨gb336, _, none⟩) NB350_336.out _).trans (((cell_far (p := ⟨gb336, _, none⟩) NB350_336.out _).trans (hHeld.2.2.2))))))))))))⟩ (fun hHeld => ?_)
        clear hK K
        refine Yp 7 (some 3) (YA 8 255) rfl HT_.out ?_
        refine done_ (done_of HT_.out (by kernel_rfl)) ?_
        try go_wp2
        refine bodyPost_ret (results_ct rfl _ _ gb336 35 #[.slice Ao33 t337.length co33, .slice (some ad352) t340.length co37, .slice Ao38 t343.length co38, .slice Ao39 t346.length co39, .slice Ao46 t354.length co46, .slice Ao48 t357.length co48] (0, 0) _ rfl (Yk (Yv6 BK336.out)) Try.underlying35 rfl (by kernel_rfl)) rfl ?_
        exact ⟨_, _, _, _, _, _, Q43, Yj (Yf6 HO339.out BK336.out) (fun _ hk => ⟨hk.1.1.1.1, ⟨hk.1.1.1.2, ⟨hk.1.1.2, hk.1.2⟩⟩⟩), Yj (Yf6 HO342.out BK336.out) (fun _ hk => ⟨hk.1.1.1.1, ⟨hk.1.1.1.2, ⟨hk.1.1.2, hk.1.2⟩⟩⟩), Yj (Yf6 HO345.out BK336.out) (fun _ hk => trivial), Yj (Yf6 HO348.out BK336.out) (fun _ hk => ⟨hk.1.1.1.1, ⟨hk.1.1.1.2, ⟨hk.1.1.2, hk.1.2⟩⟩⟩), Yj (Yf6 HO356.out BK336.out) (fun _ hk => ⟨hk.1.1.1.1.2, ⟨hk.1.1.1.2, ⟨hk.1.1.2, hk.1.2⟩⟩⟩), Yj (Yf6 HO359.out BK336.out) (fun _ hk => ⟨hk.1.1.1.1.2, ⟨hk.1.1.1.2, ⟨hk.1.1.2, hk.1.2⟩⟩⟩), Q12⟩
       ·rw [if_neg c24] at H
        have c24b0 : decide ((rd l0_1 t349) < (rd t340 t349)) = false := Z37 c24
        clear c24
        replace H := Z36.mp H
        obtain ⟨t360, A550, H⟩ := H
        replace H : ((spec_raInverse.f k t360).bind fun t363 => (some (t337, t340, t343, t346, t360, t363, rd l0_5 (ji18)))) = some (r1, r2, r3, r4, r5, r6, r7) := H
        have A55 := Ya A550
        clear A550
        replace H := Z36.mp H
        obtain ⟨t363, A560, H⟩ := H
        replace H : (some (t337, t340, t343, t346, t360, t363, rd l0_5 (ji18))) = some (r1, r2, r3, r4, r5, r6, r7) := H
        have A56 := Ya A560
        clear A560
        simp only [Option.some.injEq, Prod.mk.injEq] at H
        obtain ⟨rfl, rfl, rfl, rfl, rfl, rfl, rfl⟩ := H
        go_enter Try.func55, Try.ntmps55
        try go_wp2_with (first | ((with_reducible refine gate_dst (N := 1) rfl ?_); refine Yx 1 #[.slice A0_0 l0_0.length c0_0, .slice A0_1 l0_1.length c0_1, .slice A0_2 l0_2.length c0_2, .slice A0_3 l0_3.length c0_3, .slice A0_4 l0_4.length c0_4, .slice A0_5 l0_5.length c0_5] 35 ?_; intro gb335 hg w57 hbox hb; have BK335 := Ya hbox; have GW335 := Yg hg; have GE335 := GW335; replace HB := Yh hb; clear hb hbox hg) | ((with_reducible refine gate_dst (N := 2) rfl ?_); refine Yx 2 YN6 35 ?_; intro gb336 hg w58 hbox hb; have BK336 := Ya hbox; have GW336 := Yg hg; have GE336 := GW336; replace HB := Yh hb; have NB335_336 := Yn BK335 hg; have NB336_335 := Ym BK335 hg; replace BK335 := Yb BK335 hb; clear hb hbox hg; have hnb59 := NB335_336.out; have hnc59 := NB336_335.out; have hz60 := Y6 BK335.out) | ((with_reducible refine gate_callee (f := 31) rfl ?_); refine Yz 11 Try.func31 #[.agg #[.slice A0_0 l0_0.length c0_0, .slice A0_1 l0_1.length c0_1, .slice A0_2 l0_2.length c0_2, .slice A0_3 l0_3.length c0_3]] ?_; (with_reducible refine (spec_foStep.calls _ _ l0_0 _ _ l0_1 _ _ l0_2 _ _ l0_3 t337 t340 t343 t346 t349 _ (Yc (Z22 HR0_0.out HB.out)) HC0_0.out (Yc (Z22 HR0_1.out HB.out)) HC0_1.out (Yc (Z22 HR0_2.out HB.out)) HC0_2.out (Yc (Z22 HR0_3.out HB.out)) HC0_3.out A2.out).mono ?_); rintro e w61 ⟨v338, v341, v344, v347, rfl, ho0, ho1, ho2, ho3, hb⟩; refine ⟨_, rfl, ?_⟩; have HO339 := Yl ho0; have HO342 := Yl ho1; have HO345 := Yl ho2; have HO348 := Yl ho3; replace BK335 := Yb BK335 hb; replace BK336 := Yb BK336 hb; replace HB := Yh hb; (try clear hb ho0 ho1 ho2 ho3)) | ((with_reducible refine gate_dst (N := 4) rfl ?_); refine Yx 4 YN4 27 ?_; intro gb350 hg w62 hbox hb; replace HO339 := Yw HO339 hb; replace HO342 := Yw HO342 hb; replace HO345 := Yw HO345 hb; replace HO348 := Yw HO348 hb; have BK350 := Ya hbox; have GW350 := Yg hg; have GE350 := GW350; replace HB := Yh hb; have NB335_350 := Yn BK335 hg; have NB350_335 := Ym BK335 hg; replace BK335 := Yb BK335 hb; have NB336_350 := Yn BK336 hg; have NB350_336 := Ym BK336 hg; replace BK336 := Yb BK336 hb; clear hb hbox hg; obtain ⟨Ao63, co63, rfl⟩ := Z19 HO339.out; have hnb64 := NB350_335.out; have hnc64 := NB335_350.out; have hnb65 := NB350_336.out; have hnc65 := NB336_350.out; have hz66 := Y4 BK350.out; obtain ⟨Ao67, co67, rfl⟩ := Z19 HO342.out; obtain ⟨Ao68, co68, rfl⟩ := Z19 HO345.out; obtain ⟨Ao69, co69, rfl⟩ := Z19 HO348.out; have hz70 := Y6 BK335.out; have p351 : 0 ≤ ((ji18) : Int) := Z30 Q1; have q351 : (ji18) < (l0_5.length : Int) := Z30 Q1; obtain ⟨ad351, e351, hx351_0⟩ := Kd.at_int HR0_5.out (ji18) p351 q351; cases e351; have hn351_0 : ad351.block ≠ gb350 := Nat.ne_of_lt (Nat.lt_of_lt_of_le Q21 GW350.out); have hn351_1 : ad351.block ≠ gb350 := Nat.ne_of_lt (Nat.lt_of_lt_of_le Q21 GW350.out); have hn351_2 : ad351.block ≠ gb350 := Nat.ne_of_lt (Nat.lt_of_lt_of_le Q21 GW350.out); have hn351_3 : ad351.block ≠ gb350 := Nat.ne_of_lt (Nat.lt_of_lt_of_le Q21 GW350.out); try replace hx351_0 := (HB.out.cell (World.block_lt_of_cell? w _ hx351_0)).trans hx351_0; replace hx351_0 := (cell_far (p := ⟨gb350, 0, none⟩) Q50 (.slice Ao63 t337.length co63)).trans hx351_0; replace hx351_0 := (cell_far (p := ⟨gb350, 1, none⟩) Q49 (.slice Ao67 t340.length co67)).trans hx351_0; replace hx351_0 := (cell_far (p := ⟨gb350, 2, none⟩) Q48 (.slice Ao68 t343.length co68)).trans hx351_0; replace hx351_0 := (cell_far (p := ⟨gb350, 3, none⟩) Q47 (.slice Ao69 t346.length co69)).trans hx351_0; clear hn351_0; clear hn351_1; clear hn351_2; clear hn351_3; replace p351 := eq_true p351; replace q351 := eq_true q351))
        replace HO339 : Aside0 (Kd.R (Kd.int .i64) 3 ((((w62.setCell ⟨gb350, 0, none⟩ (.slice Ao63 t337.length co63)).setCell ⟨gb350, 1, none⟩ (.slice Ao67 t340.length co67)).setCell ⟨gb350, 2, none⟩ (.slice Ao68 t343.length co68)).setCell ⟨gb350, 3, none⟩ (.slice Ao69 t346.length co69)) w.heap.size (fun k_ => some k_ ≠ (.slice Ao67 t340.length co67 : Value).ownBlock ∧ some k_ ≠ (.slice Ao69 t346.length co69 : Value).ownBlock) (.slice Ao63 t337.length co63) t337) := ⟨Yj (Yf4 HO339.out BK350.out) (fun _ hk => ⟨hk.1.1, hk.1.2⟩)⟩
        replace HO342 : Aside0 (Kd.R (Kd.int .i64) 3 ((((w62.setCell ⟨gb350, 0, none⟩ (.slice Ao63 t337.length co63)).setCell ⟨gb350, 1, none⟩ (.slice Ao67 t340.length co67)).setCell ⟨gb350, 2, none⟩ (.slice Ao68 t343.length co68)).setCell ⟨gb350, 3, none⟩ (.slice Ao69 t346.length co69)) w.heap.size (fun k_ => some k_ ≠ (.slice Ao63 t337.length co63 : Value).ownBlock ∧ some k_ ≠ (.slice Ao69 t346.length co69 : Value).ownBlock) (.slice Ao67 t340.length co67) t340) := ⟨Yj (Yf4 HO342.out BK350.out) (fun _ hk => ⟨hk.1.1, hk.1.2⟩)⟩
        replace HO345 : Aside0 (Kd.R Kd.bool 4 ((((w62.setCell ⟨gb350, 0, none⟩ (.slice Ao63 t337.length co63)).setCell ⟨gb350, 1, none⟩ (.slice Ao67 t340.length co67)).setCell ⟨gb350, 2, none⟩ (.slice Ao68 t343.length co68)).setCell ⟨gb350, 3, none⟩ (.slice Ao69 t346.length co69)) w.heap.size (fun _ => True) (.slice Ao68 t343.length co68) t343) := ⟨Yj (Yf4 HO345.out BK350.out) (fun _ hk => trivial)⟩
        replace HO348 : Aside0 (Kd.R (Kd.int .i64) 3 ((((w62.setCell ⟨gb350, 0, none⟩ (.slice Ao63 t337.length co63)).setCell ⟨gb350, 1, none⟩ (.slice Ao67 t340.length co67)).setCell ⟨gb350, 2, none⟩ (.slice Ao68 t343.length co68)).setCell ⟨gb350, 3, none⟩ (.slice Ao69 t346.length co69)) w.heap.size (fun k_ => some k_ ≠ (.slice Ao63 t337.length co63 : Value).ownBlock ∧ some k_ ≠ (.slice Ao67 t340.length co67 : Value).ownBlock) (.slice Ao69 t346.length co69) t346) := ⟨Yj (Yf4 HO348.out BK350.out) (fun _ hk => ⟨hk.1.1, hk.1.2⟩)⟩
        replace BK335 : Aside0 (((((w62.setCell ⟨gb350, 0, none⟩ (.slice Ao63 t337.length co63)).setCell ⟨gb350, 1, none⟩ (.slice Ao67 t340.length co67)).setCell ⟨gb350, 2, none⟩ (.slice Ao68 t343.length co68)).setCell ⟨gb350, 3, none⟩ (.slice Ao69 t346.length co69)).heap[gb335]? = some (.cells #[.slice A0_0 l0_0.length c0_0, .slice A0_1 l0_1.length c0_1, .slice A0_2 l0_2.length c0_2, .slice A0_3 l0_3.length c0_3, .slice A0_4 l0_4.length c0_4, .slice (some ad351) l0_5.length c0_5] 35 (0, 0))) := ⟨Q24⟩
        replace BK336 : Aside0 (((((w62.setCell ⟨gb350, 0, none⟩ (.slice Ao63 t337.length co63)).setCell ⟨gb350, 1, none⟩ (.slice Ao67 t340.length co67)).setCell ⟨gb350, 2, none⟩ (.slice Ao68 t343.length co68)).setCell ⟨gb350, 3, none⟩ (.slice Ao69 t346.length co69)).heap[gb336]? = some (.cells YN6 35 (0, 0))) := ⟨Q23⟩
        replace BK350 : Aside0 (((((w62.setCell ⟨gb350, 0, none⟩ (.slice Ao63 t337.length co63)).setCell ⟨gb350, 1, none⟩ (.slice Ao67 t340.length co67)).setCell ⟨gb350, 2, none⟩ (.slice Ao68 t343.length co68)).setCell ⟨gb350, 3, none⟩ (.slice Ao69 t346.length co69)).heap[gb350]? = some (.cells #[.slice Ao63 t337.length co63, .slice Ao67 t340.length co67, .slice Ao68 t343.length co68, .slice Ao69 t346.length co69] 27 (0, 0))) := ⟨by (with_reducible repeat (first | refine Z25 ?_ _ | refine Z26 ?_ | refine Z27 ?_ _)); refine Z29 (cs := #[.slice Ao63 t337.length co63, .slice Ao67 t340.length co67, .slice Ao68 t343.length co68, .slice none 0 0]) ?_ 3 _ rfl; (with_reducible repeat (first | refine Z25 ?_ _ | refine Z26 ?_ | refine Z27 ?_ _)); refine Z29 (cs := #[.slice Ao63 t337.length co63, .slice Ao67 t340.length co67, .slice none 0 0, .slice none 0 0]) ?_ 2 _ rfl; (with_reducible repeat (first | refine Z25 ?_ _ | refine Z26 ?_ | refine Z27 ?_ _)); refine Z29 (cs := #[.slice Ao63 t337.length co63, .slice none 0 0, .slice none 0 0, .slice none 0 0]) ?_ 1 _ rfl; (with_reducible repeat (first | refine Z25 ?_ _ | refine Z26 ?_ | refine Z27 ?_ _)); refine Z29 (cs := YN4) ?_ 0 _ rfl; (with_reducible repeat (first | refine Z25 ?_ _ | refine Z26 ?_ | refine Z27 ?_ _)); exact BK350.out⟩
        replace HB : Aside0 (Below w.heap.size w ((((w62.setCell ⟨gb350, 0, none⟩ (.slice Ao63 t337.length co63)).setCell ⟨gb350, 1, none⟩ (.slice Ao67 t340.length co67)).setCell ⟨gb350, 2, none⟩ (.slice Ao68 t343.length co68)).setCell ⟨gb350, 3, none⟩ (.slice Ao69 t346.length co69))) := ⟨Q12⟩
        generalize ((((w62.setCell ⟨gb350, 0, none⟩ (.slice Ao63 t337.length co63)).setCell ⟨gb350, 1, none⟩ (.slice Ao67 t340.length co67)).setCell ⟨gb350, 2, none⟩ (.slice Ao68 t343.length co68)).setCell ⟨gb350, 3, none⟩ (.slice Ao69 t346.length co69)) = w71 at HO339 HO342 HO345 HO348 BK335 BK336 BK350 HB ⊢
        replace HO339 := Ya (Z11 HO339.out)
        replace HO342 := Ya (Z11 HO342.out)
        replace HO345 := Ya (Z11 HO345.out)
        replace HO348 := Ya (Z11 HO348.out)
        replace BK335 := Ya (Z26 BK335.out)
        replace BK336 := Ya (Z26 BK336.out)
        replace BK350 := Ya (Z26 BK350.out)
        replace HB := Ya (Z4 HB.out)
        have p352 : 0 ≤ (t349 : Int) := Z30 Q1
        have q352 : t349 < (t340.length : Int) := Z30 Q1
        obtain ⟨ad352, e352, hx352_0⟩ := Kd.at_int (Kd.R_reads' HO342.out).2.2 t349 p352 q352
        cases e352
        replace p352 := eq_true p352
        replace q352 := eq_true q352
        have p353 : 0 ≤ (t349 : Int) := Z30 Q1
        have q353 : t349 < (l0_1.length : Int) := Z30 Q1
        obtain ⟨ad353, e353, hx353_0⟩ := Kd.at_int HR0_1.out t349 p353 q353
        have hw353_0 := hx353_0
        cases e353
        try replace hx353_0 := (HB.out.cell (World.block_lt_of_cell? w _ hx353_0)).trans hx353_0
        replace p353 := eq_true p353
        replace q353 := eq_true q353
        refine start_ (n := 12) (S := fun w' => w'.cell? ⟨gb350, 0, none⟩ = some (.slice Ao63 t337.length co63) ∧ w'.cell? ⟨gb350, 1, none⟩ = some (.slice (some ad352) t340.length co67) ∧ w'.cell? ⟨gb350, 2, none⟩ = some (.slice Ao68 t343.length co68) ∧ w'.cell? ⟨gb350, 3, none⟩ = some (.slice Ao69 t346.length co69) ∧ w'.cell? ⟨gb335, 0, none⟩ = some (.slice A0_0 l0_0.length c0_0) ∧ w'.cell? ⟨gb335, 1, none⟩ = some (.slice (some ad353) l0_1.length c0_1) ∧ w'.cell? ⟨gb335, 2, none⟩ = some (.slice A0_2 l0_2.length c0_2) ∧ w'.cell? ⟨gb335, 3, none⟩ = some (.slice A0_3 l0_3.length c0_3) ∧ w'.cell? ⟨gb335, 4, none⟩ = some (.slice A0_4 l0_4.length c0_4) ∧ w'.cell? ⟨gb335, 5, none⟩ = some (.slice (some ad351) l0_5.length c0_5) ∧ w'.cell? (ad352.add (t349).toNat) = some (.int .i64 (rd t340 t349)) ∧ w'.cell? (ad353.add (t349).toNat) = some (.int .i64 (rd l0_1 t349))) (ds := []) (YA 12 0) (by kernel_rfl) rfl rfl ⟨(Z23 BK350.out 0).trans rfl, (Z23 BK350.out 1).trans rfl, (Z23 BK350.out 2).trans rfl, (Z23 BK350.out 3).trans rfl, (Z23 BK335.out 0).trans rfl, (Z23 BK335.out 1).trans rfl, (Z23 BK335.out 2).trans rfl, (Z23 BK335.out 3).trans rfl, (Z23 BK335.out 4).trans rfl, (Z23 BK335.out 5).trans rfl, hx352_0, ((HB.out.cell (World.block_lt_of_cell? w _ hw353_0)).trans hw353_0)⟩ (fun hHeld => ?_); refine with_tabW spec_foSwap.tab5 spec_foSwap.bits5 (fun HT_ HW_ => ?_)
        generalize w71.drew = w72 at HO339 HO342 HO345 HO348 BK335 BK336 BK350 HB hx352_0 hx353_0 hHeld ⊢
        refine Yp 0 (some 23) (YA 12 1) rfl HT_.out ?_
        refine Yp 2 (some 25) (YA 12 5) rfl HT_.out ?_
        refine Yp 5 (some 28) (YA 12 37) rfl HT_.out ?_
        refine Yp 6 (some 29) (YA 12 101) rfl HT_.out ?_
        refine Yp 8 (some 31) (YA 12 357) rfl HT_.out ?_
        refine Yt 1 (some 24) (YA 12 359) rfl HT_.out HW_.out hHeld Q15 ?_
        refine Yp 3 (some 26) (YA 12 367) rfl HT_.out ?_
        refine Yt 4 (some 27) (YA 12 383) rfl HT_.out HW_.out hHeld Q15 ?_
        refine Yt 7 (some 30) (YA 12 511) rfl HT_.out HW_.out hHeld Q15 ?_
        refine Yp 9 (some 32) (YA 12 1023) rfl HT_.out ?_
        refine Yt 10 (some 33) (YA 12 2047) rfl HT_.out HW_.out hHeld Q15 ?_
        refine Yp 11 (some 34) (YA 12 4095) rfl HT_.out ?_
        refine done_ (done_of HT_.out (by kernel_rfl)) ?_
        have hz73 := Y6 BK335.out
        try go_wp2_with (first | ((with_reducible refine gate_callee (f := 74) rfl ?_); refine Yz 43 Try.func74 #[.slice A0_4 l0_4.length c0_4, .agg #[.int .i64 0, .int .i64 (rd l0_5 (ji18)), .int .i64 (wrap64 ((rd l0_5 (ji18)) + 1))]] ?_ (hargs := (by (try simp only [Z33, Z34, Z35]); first | done | (simp only [hji18]; rfl) | rfl | (simp only [Z31, Z32]; rfl))); (with_reducible refine (spec_moApply.calls k _ _ l0_4 0 (rd l0_5 (ji18)) (wrap64 ((rd l0_5 (ji18)) + 1)) t360 _ (Yc (Z22 HR0_4.out HB.out)) HC0_4.out A55.out).mono ?_); rintro e w74 ⟨v361, rfl, ho0, hb⟩; refine ⟨_, rfl, ?_⟩; replace HO345 := Yw HO345 hb; have HO362 := Yl (Kd.R_new' (Kd.R_new' (Kd.R_new' ho0 (Z18 (Yr HO339.out))) (Z18 (Yr HO342.out))) (Z18 (Yr HO348.out))); replace HO339 := Ya (Kd.R_elder' (Yr HO339.out) (Kd.R_base ho0) hb); replace HO342 := Ya (Kd.R_elder' (Yr HO342.out) (Kd.R_base ho0) hb); replace HO348 := Ya (Kd.R_elder' (Yr HO348.out) (Kd.R_base ho0) hb); replace BK335 := Yb BK335 hb; replace BK336 := Yb BK336 hb; replace BK350 := Yb BK350 hb; replace HB := Yh hb; (try clear hb ho0)))
        replace HO339 := Ya (Z11 HO339.out)
        replace HO342 := Ya (Z11 HO342.out)
        replace HO345 := Ya (Z11 HO345.out)
        replace HO348 := Ya (Z11 HO348.out)
        replace HO362 := Ya (Z11 HO362.out)
        replace BK335 := Ya (Z26 BK335.out)
        replace BK336 := Ya (Z26 BK336.out)
        replace BK350 := Ya (Z26 BK350.out)
        replace HB := Ya (Z4 HB.out)
        obtain ⟨Ao76, co76, eo76⟩ := Z19 HO362.out
        (first | subst eo76 | (injection eo76 with f1_ f2_ f3_; have f4_ := f1_.symm; have f5_ := f3_.symm; clear f1_ f2_ f3_; subst f4_; subst f5_))
        refine start_ (n := 8) (S := fun w' => w'.cell? ⟨gb350, 0, none⟩ = some (.slice Ao63 t337.length co63) ∧ w'.cell? ⟨gb350, 1, none⟩ = some (.slice (some ad352) t340.length co67) ∧ w'.cell? ⟨gb350, 2, none⟩ = some (.slice Ao68 t343.length co68) ∧ w'.cell? ⟨gb350, 3, none⟩ = some (.slice Ao69 t346.length co69)) (ds := []) (YA 8 0) (by kernel_rfl) rfl rfl (Yz4 BK350.out) (fun hHeld => ?_); refine with_tabW spec_foSwap.tab8 spec_foSwap.bits8 (fun HT_ HW_ => ?_)
        generalize w74.drew = w75 at HO339 HO342 HO345 HO348 HO362 BK335 BK336 BK350 HB hHeld ⊢
        refine Yp 1 (some 45) (YA 8 2) rfl HT_.out ?_
        refine Yp 2 (some 46) (YA 8 6) rfl HT_.out ?_
        refine Yp 5 (some 49) (YA 8 38) rfl HT_.out ?_
        refine Yt 0 (some 44) (YA 8 39) rfl HT_.out HW_.out hHeld Q3 ?_
        refine one_ (i := 3) (N := some 47) (YA 8 47) rfl rfl (one_of HT_.out (by kernel_rfl)) (by decide) (fun K hK => ?_)
        refine goes_ Try.func75 (by kernel_rfl) rfl #[.slice Ao76 t360.length co76] (by rfl) rfl rfl Q7 ?_
        with_reducible refine (spec_raInverse.calls k _ _ t360 t363 _ ?side1 ?side2 A56.out).mono ?_
        (case side1 => exact Yc (Kd.R_reads' HO362.out).2.2)
        (case side2 => exact (Kd.R_reads' HO362.out).2.1)
        rintro e w77 ⟨v364, rfl, ho0, hb⟩
        refine ⟨_, rfl, ?_⟩
        replace HO345 := Yw HO345 hb
        have HO365 := Yl (Kd.R_new' (Kd.R_new' (Kd.R_new' (Kd.R_new' ho0 (Z18 (Yr HO339.out))) (Z18 (Yr HO342.out))) (Z18 (Yr HO348.out))) (Z18 (Yr HO362.out)))
        replace HO339 := Ya (Kd.R_elder' (Yr HO339.out) (Kd.R_base ho0) hb)
        replace HO342 := Ya (Kd.R_elder' (Yr HO342.out) (Kd.R_base ho0) hb)
        replace HO348 := Ya (Kd.R_elder' (Yr HO348.out) (Kd.R_base ho0) hb)
        replace HO362 := Ya (Kd.R_elder' (Yr HO362.out) (Kd.R_base ho0) hb)
        replace BK335 := Yb BK335 hb
        replace BK336 := Yb BK336 hb
        replace BK350 := Yb BK350 hb
        replace HB := Yh hb
        (try clear hb ho0)
        obtain ⟨Ao78, co78, eo78⟩ := Z19 HO365.out
        (first | subst eo78 | (injection eo78 with f1_ f2_ f3_; have f4_ := f1_.symm; have f5_ := f3_.symm; clear f1_ f2_ f3_; subst f4_; subst f5_))
        refine hK.out _ _ (Yz4 BK350.out) (fun hHeld => ?_)
        clear hK K
        refine norm_ (a' := ?_) ?_ ?_
        rotate_left
        ·show Act.put _ (some 47) _ = _
         simp only [Act.put, Z0, Z1, Z2, i64_w, i32_w]
         rfl
        refine Yp 4 (some 48) (YA 8 63) rfl HT_.out ?_
        refine one_ (i := 6) (N := none) (YA 8 127) rfl rfl (one_of HT_.out (by kernel_rfl)) (by decide) (fun K hK => ?_)
        have hs79 : w77.cell? ⟨gb336, 0, none⟩ = some (.slice none 0 0) := (Z23 BK336.out 0).trans rfl
        have hfs79 := Z24 BK336.out 0
        have hns79_0 := NB335_336.out
        have hns79_2 := NB350_336.out
        have hms79_0 := NB336_335.out
        have hms79_2 := NB336_350.out
        have hs80 : w77.cell? ⟨gb336, 1, none⟩ = some (.slice none 0 0) := (Z23 BK336.out 1).trans rfl
        have hfs80 := Z24 BK336.out 1
        have hns80_0 := NB335_336.out
        have hns80_2 := NB350_336.out
        have hms80_0 := NB336_335.out
        have hms80_2 := NB336_350.out
        have hs81 : w77.cell? ⟨gb336, 2, none⟩ = some (.slice none 0 0) := (Z23 BK336.out 2).trans rfl
        have hfs81 := Z24 BK336.out 2
        have hns81_0 := NB335_336.out
        have hns81_2 := NB350_336.out
        have hms81_0 := NB336_335.out
        have hms81_2 := NB336_350.out
        have hs82 : w77.cell? ⟨gb336, 3, none⟩ = some (.slice none 0 0) := (Z23 BK336.out 3).trans rfl
        have hfs82 := Z24 BK336.out 3
        have hns82_0 := NB335_336.out
        have hns82_2 := NB350_336.out
        have hms82_0 := NB336_335.out
        have hms82_2 := NB336_350.out
        have hs83 : w77.cell? ⟨gb336, 4, none⟩ = some (.slice none 0 0) := (Z23 BK336.out 4).trans rfl
        have hfs83 := Z24 BK336.out 4
        have hns83_0 := NB335_336.out
        have hns83_2 := NB350_336.out
        have hms83_0 := NB336_335.out
        have hms83_2 := NB336_350.out
        have hs84 : w77.cell? ⟨gb336, 5, none⟩ = some (.slice none 0 0) := (Z23 BK336.out 5).trans rfl
        have hfs84 := Z24 BK336.out 5
        have hns84_0 := NB335_336.out
        have hns84_2 := NB350_336.out
        have hms84_0 := NB336_335.out
        have hms84_2 := NB336_350.out
        refine skip_ (w1 := ?_) (by rfl) rfl ?_ ?_
        rotate_left
        ·go_simp
         rfl
        refine hK.out _ _ ⟨((cell_far (p := ⟨gb336, _, none⟩) NB350_336.out _).trans (((cell_far (p := ⟨gb336, _, none⟩) NB350_336.out _).trans (((cell_far (p := ⟨gb336, _, none⟩) NB350_336.out _).trans (((cell_far (p := ⟨gb336, _, none⟩) NB350_336.out _).trans (((cell_far (p := ⟨gb336, _, none⟩) NB350_336.out _).trans (((cell_far (p := ⟨gb336, _, none⟩) NB350_336.out _).trans (hHeld.1)))))))))))), ((cell_far (p := ⟨gb336, _, none⟩) NB350_336.out _).trans (((cell_far (p := ⟨gb336, _, none⟩) NB350_336.out _).trans (((cell_far (p := ⟨gb336, _, none⟩) NB350_336.out _).trans (((cell_far (p := ⟨gb336, _, none⟩) NB350_336.out _).trans (((cell_far (p := ⟨gb336, _, none⟩) NB350_336.out _).trans (((cell_far (p := ⟨gb336, _, none⟩) NB350_336.out _).trans (hHeld.2.1)))))))))))), ((cell_far (p := ⟨gb336, _, none⟩) NB350_336.out _).trans (((cell_far (p := ⟨gb336, _, none⟩) NB350_336.out _).trans (((cell_far (p := ⟨gb336, _, none⟩) NB350_336.out _).trans (((cell_far (p := ⟨gb336, _, none⟩) NB350_336.out _).trans (((cell_far (p := ⟨gb336, _, none⟩) NB350_336.out _).trans (((cell_far (p := ⟨gb336, _, none⟩) NB350_336.out _).trans (hHeld.2.2.1)))))))))))), ((cell_far (p := ⟨gb336, _, none⟩) NB350_336.out _).trans (((cell_far (p := ⟨gb336, _, none⟩) NB350_336.out _).trans (((cell_far (p := ⟨gb336, _, none⟩) NB350_336.out _).trans (((cell_far (p := ⟨gb336, _, none⟩) NB350_336.out _).trans (((cell_far (p := ⟨gb336, _, none⟩) NB350_336.out _).trans (((cell_far (p := ⟨gb336, _, none⟩) NB350_336.out _).trans (hHeld.2.2.2))))))))))))⟩ (fun hHeld => ?_)
        clear hK K
        refine Yp 7 (some 3) (YA 8 255) rfl HT_.out ?_
        refine done_ (done_of HT_.out (by kernel_rfl)) ?_
        try go_wp2
        refine bodyPost_ret (results_ct rfl _ _ gb336 35 #[.slice Ao63 t337.length co63, .slice (some ad352) t340.length co67, .slice Ao68 t343.length co68, .slice Ao69 t346.length co69, .slice Ao76 t360.length co76, .slice Ao78 t363.length co78] (0, 0) _ rfl (Yk (Yv6 BK336.out)) Try.underlying35 rfl (by kernel_rfl)) rfl ?_
        exact ⟨_, _, _, _, _, _, Q43, Yj (Yf6 HO339.out BK336.out) (fun _ hk => ⟨hk.1.1.1.1, ⟨hk.1.1.1.2, ⟨hk.1.1.2, hk.1.2⟩⟩⟩), Yj (Yf6 HO342.out BK336.out) (fun _ hk => ⟨hk.1.1.1.1, ⟨hk.1.1.1.2, ⟨hk.1.1.2, hk.1.2⟩⟩⟩), Yj (Yf6 HO345.out BK336.out) (fun _ hk => trivial), Yj (Yf6 HO348.out BK336.out) (fun _ hk => ⟨hk.1.1.1.1, ⟨hk.1.1.1.2, ⟨hk.1.1.2, hk.1.2⟩⟩⟩), Yj (Yf6 HO362.out BK336.out) (fun _ hk => ⟨hk.1.1.1.1.2, ⟨hk.1.1.1.2, ⟨hk.1.1.2, hk.1.2⟩⟩⟩), Yj (Yf6 HO365.out BK336.out) (fun _ hk => ⟨hk.1.1.1.1.2, ⟨hk.1.1.1.2, ⟨hk.1.1.2, hk.1.2⟩⟩⟩), Q12⟩
      ·rw [if_neg c23] at H
       exact absurd H (by simp)
     ·rw [if_neg c22] at H
      exact absurd H (by simp)
    ·rw [if_neg c21] at H
     exact absurd H (by simp)
   ·rw [if_neg c20] at H
    exact absurd H (by simp)
  ·rw [if_neg c19] at H
   exact absurd H (by simp)
end Go.Proofs.Ytpfakdhfffehaaa.MFnExactStepSwapper
