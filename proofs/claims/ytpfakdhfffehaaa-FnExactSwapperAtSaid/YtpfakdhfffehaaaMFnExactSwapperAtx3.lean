/- Functions of the program as Lean functions, each with the proof that its call comes to just that: laid for this claim by this session's own program. -/
import Derived.Test.YtpfakdhfffehaaaMFnExactSwapperAtx0
import Derived.Test.YtpfakdhfffehaaaMFnExactSwapperAtx1
namespace Go.Proofs.Ytpfakdhfffehaaa.MFnExactSwapperAt
open Go.RowKit Go.Proofs.YtpfakdhfffehaaaW.PrintWords Go.Proofs.YtpfakdhfffehaaaW.PrintLast Go.Proofs.YtpfakdhfffehaaaW.PrintMore
attribute [local go_sem] max2_int min2_int max_two min_two max_three min_three max_four min_four   -- for this text's walks alone
set_option linter.unusedVariables false
set_option linter.unusedSimpArgs false

/-! ### spec_moApply: function 74 -/
mutual
def spec_moApply.l0 : Nat → List Int → List Int → Int → Int → Int → Int → Option (List Int)
 | 0, _, _, _, _, _, _ => none
 | k + 1, x0, x5, x6, x127000, x127001, x127002 => if x6 < x127001 then (if 0 ≤ (wrap64 ((wrap64 (x127001 - 1)) - x6)) then (if (wrap64 ((wrap64 (x127001 - 1)) - x6)) < (x0.length : Int) then (if 0 ≤ x6 then (if x6 < (x5.length : Int) then (spec_moApply.l0 k x0 (x5.set (x6 : Int).toNat (rd x0 (wrap64 ((wrap64 (x127001 - 1)) - x6)))) (wrap64 (x6 + 1)) x127000 x127001 x127002) else (none)) else (none)) else (none)) else (none)) else (some x5)
def spec_moApply.l1 : Nat → List Int → List Int → Int → Int → Int → Int → Option (List Int)
 | 0, _, _, _, _, _, _ => none
 | k + 1, x0, x5, x7, x127000, x127001, x127002 => if x7 < x127001 then (if x127001 = 0 then (none) else (if 0 ≤ (Int.tmod (wrap64 (x7 + 1)) x127001) then (if (Int.tmod (wrap64 (x7 + 1)) x127001) < (x0.length : Int) then (if 0 ≤ x7 then (if x7 < (x5.length : Int) then (spec_moApply.l1 k x0 (x5.set (x7 : Int).toNat (rd x0 (Int.tmod (wrap64 (x7 + 1)) x127001))) (wrap64 (x7 + 1)) x127000 x127001 x127002) else (none)) else (none)) else (none)) else (none))) else (some x5)
end
def spec_moApply.f (k : Nat) (l0 : List Int) (a1_0 : Int) (a1_1 : Int) (a1_2 : Int) : Option (List Int) := (spec_l1Own.f l0).bind fun t127 => (if a1_0 = 0 then (if 0 ≤ a1_2 then (if a1_2 < (l0.length : Int) then (if 0 ≤ a1_1 then (if a1_1 < (t127.length : Int) then (if a1_1 < (l0.length : Int) then (if a1_2 < (t127.length : Int) then (some ((t127.set (a1_1 : Int).toNat (rd l0 a1_2)).set (a1_2 : Int).toNat (rd l0 a1_1))) else (none)) else (none)) else (none)) else (none)) else (none)) else (none)) else (if a1_0 = 1 then (spec_moApply.l0 k l0 t127 0 a1_0 a1_1 a1_2) else (spec_moApply.l1 k l0 t127 0 a1_0 a1_1 a1_2)))
theorem spec_moApply.mono_l : ∀ k, (∀ y0 y1 y2 y3 y4 y5, LeO (spec_moApply.l0 k y0 y1 y2 y3 y4 y5) (spec_moApply.l0 (k + 1) y0 y1 y2 y3 y4 y5)) ∧ (∀ y0 y1 y2 y3 y4 y5, LeO (spec_moApply.l1 k y0 y1 y2 y3 y4 y5) (spec_moApply.l1 (k + 1) y0 y1 y2 y3 y4 y5))
 | 0 => ⟨fun _ _ _ _ _ _ r h => by simp [spec_moApply.l0] at h, fun _ _ _ _ _ _ r h => by simp [spec_moApply.l1] at h⟩
 | k + 1 => by
  obtain ⟨ih0, ih1⟩ := spec_moApply.mono_l k
  refine ⟨?_, ?_⟩
  ·intro y0 y1 y2 y3 y4 y5
   unfold spec_moApply.l0
   repeat' first
   | (with_reducible exact ih0 _ _ _ _ _ _)
   | (with_reducible exact ih1 _ _ _ _ _ _)
   | (with_reducible exact LeO.refl _)
   | (with_reducible exact LeO.none _)
   | (with_reducible refine LeO.ite ?_ ?_)
   | (with_reducible refine LeO.bind ?_ (fun _ => ?_))
   | exact ih0 _ _ _ _ _ _
   | exact ih1 _ _ _ _ _ _
   | exact LeO.none _
   | refine LeO.ite ?_ ?_
   | refine LeO.bind ?_ (fun _ => ?_)
  ·intro y0 y1 y2 y3 y4 y5
   unfold spec_moApply.l1
   repeat' first
   | (with_reducible exact ih0 _ _ _ _ _ _)
   | (with_reducible exact ih1 _ _ _ _ _ _)
   | (with_reducible exact LeO.refl _)
   | (with_reducible exact LeO.none _)
   | (with_reducible refine LeO.ite ?_ ?_)
   | (with_reducible refine LeO.bind ?_ (fun _ => ?_))
   | exact ih0 _ _ _ _ _ _
   | exact ih1 _ _ _ _ _ _
   | exact LeO.none _
   | refine LeO.ite ?_ ?_
   | refine LeO.bind ?_ (fun _ => ?_)
theorem spec_moApply.mono : ∀ a0 a1 a2 a3 k, LeO (spec_moApply.f k a0 a1 a2 a3) (spec_moApply.f (k + 1) a0 a1 a2 a3) := by
 intro a0 a1 a2 a3 k
 obtain ⟨ih0, ih1⟩ := spec_moApply.mono_l k
 unfold spec_moApply.f
 repeat' first
   | (with_reducible exact ih0 _ _ _ _ _ _)
   | (with_reducible exact ih1 _ _ _ _ _ _)
   | (with_reducible exact LeO.refl _)
   | (with_reducible exact LeO.none _)
   | (with_reducible refine LeO.ite ?_ ?_)
   | (with_reducible refine LeO.bind ?_ (fun _ => ?_))
   | exact ih0 _ _ _ _ _ _
   | exact ih1 _ _ _ _ _ _
   | exact LeO.none _
   | refine LeO.ite ?_ ?_
   | refine LeO.bind ?_ (fun _ => ?_)
def spec_moApply.T8 : Bool × List (List Nat × List Nat) := (true, [([], []), ([], []), ([1], [1]), ([], []), ([], []), ([4], [4]), ([3, 5], [3, 5]), ([6], [6]), ([0, 2, 0, 1, 2, 3, 4, 5, 6, 7], [0, 2]), ([8, 7, 0, 1, 2, 3, 4, 5, 6, 7], [7, 8])])
def spec_moApply.B8 : List Nat := [0, 0, 2, 0, 0, 16, 56, 120, 255, 511]
theorem spec_moApply.tab8 : rtab .any (opsOf Try.f74 8) = spec_moApply.T8 := by kernel_rfl
theorem spec_moApply.bits8 : waitsOk spec_moApply.T8.2 spec_moApply.B8 = true := by kernel_rfl
def spec_moApply.T9 : Bool × List (List Nat × List Nat) := (true, [([], []), ([], []), ([1], [1]), ([], []), ([], []), ([4], [4]), ([3, 5], [3, 5]), ([6], [6]), ([0, 2, 0, 1, 2, 3, 4, 5, 6, 7], [0, 2]), ([8, 7, 0, 1, 2, 3, 4, 5, 6, 7], [7, 8])])
def spec_moApply.B9 : List Nat := [0, 0, 2, 0, 0, 16, 56, 120, 255, 511]
theorem spec_moApply.tab9 : rtab .any (opsOf Try.f74 9) = spec_moApply.T9 := by kernel_rfl
theorem spec_moApply.bits9 : waitsOk spec_moApply.T9.2 spec_moApply.B9 = true := by kernel_rfl
set_option maxHeartbeats 8000000 in
set_option maxRecDepth 100000 in
theorem spec_moApply.calls (k : Nat) (A0 : Option Addr) (c0 : Nat) (l0 : List Int) (a1_0 : Int) (a1_1 : Int) (a1_2 : Int) (r : List Int) (w : World) (hr0 : Kd.C (Kd.int .i64) w A0 l0.length l0) (hc0 : l0.length ≤ c0) (h : spec_moApply.f k l0 a1_0 a1_1 a1_2 = some r) :
  Calls Try.prog 74 #[.slice A0 l0.length c0, .agg #[.int .i64 a1_0, .int .i64 a1_1, .int .i64 a1_2]] w fun e w' => ∃ v0_ : Value, e = .returned (v0_) ∧ Kd.R (Kd.int .i64) 3 w' w.heap.size (fun _ => True) v0_ r ∧ Below w.heap.size w w' := by
 have hu82 := Try.underlying82
 have HR0 := Ya hr0
 have HC0 := Ya hc0
 clear hr0 hc0
 have HB := Ya (Below.refl w.heap.size w)
 have H : ((spec_l1Own.f l0).bind fun t127 => (if a1_0 = 0 then (if 0 ≤ a1_2 then (if a1_2 < (l0.length : Int) then (if 0 ≤ a1_1 then (if a1_1 < (t127.length : Int) then (if a1_1 < (l0.length : Int) then (if a1_2 < (t127.length : Int) then (some ((t127.set (a1_1 : Int).toNat (rd l0 a1_2)).set (a1_2 : Int).toNat (rd l0 a1_1))) else (none)) else (none)) else (none)) else (none)) else (none)) else (none)) else (if a1_0 = 1 then (spec_moApply.l0 k l0 t127 0 a1_0 a1_1 a1_2) else (spec_moApply.l1 k l0 t127 0 a1_0 a1_1 a1_2)))) = some r := h
 clear h
 replace H := Z37.mp H
 obtain ⟨t127, A30, H⟩ := H
 replace H : (if a1_0 = 0 then (if 0 ≤ a1_2 then (if a1_2 < (l0.length : Int) then (if 0 ≤ a1_1 then (if a1_1 < (t127.length : Int) then (if a1_1 < (l0.length : Int) then (if a1_2 < (t127.length : Int) then (some ((t127.set (a1_1 : Int).toNat (rd l0 a1_2)).set (a1_2 : Int).toNat (rd l0 a1_1))) else (none)) else (none)) else (none)) else (none)) else (none)) else (none)) else (if a1_0 = 1 then (spec_moApply.l0 k l0 t127 0 a1_0 a1_1 a1_2) else (spec_moApply.l1 k l0 t127 0 a1_0 a1_1 a1_2))) = some r := H
 have A3 := Ya A30
 clear A30
 by_cases c4 : a1_0 = 0
 ·rw [if_pos c4] at H
  have c4b0 : (a1_0 == 0) = true := beq_iff_eq.mpr c4
  have c4b1 : (a1_0 != 0) = false := bne_eq_false_iff_eq.mpr c4
  clear c4
  by_cases c5 : 0 ≤ a1_2
  ·rw [if_pos c5] at H
   have c5b0 : decide (0 ≤ a1_2) = true := Z39 c5
   clear c5
   by_cases c6 : a1_2 < (l0.length : Int)
   ·rw [if_pos c6] at H
    have c6b0 : decide (a1_2 < (l0.length : Int)) = true := Z39 c6
    clear c6
    by_cases c7 : 0 ≤ a1_1
    ·rw [if_pos c7] at H
     have c7b0 : decide (0 ≤ a1_1) = true := Z39 c7
     clear c7
     by_cases c8 : a1_1 < (t127.length : Int)
     ·rw [if_pos c8] at H
      have c8b0 : decide (a1_1 < (t127.length : Int)) = true := Z39 c8
      clear c8
      obtain ⟨y131, hy131⟩ : ∃ y_ : List Int, y_ = (t127.set (a1_1 : Int).toNat (rd l0 a1_2)) := ⟨_, rfl⟩
      replace H : (if a1_1 < (l0.length : Int) then (if a1_2 < (t127.length : Int) then (some (y131.set (a1_2 : Int).toNat (rd l0 a1_1))) else (none)) else (none)) = some r := by first | (rw [hy131]; with_reducible exact H) | (have H2_ := (Option.bind_some _ _).symm.trans H; rw [hy131]; with_reducible exact H2_) | (have H2_ := (Option.bind_some _ _).symm.trans H; with_reducible exact H2_) | with_reducible exact H | (rw [hy131]; exact H) | exact H
      have Ny131 := Ya hy131
      clear hy131
      by_cases c10 : a1_1 < (l0.length : Int)
      ·rw [if_pos c10] at H
       have c10b0 : decide (a1_1 < (l0.length : Int)) = true := Z39 c10
       clear c10
       by_cases c11 : a1_2 < (t127.length : Int)
       ·rw [if_pos c11] at H
        have c11b0 : decide (a1_2 < (t127.length : Int)) = true := Z39 c11
        clear c11
        obtain ⟨y133, hy133⟩ : ∃ y_ : List Int, y_ = (y131.set (a1_2 : Int).toNat (rd l0 a1_1)) := ⟨_, rfl⟩
        replace H : (some y133) = some r := by first | (rw [hy133]; with_reducible exact H) | (have H2_ := (Option.bind_some _ _).symm.trans H; rw [hy133]; with_reducible exact H2_) | (have H2_ := (Option.bind_some _ _).symm.trans H; with_reducible exact H2_) | with_reducible exact H | (rw [hy133]; exact H) | exact H
        have Ny133 := Ya hy133
        clear hy133
        obtain rfl := Option.some.inj H
        go_enter Try.func74, Try.ntmps74
        try go_wp2_with (first | ((with_reducible refine gate_dst (N := 3) rfl ?_); refine Yx 3 #[.int .i64 a1_0, .int .i64 a1_1, .int .i64 a1_2] 82 ?_; intro gb126 hg w13 hbox hb; have BK126 := Ya hbox; have GW126 := Yg hg Q0; have GE126 := GW126; replace HB := Ya (Z8 Q0 hb); clear hb hbox hg) | ((with_reducible refine gate_callee (f := 79) rfl ?_); refine goesL_ (some 9) rfl rfl Try.func79 (by kernel_rfl) rfl #[.slice A0 l0.length c0] rfl Q1 ?_; (with_reducible refine (spec_l1Own.calls _ _ l0 t127 _ ?side1 ?side2 A3.out).mono ?_); (case side1 => exact Yc (Z23 HR0.out HB.out)); (case side2 => exact HC0.out); rintro e w14 ⟨v128, rfl, ho0, hb⟩; refine ⟨_, rfl, ?_⟩; have HO129 := Ya (Kd.R_lower ho0 (Z7 Q39)); replace BK126 := Yb BK126 hb; replace HB := Ya (Z8 Q39 hb); (try clear hb); (try clear hb2); (try clear hk); (try clear hi); (try clear ho0); have hcz15_0 : w14.cell? ⟨gb126, 0, none⟩ = some (.int .i64 a1_0) := (Z24 BK126.out 0).trans rfl; have hcz15_1 : w14.cell? ⟨gb126, 1, none⟩ = some (.int .i64 a1_1) := (Z24 BK126.out 1).trans rfl; have hcz15_2 : w14.cell? ⟨gb126, 2, none⟩ = some (.int .i64 a1_2) := (Z24 BK126.out 2).trans rfl; have hfz15_0 := Z25 BK126.out 0; have hfz15_1 := Z25 BK126.out 1; have hfz15_2 := Z25 BK126.out 2))
        replace HO129 := Ya (Z11 HO129.out)
        replace BK126 := Ya (Z27 BK126.out)
        replace HB := Ya (Z4 HB.out)
        have p130 : 0 ≤ (a1_2 : Int) := Z31 Q5
        have q130 : a1_2 < (l0.length : Int) := Z31 Q5
        obtain ⟨ad130, e130, hx130_0⟩ := Kd.at_int HR0.out a1_2 p130 q130
        have hw130_0 := hx130_0
        cases e130
        try replace hx130_0 := (HB.out.cell (World.block_lt_of_cell? w _ hx130_0)).trans hx130_0
        replace p130 := eq_true p130
        replace q130 := eq_true q130
        have p9 : 0 ≤ (a1_1 : Int) := Z31 Q5
        have q9 : (a1_1 : Int) < ((t127.length : Int) : Int) := Z31 Q5
        obtain ⟨go9, co9, eo9, gb9, gl9, cl9, HG9⟩ := Kd.R_form HO129.out (by omega)
        (first | cases eo9 | (injection eo9 with ea_ en_ ec_; (first | subst ea_ | (injection ea_ with ea_; subst ea_)); subst ec_; clear en_))
        have GB9 := Ya gb9
        have GG9 := Ya HG9
        clear gb9 gl9 HG9
        obtain ⟨hx9_0, hf9_0⟩ := Kd.R_celln 0 HO129.out (a1_1 : Int) p9 q9
        replace p9 := eq_true p9
        replace q9 := eq_true q9
        have HP17 := Kd.R_putn HO129.out (a1_1 : Int) (rd l0 a1_2)
        rw [← Ny131.out] at HP17
        have HQ17 := Ya HP17
        clear HP17
        refine start_ (n := 10) (S := fun w' => w'.cell? ⟨gb126, 0, none⟩ = some (.int .i64 a1_0) ∧ w'.cell? ⟨gb126, 1, none⟩ = some (.int .i64 a1_1) ∧ w'.cell? ⟨gb126, 2, none⟩ = some (.int .i64 a1_2) ∧ w'.cell? (ad130.add (a1_2).toNat) = some (.int .i64 (rd l0 a1_2))) (ds := [9]) (YA 10 0) (by kernel_rfl) rfl rfl ⟨(Z24 BK126.out 0).trans rfl, (Z24 BK126.out 1).trans rfl, (Z24 BK126.out 2).trans rfl, ((HB.out.cell (World.block_lt_of_cell? w _ hw130_0)).trans hw130_0)⟩ (fun hHeld => ?_); refine with_tabW spec_moApply.tab8 spec_moApply.bits8 (fun HT_ HW_ => ?_)
        generalize w14.drew = w16 at HO129 BK126 HB GG9 HQ17 hf9_0 hx130_0 hx9_0 hHeld ⊢
        refine Yp 0 (some 31) (YA 10 1) rfl HT_.out ?_
        refine Yp 1 (some 32) (YA 10 3) rfl HT_.out ?_
        refine Yp 3 (some 34) (YA 10 11) rfl HT_.out ?_
        refine Yp 4 (some 35) (YA 10 27) rfl HT_.out ?_
        refine Yt 2 (some 33) (YA 10 31) rfl HT_.out HW_.out hHeld Q10 ?_
        refine Yt 5 (some 36) (YA 10 63) rfl HT_.out HW_.out hHeld Q10 ?_
        refine Yp 6 (some 37) (YA 10 127) rfl HT_.out ?_
        refine Yt 7 (some 38) (YA 10 255) rfl HT_.out HW_.out hHeld Q10 ?_
        refine Yp 8 (some 39) (YA 10 511) rfl HT_.out ?_
        refine last_ (i := 9) (N := none) (YA 10 1023) rfl rfl (one_of HT_.out (by kernel_rfl)) (by decide) (fun K hK => ?_)
        refine skip_ (w1 := ?_) (by rfl) rfl ?_ ?_
        rotate_left
        ·go_simp
         rfl
        refine hK.out _ _ ?_
        clear hK K
        refine done_ (done_of HT_.out (by kernel_rfl)) ?_
        try go_wp2
        replace BK126 : Aside0 ((w16.setCell ⟨go9, (a1_1 : Int).toNat, none⟩ (.int .i64 (rd l0 a1_2))).heap[gb126]? = some (.cells #[.int .i64 a1_0, .int .i64 a1_1, .int .i64 a1_2] 82 (0, 0))) := ⟨by (with_reducible repeat (first | refine Z26 ?_ _ | refine Z27 ?_ | refine Z28 ?_ _)); refine blk_far ?_ (by have h_ := Kd.R_ne HO129.out BK126.out (by decide); intro e_; exact h_ (by rw [e_]; rfl)) _; (with_reducible repeat (first | refine Z26 ?_ _ | refine Z27 ?_ | refine Z28 ?_ _)); exact BK126.out⟩
        replace HO129 : Aside0 (Kd.R (Kd.int .i64) 3 (w16.setCell ⟨go9, (a1_1 : Int).toNat, none⟩ (.int .i64 (rd l0 a1_2))) w.heap.size (fun _ => True) (.slice (some ⟨go9, 0, none⟩) t127.length co9) y131) := ⟨by (with_reducible repeat (first | apply Z9 | apply Z10 | apply Z11)); exact HQ17.out⟩
        replace HB : Aside0 (Below w.heap.size w (w16.setCell ⟨go9, (a1_1 : Int).toNat, none⟩ (.int .i64 (rd l0 a1_2)))) := ⟨Q79⟩
        generalize (w16.setCell ⟨go9, (a1_1 : Int).toNat, none⟩ (.int .i64 (rd l0 a1_2))) = w18 at HO129 BK126 HB ⊢
        replace HO129 := Ya (Z11 HO129.out)
        replace BK126 := Ya (Z27 BK126.out)
        replace HB := Ya (Z4 HB.out)
        have p132 : 0 ≤ (a1_1 : Int) := Z31 Q5
        have q132 : a1_1 < (l0.length : Int) := Z31 Q5
        obtain ⟨ad132, e132, hx132_0⟩ := Kd.at_int HR0.out a1_1 p132 q132
        have hw132_0 := hx132_0
        obtain rfl : ad130 = ad132 := (by injection e132)
        try replace hx132_0 := (HB.out.cell (World.block_lt_of_cell? w _ hx132_0)).trans hx132_0
        replace p132 := eq_true p132
        replace q132 := eq_true q132
        have p12 : 0 ≤ (a1_2 : Int) := Z31 Q5
        have q12 : (a1_2 : Int) < ((t127.length : Int) : Int) := Z31 Q5
        obtain ⟨hx12_0, hf12_0⟩ := Kd.R_celln 0 HO129.out (a1_2 : Int) p12 q12
        replace p12 := eq_true p12
        replace q12 := eq_true q12
        have HP20 := Kd.R_putn HO129.out (a1_2 : Int) (rd l0 a1_1)
        rw [← Ny133.out] at HP20
        have HQ20 := Ya HP20
        clear HP20
        refine start_ (n := 10) (S := fun w' => w'.cell? ⟨gb126, 0, none⟩ = some (.int .i64 a1_0) ∧ w'.cell? ⟨gb126, 1, none⟩ = some (.int .i64 a1_1) ∧ w'.cell? ⟨gb126, 2, none⟩ = some (.int .i64 a1_2) ∧ w'.cell? (ad130.add (a1_1).toNat) = some (.int .i64 (rd l0 a1_1))) (ds := [9]) (YA 10 0) (by kernel_rfl) rfl rfl ⟨(Z24 BK126.out 0).trans rfl, (Z24 BK126.out 1).trans rfl, (Z24 BK126.out 2).trans rfl, ((HB.out.cell (World.block_lt_of_cell? w _ hw132_0)).trans hw132_0)⟩ (fun hHeld => ?_); refine with_tabW spec_moApply.tab9 spec_moApply.bits9 (fun HT_ HW_ => ?_)
        generalize w18.drew = w19 at HO129 BK126 HB HQ17 HQ20 hf12_0 hx12_0 hx132_0 hHeld ⊢
        refine Yp 0 (some 40) (YA 10 1) rfl HT_.out ?_
        refine Yp 1 (some 41) (YA 10 3) rfl HT_.out ?_
        refine Yp 3 (some 43) (YA 10 11) rfl HT_.out ?_
        refine Yp 4 (some 44) (YA 10 27) rfl HT_.out ?_
        refine Yt 2 (some 42) (YA 10 31) rfl HT_.out HW_.out hHeld Q10 ?_
        refine Yt 5 (some 45) (YA 10 63) rfl HT_.out HW_.out hHeld Q10 ?_
        refine Yp 6 (some 46) (YA 10 127) rfl HT_.out ?_
        refine Yt 7 (some 47) (YA 10 255) rfl HT_.out HW_.out hHeld Q10 ?_
        refine Yp 8 (some 48) (YA 10 511) rfl HT_.out ?_
        refine last_ (i := 9) (N := none) (YA 10 1023) rfl rfl (one_of HT_.out (by kernel_rfl)) (by decide) (fun K hK => ?_)
        refine skip_ (w1 := ?_) (by rfl) rfl ?_ ?_
        rotate_left
        ·go_simp
         rfl
        refine hK.out _ _ ?_
        clear hK K
        refine done_ (done_of HT_.out (by kernel_rfl)) ?_
        try go_wp2
        go_ret
        exact ⟨_, Q9, by (with_reducible repeat (first | apply Z9 | apply Z10 | apply Z11)); exact HQ20.out, Q79⟩
       ·rw [if_neg c11] at H
        exact absurd H (by simp)
      ·rw [if_neg c10] at H
       exact absurd H (by simp)
     ·rw [if_neg c8] at H
      exact absurd H (by simp)
    ·rw [if_neg c7] at H
     exact absurd H (by simp)
   ·rw [if_neg c6] at H
    exact absurd H (by simp)
  ·rw [if_neg c5] at H
   exact absurd H (by simp)
 ·rw [if_neg c4] at H
  have c4b0 : (a1_0 == 0) = false := beq_eq_false_iff_ne.mpr c4
  have c4b1 : (a1_0 != 0) = true := bne_iff_ne.mpr c4
  by_cases c21 : a1_0 = 1
  ·rw [if_pos c21] at H
   have c21b0 : (a1_0 == 1) = true := beq_iff_eq.mpr c21
   have c21b1 : (a1_0 != 1) = false := bne_eq_false_iff_eq.mpr c21
   clear c21
   have H' := Ya H
   clear H
   go_enter Try.func74, Try.ntmps74
   go_wp2_with (first | ((with_reducible refine gate_dst (N := 3) rfl ?_); refine Yx 3 #[.int .i64 a1_0, .int .i64 a1_1, .int .i64 a1_2] 82 ?_; intro gb126 hg w22 hbox hb; have BK126 := Ya hbox; have GW126 := Yg hg Q0; have GE126 := GW126; replace HB := Ya (Z8 Q0 hb); clear hb hbox hg) | ((with_reducible refine gate_callee (f := 79) rfl ?_); refine goesL_ (some 9) rfl rfl Try.func79 (by kernel_rfl) rfl #[.slice A0 l0.length c0] rfl Q1 ?_; (with_reducible refine (spec_l1Own.calls _ _ l0 t127 _ ?side1 ?side2 A3.out).mono ?_); (case side1 => exact Yc (Z23 HR0.out HB.out)); (case side2 => exact HC0.out); rintro e w23 ⟨v128, rfl, ho0, hb⟩; refine ⟨_, rfl, ?_⟩; have HO129 := Ya (Kd.R_lower ho0 (Z7 Q39)); replace BK126 := Yb BK126 hb; replace HB := Ya (Z8 Q39 hb); (try clear hb); (try clear hb2); (try clear hk); (try clear hi); (try clear ho0); have hcz24_0 : w23.cell? ⟨gb126, 0, none⟩ = some (.int .i64 a1_0) := (Z24 BK126.out 0).trans rfl; have hcz24_1 : w23.cell? ⟨gb126, 1, none⟩ = some (.int .i64 a1_1) := (Z24 BK126.out 1).trans rfl; have hcz24_2 : w23.cell? ⟨gb126, 2, none⟩ = some (.int .i64 a1_2) := (Z24 BK126.out 2).trans rfl; have hfz24_0 := Z25 BK126.out 0; have hfz24_1 := Z25 BK126.out 1; have hfz24_2 := Z25 BK126.out 2))
   go_loopg [6] k (fun kq v6 w' => ∃ (x5_1 : List Int) (x6_1 : Int), v6 = .int .i64 x6_1 ∧ Aside0 (spec_moApply.l0 kq l0 x5_1 x6_1 a1_0 a1_1 a1_2 = some r) ∧ Aside0 (kq ≤ k) ∧ Aside0 (Kd.R (Kd.int .i64) 3 w' w.heap.size (fun _ => True) v128 x5_1) ∧ Aside0 (w'.heap[gb126]? = some (.cells #[.int .i64 a1_0, .int .i64 a1_1, .int .i64 a1_2] 82 (0, 0))) ∧ Aside0 (Below w.heap.size w w'))
   case atStart => exact ⟨(t127), (0), Q15, H', ⟨Nat.le_refl _⟩, ⟨by (with_reducible repeat (first | apply Z9 | apply Z10 | apply Z11)); exact HO129.out⟩, ⟨Q61⟩, ⟨Q48⟩⟩
   case round =>
    clear H'
    try clear c1
    try clear p1
    try clear q1
    try clear hx1
    try clear c2
    try clear p2
    try clear c4
    try clear c4b0
    try clear c4b1
    try clear c5
    try clear c5b0
    try clear c6
    try clear c6b0
    try clear c7
    try clear c7b0
    try clear c8
    try clear c8b0
    try clear p9
    try clear q9
    try clear hx9
    try clear hf9
    try clear c10
    try clear c10b0
    try clear c11
    try clear c11b0
    try clear p12
    try clear q12
    try clear hx12
    try clear hf12
    try clear p13
    try clear q13
    try clear hx13
    try clear c21
    try clear c21b0
    try clear c21b1
    try clear hcz15_0
    try clear hcz15_1
    try clear hcz15_2
    try clear hcz24_0
    try clear hcz24_1
    try clear hcz24_2
    try clear hfz15_0
    try clear hfz15_1
    try clear hfz15_2
    try clear hfz24_0
    try clear hfz24_1
    try clear hfz24_2
    try clear hx12_0
    try clear hx130_0
    try clear hx132_0
    try clear hx9_0
    try clear p12
    try clear p130
    try clear p132
    try clear p9
    try clear q12
    try clear q130
    try clear q132
    try clear q9
    obtain ⟨x5_1, x6_1, rfl, HA, HK1, HO_5, BK126, HB⟩ := hrel
    cases gk with
    | zero => exact absurd HA.out (by simp [spec_moApply.l0])
    | succ k1 =>
     have H := HA.out
     clear HA
     simp only [spec_moApply.l0] at H
     by_cases c25 : x6_1 < a1_1
     ·rw [if_pos c25] at H
      have c25b0 : decide (x6_1 < a1_1) = true := Z39 c25
      clear c25
      obtain ⟨ji26, hji26⟩ : ∃ j_ : Int, (wrap64 ((wrap64 (a1_1 - 1)) - x6_1)) = j_ := ⟨_, rfl⟩
      replace H : (if 0 ≤ (ji26) then (if (ji26) < (l0.length : Int) then (if 0 ≤ x6_1 then (if x6_1 < (x5_1.length : Int) then (spec_moApply.l0 k1 l0 (x5_1.set (x6_1 : Int).toNat (rd l0 (ji26))) (wrap64 (x6_1 + 1)) a1_0 a1_1 a1_2) else (none)) else (none)) else (none)) else (none)) = some r := by first | (rw [hji26] at H; exact H) | (simp only [hji26] at H ⊢; exact H)
      have hji26w : (IntKind.i64.wrap ((wrap64 (a1_1 - 1)) - x6_1)) = ji26 := (i64_w _).trans hji26
      by_cases c27 : 0 ≤ (ji26)
      ·rw [if_pos c27] at H
       have c27b0 : decide (0 ≤ (ji26)) = true := Z39 c27
       clear c27
       by_cases c28 : (ji26) < (l0.length : Int)
       ·rw [if_pos c28] at H
        have c28b0 : decide ((ji26) < (l0.length : Int)) = true := Z39 c28
        clear c28
        by_cases c29 : 0 ≤ x6_1
        ·rw [if_pos c29] at H
         have c29b0 : decide (0 ≤ x6_1) = true := Z39 c29
         clear c29
         by_cases c30 : x6_1 < (x5_1.length : Int)
         ·rw [if_pos c30] at H
          have c30b0 : decide (x6_1 < (x5_1.length : Int)) = true := Z39 c30
          clear c30
          obtain ⟨y135, hy135⟩ : ∃ y_ : List Int, y_ = (x5_1.set (x6_1 : Int).toNat (rd l0 (ji26))) := ⟨_, rfl⟩
          replace H : (spec_moApply.l0 k1 l0 y135 (wrap64 (x6_1 + 1)) a1_0 a1_1 a1_2) = some r := by first | (rw [hy135]; with_reducible exact H) | (have H2_ := (Option.bind_some _ _).symm.trans H; rw [hy135]; with_reducible exact H2_) | (have H2_ := (Option.bind_some _ _).symm.trans H; with_reducible exact H2_) | with_reducible exact H | (rw [hy135]; exact H) | exact H
          have Ny135 := Ya hy135
          clear hy135
          have H' := Ya H
          clear H
          have hcz32_0 : wr.cell? ⟨gb126, 0, none⟩ = some (.int .i64 a1_0) := (Z24 BK126.out 0).trans rfl
          have hcz32_1 : wr.cell? ⟨gb126, 1, none⟩ = some (.int .i64 a1_1) := (Z24 BK126.out 1).trans rfl
          have hcz32_2 : wr.cell? ⟨gb126, 2, none⟩ = some (.int .i64 a1_2) := (Z24 BK126.out 2).trans rfl
          have hfz32_0 := Z25 BK126.out 0
          have hfz32_1 := Z25 BK126.out 1
          have hfz32_2 := Z25 BK126.out 2
          have p134 : 0 ≤ ((ji26) : Int) := Z31 Q5
          have q134 : (ji26) < (l0.length : Int) := Z31 Q5
          obtain ⟨ad134, e134, hx134_0⟩ := Kd.at_int HR0.out (ji26) p134 q134
          cases e134
          try replace hx134_0 := (HB.out.cell (World.block_lt_of_cell? w _ hx134_0)).trans hx134_0
          replace p134 := eq_true p134
          replace q134 := eq_true q134
          have p31 : 0 ≤ (x6_1 : Int) := Z31 Q5
          have q31 : (x6_1 : Int) < ((x5_1.length : Int) : Int) := Z31 Q5
          obtain ⟨go31, co31, eo31, gb31, gl31, cl31, HG31⟩ := Kd.R_form HO_5.out (by omega)
          (first | cases eo31 | (injection eo31 with ea_ en_ ec_; (first | subst ea_ | (injection ea_ with ea_; subst ea_)); subst ec_; clear en_))
          have GB31 := Ya gb31
          have GG31 := Ya HG31
          clear gb31 gl31 HG31
          obtain ⟨hx31_0, hf31_0⟩ := Kd.R_celln 0 HO_5.out (x6_1 : Int) p31 q31
          replace p31 := eq_true p31
          replace q31 := eq_true q31
          have HP33 := Kd.R_putg HO_5.out (x6_1 : Int) (rd l0 (ji26))
          go_wp2_with (first | ((with_reducible refine gate_store (t := 3) (p := 67) rfl ?_); refine store_event (t := 3) (p := 67) (v := ?vo_w34) (w1 := (wr.setCell ⟨go31, (x6_1 : Int).toNat, none⟩ (.int .i64 (rd l0 (ji26))))) ?hg ?ho ?hn ?hr ?_; (case ho => rfl); (case hg => rfl); (case hn => rfl); (case hr => first | (go_simp; done) | (go_simp; rfl)); intro w34 hw; have hg : wr.grownBy w34 (some go31) := (by rw [hw]; exact HP33.2); have hp_ : Kd.R (Kd.int .i64) 3 w34 w.heap.size (fun _ => True) (.slice (some ⟨go31, 0, none⟩) x5_1.length co31) y135 := (by rw [hw, Ny135.out]; exact HP33.1); clear HP33; replace BK126 := Ya (blk_grown (g := gb126) (o := .cells #[.int .i64 a1_0, .int .i64 a1_1, .int .i64 a1_2] 82 (0, 0)) (Yk BK126.out) hg (Kd.R_ne HO_5.out BK126.out (by decide))); replace HO_5 := Ya hp_; replace HB := Ya ((by rw [hw]; exact Z6 (HB.out) GB31.out : Below w.heap.size w w34)); clear hg hw hp_))
          go_roundg k1
          case measure => have := HK1.out; omega
          case rel => exact ⟨(y135), (wrap64 (x6_1 + 1)), Q15, H', ⟨Q55⟩, ⟨Q68⟩, ⟨Q61⟩, ⟨Q48⟩⟩
         ·rw [if_neg c30] at H
          exact absurd H (by simp)
        ·rw [if_neg c29] at H
         exact absurd H (by simp)
       ·rw [if_neg c28] at H
        exact absurd H (by simp)
      ·rw [if_neg c27] at H
       exact absurd H (by simp)
     ·rw [if_neg c25] at H
      have c25b0 : decide (x6_1 < a1_1) = false := Z38 c25
      clear c25
      obtain rfl := Option.some.inj H
      have hcz35_0 : wr.cell? ⟨gb126, 0, none⟩ = some (.int .i64 a1_0) := (Z24 BK126.out 0).trans rfl
      have hcz35_1 : wr.cell? ⟨gb126, 1, none⟩ = some (.int .i64 a1_1) := (Z24 BK126.out 1).trans rfl
      have hcz35_2 : wr.cell? ⟨gb126, 2, none⟩ = some (.int .i64 a1_2) := (Z24 BK126.out 2).trans rfl
      have hfz35_0 := Z25 BK126.out 0
      have hfz35_1 := Z25 BK126.out 1
      have hfz35_2 := Z25 BK126.out 2
      go_wp2
      go_ret
      exact ⟨_, Q9, Q68, Q48⟩
  ·rw [if_neg c21] at H
   have c21b0 : (a1_0 == 1) = false := beq_eq_false_iff_ne.mpr c21
   have c21b1 : (a1_0 != 1) = true := bne_iff_ne.mpr c21
   have H' := Ya H
   clear H
   go_enter Try.func74, Try.ntmps74
   go_wp2_with (first | ((with_reducible refine gate_dst (N := 3) rfl ?_); refine Yx 3 #[.int .i64 a1_0, .int .i64 a1_1, .int .i64 a1_2] 82 ?_; intro gb126 hg w36 hbox hb; have BK126 := Ya hbox; have GW126 := Yg hg Q0; have GE126 := GW126; replace HB := Ya (Z8 Q0 hb); clear hb hbox hg) | ((with_reducible refine gate_callee (f := 79) rfl ?_); refine goesL_ (some 9) rfl rfl Try.func79 (by kernel_rfl) rfl #[.slice A0 l0.length c0] rfl Q1 ?_; (with_reducible refine (spec_l1Own.calls _ _ l0 t127 _ ?side1 ?side2 A3.out).mono ?_); (case side1 => exact Yc (Z23 HR0.out HB.out)); (case side2 => exact HC0.out); rintro e w37 ⟨v128, rfl, ho0, hb⟩; refine ⟨_, rfl, ?_⟩; have HO129 := Ya (Kd.R_lower ho0 (Z7 Q39)); replace BK126 := Yb BK126 hb; replace HB := Ya (Z8 Q39 hb); (try clear hb); (try clear hb2); (try clear hk); (try clear hi); (try clear ho0); have hcz38_0 : w37.cell? ⟨gb126, 0, none⟩ = some (.int .i64 a1_0) := (Z24 BK126.out 0).trans rfl; have hcz38_1 : w37.cell? ⟨gb126, 1, none⟩ = some (.int .i64 a1_1) := (Z24 BK126.out 1).trans rfl; have hcz38_2 : w37.cell? ⟨gb126, 2, none⟩ = some (.int .i64 a1_2) := (Z24 BK126.out 2).trans rfl; have hfz38_0 := Z25 BK126.out 0; have hfz38_1 := Z25 BK126.out 1; have hfz38_2 := Z25 BK126.out 2))
   go_loopg [7] k (fun kq v7 w' => ∃ (x5_1 : List Int) (x7_1 : Int), v7 = .int .i64 x7_1 ∧ Aside0 (spec_moApply.l1 kq l0 x5_1 x7_1 a1_0 a1_1 a1_2 = some r) ∧ Aside0 (kq ≤ k) ∧ Aside0 (Kd.R (Kd.int .i64) 3 w' w.heap.size (fun _ => True) v128 x5_1) ∧ Aside0 (w'.heap[gb126]? = some (.cells #[.int .i64 a1_0, .int .i64 a1_1, .int .i64 a1_2] 82 (0, 0))) ∧ Aside0 (Below w.heap.size w w'))
   case atStart => exact ⟨(t127), (0), Q15, H', ⟨Nat.le_refl _⟩, ⟨by (with_reducible repeat (first | apply Z9 | apply Z10 | apply Z11)); exact HO129.out⟩, ⟨Q61⟩, ⟨Q48⟩⟩
   case round =>
    clear H'
    try clear c1
    try clear p1
    try clear q1
    try clear hx1
    try clear c2
    try clear p2
    try clear c3
    try clear p3
    try clear q3
    try clear hx3
    try clear hf3
    try clear c4
    try clear c4b0
    try clear c4b1
    try clear c5
    try clear c5b0
    try clear c6
    try clear c6b0
    try clear p6
    try clear c7
    try clear c7b0
    try clear c8
    try clear c8b0
    try clear p9
    try clear q9
    try clear hx9
    try clear hf9
    try clear c10
    try clear c10b0
    try clear c11
    try clear c11b0
    try clear p12
    try clear q12
    try clear hx12
    try clear hf12
    try clear p13
    try clear q13
    try clear hx13
    try clear c21
    try clear c21b0
    try clear c21b1
    try clear c25
    try clear c25b0
    try clear c27
    try clear c27b0
    try clear c28
    try clear c28b0
    try clear c29
    try clear c29b0
    try clear c30
    try clear c30b0
    try clear p31
    try clear q31
    try clear hx31
    try clear hf31
    try clear hcz15_0
    try clear hcz15_1
    try clear hcz15_2
    try clear hcz24_0
    try clear hcz24_1
    try clear hcz24_2
    try clear hcz32_0
    try clear hcz32_1
    try clear hcz32_2
    try clear hcz35_0
    try clear hcz35_1
    try clear hcz35_2
    try clear hcz38_0
    try clear hcz38_1
    try clear hcz38_2
    try clear hfz15_0
    try clear hfz15_1
    try clear hfz15_2
    try clear hfz24_0
    try clear hfz24_1
    try clear hfz24_2
    try clear hfz32_0
    try clear hfz32_1
    try clear hfz32_2
    try clear hfz35_0
    try clear hfz35_1
    try clear hfz35_2
    try clear hfz38_0
    try clear hfz38_1
    try clear hfz38_2
    try clear hx12_0
    try clear hx130_0
    try clear hx132_0
    try clear hx134_0
    try clear hx31_0
    try clear hx9_0
    try clear p1
    try clear p12
    try clear p13
    try clear p130
    try clear p132
    try clear p134
    try clear p2
    try clear p31
    try clear p9
    try clear q1
    try clear q12
    try clear q13
    try clear q130
    try clear q132
    try clear q134
    try clear q31
    try clear q9
    obtain ⟨x5_1, x7_1, rfl, HA, HK1, HO_5, BK126, HB⟩ := hrel
    cases gk with
    | zero => exact absurd HA.out (by simp [spec_moApply.l1])
    | succ k1 =>
     have H := HA.out
     clear HA
     simp only [spec_moApply.l1] at H
     by_cases c39 : x7_1 < a1_1
     ·rw [if_pos c39] at H
      have c39b0 : decide (x7_1 < a1_1) = true := Z39 c39
      clear c39
      by_cases c40 : a1_1 = 0
      ·rw [if_pos c40] at H
       exact absurd H (by simp)
      ·rw [if_neg c40] at H
       have c40b0 : (a1_1 == 0) = false := beq_eq_false_iff_ne.mpr c40
       have c40b1 : (a1_1 != 0) = true := bne_iff_ne.mpr c40
       obtain ⟨ji41, hji41⟩ : ∃ j_ : Int, (Int.tmod (wrap64 (x7_1 + 1)) a1_1) = j_ := ⟨_, rfl⟩
       replace H : (if 0 ≤ (ji41) then (if (ji41) < (l0.length : Int) then (if 0 ≤ x7_1 then (if x7_1 < (x5_1.length : Int) then (spec_moApply.l1 k1 l0 (x5_1.set (x7_1 : Int).toNat (rd l0 (ji41))) (wrap64 (x7_1 + 1)) a1_0 a1_1 a1_2) else (none)) else (none)) else (none)) else (none)) = some r := by first | (rw [hji41] at H; exact H) | (simp only [hji41] at H ⊢; exact H)
       by_cases c42 : 0 ≤ (ji41)
       ·rw [if_pos c42] at H
        have c42b0 : decide (0 ≤ (ji41)) = true := Z39 c42
        clear c42
        by_cases c43 : (ji41) < (l0.length : Int)
        ·rw [if_pos c43] at H
         have c43b0 : decide ((ji41) < (l0.length : Int)) = true := Z39 c43
         clear c43
         by_cases c44 : 0 ≤ x7_1
         ·rw [if_pos c44] at H
          have c44b0 : decide (0 ≤ x7_1) = true := Z39 c44
          clear c44
          by_cases c45 : x7_1 < (x5_1.length : Int)
          ·rw [if_pos c45] at H
           have c45b0 : decide (x7_1 < (x5_1.length : Int)) = true := Z39 c45
           clear c45
           obtain ⟨y137, hy137⟩ : ∃ y_ : List Int, y_ = (x5_1.set (x7_1 : Int).toNat (rd l0 (ji41))) := ⟨_, rfl⟩
           replace H : (spec_moApply.l1 k1 l0 y137 (wrap64 (x7_1 + 1)) a1_0 a1_1 a1_2) = some r := by first | (rw [hy137]; with_reducible exact H) | (have H2_ := (Option.bind_some _ _).symm.trans H; rw [hy137]; with_reducible exact H2_) | (have H2_ := (Option.bind_some _ _).symm.trans H; with_reducible exact H2_) | with_reducible exact H | (rw [hy137]; exact H) | exact H
           have Ny137 := Ya hy137
           clear hy137
           have H' := Ya H
           clear H
           have hcz47_0 : wr.cell? ⟨gb126, 0, none⟩ = some (.int .i64 a1_0) := (Z24 BK126.out 0).trans rfl
           have hcz47_1 : wr.cell? ⟨gb126, 1, none⟩ = some (.int .i64 a1_1) := (Z24 BK126.out 1).trans rfl
           have hcz47_2 : wr.cell? ⟨gb126, 2, none⟩ = some (.int .i64 a1_2) := (Z24 BK126.out 2).trans rfl
           have hfz47_0 := Z25 BK126.out 0
           have hfz47_1 := Z25 BK126.out 1
           have hfz47_2 := Z25 BK126.out 2
           have p136 : 0 ≤ ((ji41) : Int) := Z31 Q5
           have q136 : (ji41) < (l0.length : Int) := Z31 Q5
           obtain ⟨ad136, e136, hx136_0⟩ := Kd.at_int HR0.out (ji41) p136 q136
           cases e136
           try replace hx136_0 := (HB.out.cell (World.block_lt_of_cell? w _ hx136_0)).trans hx136_0
           replace p136 := eq_true p136
           replace q136 := eq_true q136
           have p46 : 0 ≤ (x7_1 : Int) := Z31 Q5
           have q46 : (x7_1 : Int) < ((x5_1.length : Int) : Int) := Z31 Q5
           obtain ⟨go46, co46, eo46, gb46, gl46, cl46, HG46⟩ := Kd.R_form HO_5.out (by omega)
           (first | cases eo46 | (injection eo46 with ea_ en_ ec_; (first | subst ea_ | (injection ea_ with ea_; subst ea_)); subst ec_; clear en_))
           have GB46 := Ya gb46
           have GG46 := Ya HG46
           clear gb46 gl46 HG46
           obtain ⟨hx46_0, hf46_0⟩ := Kd.R_celln 0 HO_5.out (x7_1 : Int) p46 q46
           replace p46 := eq_true p46
           replace q46 := eq_true q46
           have HP48 := Kd.R_putg HO_5.out (x7_1 : Int) (rd l0 (ji41))
           go_wp2_with (first | ((with_reducible refine gate_store (t := 3) (p := 28) rfl ?_); refine store_event (t := 3) (p := 28) (v := ?vo_w49) (w1 := (wr.setCell ⟨go46, (x7_1 : Int).toNat, none⟩ (.int .i64 (rd l0 (ji41))))) ?hg ?ho ?hn ?hr ?_; (case ho => rfl); (case hg => rfl); (case hn => rfl); (case hr => first | (go_simp; done) | (go_simp; rfl)); intro w49 hw; have hg : wr.grownBy w49 (some go46) := (by rw [hw]; exact HP48.2); have hp_ : Kd.R (Kd.int .i64) 3 w49 w.heap.size (fun _ => True) (.slice (some ⟨go46, 0, none⟩) x5_1.length co46) y137 := (by rw [hw, Ny137.out]; exact HP48.1); clear HP48; replace BK126 := Ya (blk_grown (g := gb126) (o := .cells #[.int .i64 a1_0, .int .i64 a1_1, .int .i64 a1_2] 82 (0, 0)) (Yk BK126.out) hg (Kd.R_ne HO_5.out BK126.out (by decide))); replace HO_5 := Ya hp_; replace HB := Ya ((by rw [hw]; exact Z6 (HB.out) GB46.out : Below w.heap.size w w49)); clear hg hw hp_))
           go_roundg k1
           case measure => have := HK1.out; omega
           case rel => exact ⟨(y137), (wrap64 (x7_1 + 1)), Q15, H', ⟨Q55⟩, ⟨Q68⟩, ⟨Q61⟩, ⟨Q48⟩⟩
          ·rw [if_neg c45] at H
           exact absurd H (by simp)
         ·rw [if_neg c44] at H
          exact absurd H (by simp)
        ·rw [if_neg c43] at H
         exact absurd H (by simp)
       ·rw [if_neg c42] at H
        exact absurd H (by simp)
     ·rw [if_neg c39] at H
      have c39b0 : decide (x7_1 < a1_1) = false := Z38 c39
      clear c39
      obtain rfl := Option.some.inj H
      have hcz50_0 : wr.cell? ⟨gb126, 0, none⟩ = some (.int .i64 a1_0) := (Z24 BK126.out 0).trans rfl
      have hcz50_1 : wr.cell? ⟨gb126, 1, none⟩ = some (.int .i64 a1_1) := (Z24 BK126.out 1).trans rfl
      have hcz50_2 : wr.cell? ⟨gb126, 2, none⟩ = some (.int .i64 a1_2) := (Z24 BK126.out 2).trans rfl
      have hfz50_0 := Z25 BK126.out 0
      have hfz50_1 := Z25 BK126.out 1
      have hfz50_2 := Z25 BK126.out 2
      go_wp2
      go_ret
      exact ⟨_, Q9, Q68, Q48⟩

/-! ### spec_raInverse: function 75 -/
def spec_raInverse.l0 : Nat → List Int → List Int → Int → Int → Option (List Int)
 | 0, _, _, _, _ => none
 | k + 1, x3, x9, x10, x11 => if x11 < x10 then (if 0 ≤ x11 then (if x11 < (x9.length : Int) then (if 0 ≤ (rd x9 x11) then (if (rd x9 x11) < (x3.length : Int) then (spec_raInverse.l0 k (x3.set ((rd x9 x11) : Int).toNat x11) x9 x10 (wrap64 (x11 + 1))) else (none)) else (none)) else (none)) else (none)) else (some x3)
def spec_raInverse.f (k : Nat) (l0 : List Int) : Option (List Int) := if 0 ≤ (l0.length : Int) then (if ((l0.length : Int) : Int).toNat ≤ 35184372088832 then (spec_raInverse.l0 k (List.replicate ((l0.length : Int) : Int).toNat 0) l0 (l0.length : Int) 0) else (none)) else (none)
theorem spec_raInverse.mono_l : ∀ k, (∀ y0 y1 y2 y3, LeO (spec_raInverse.l0 k y0 y1 y2 y3) (spec_raInverse.l0 (k + 1) y0 y1 y2 y3))
 | 0 => fun _ _ _ _ r h => by simp [spec_raInverse.l0] at h
 | k + 1 => by
  have ih0 := spec_raInverse.mono_l k
  ·intro y0 y1 y2 y3
   unfold spec_raInverse.l0
   repeat' first
   | (with_reducible exact ih0 _ _ _ _)
   | (with_reducible exact LeO.refl _)
   | (with_reducible exact LeO.none _)
   | (with_reducible refine LeO.ite ?_ ?_)
   | (with_reducible refine LeO.bind ?_ (fun _ => ?_))
   | exact ih0 _ _ _ _
   | exact LeO.none _
   | refine LeO.ite ?_ ?_
   | refine LeO.bind ?_ (fun _ => ?_)
theorem spec_raInverse.mono : ∀ a0 k, LeO (spec_raInverse.f k a0) (spec_raInverse.f (k + 1) a0) := by
 intro a0 k
 have ih0 := spec_raInverse.mono_l k
 unfold spec_raInverse.f
 repeat' first
   | (with_reducible exact ih0 _ _ _ _)
   | (with_reducible exact LeO.refl _)
   | (with_reducible exact LeO.none _)
   | (with_reducible refine LeO.ite ?_ ?_)
   | (with_reducible refine LeO.bind ?_ (fun _ => ?_))
   | exact ih0 _ _ _ _
   | exact LeO.none _
   | refine LeO.ite ?_ ?_
   | refine LeO.bind ?_ (fun _ => ?_)
set_option maxHeartbeats 8000000 in
set_option maxRecDepth 100000 in
theorem spec_raInverse.calls (k : Nat) (A0 : Option Addr) (c0 : Nat) (l0 : List Int) (r : List Int) (w : World) (hr0 : Kd.C (Kd.int .i64) w A0 l0.length l0) (hc0 : l0.length ≤ c0) (h : spec_raInverse.f k l0 = some r) :
  Calls Try.prog 75 #[.slice A0 l0.length c0] w fun e w' => ∃ v0_ : Value, e = .returned (v0_) ∧ Kd.R (Kd.int .i64) 3 w' w.heap.size (fun _ => True) v0_ r ∧ Below w.heap.size w w' := by
 have HR0 := Ya hr0
 have HC0 := Ya hc0
 clear hr0 hc0
 have HB := Ya (Below.refl w.heap.size w)
 have H : (if 0 ≤ (l0.length : Int) then (if ((l0.length : Int) : Int).toNat ≤ 35184372088832 then (spec_raInverse.l0 k (List.replicate ((l0.length : Int) : Int).toNat 0) l0 (l0.length : Int) 0) else (none)) else (none)) = some r := h
 clear h
 by_cases c2 : 0 ≤ (l0.length : Int)
 ·rw [if_pos c2] at H
  have c2b0 := eq_true c2
  have c2b1 : decide (0 ≤ (l0.length : Int)) = true := Z39 c2
  have HLEc2 := Ya c2
  clear c2
  by_cases c3 : ((l0.length : Int) : Int).toNat ≤ 35184372088832
  ·rw [if_pos c3] at H
   have c3b0 := eq_true c3
   have c3b1 : decide (((l0.length : Int) : Int).toNat ≤ 35184372088832) = true := Z39 c3
   clear c3
   obtain ⟨y138, hy138⟩ : ∃ y_ : List Int, y_ = (List.replicate ((l0.length : Int) : Int).toNat 0) := ⟨_, rfl⟩
   replace H : (spec_raInverse.l0 k y138 l0 (l0.length : Int) 0) = some r := by first | (rw [hy138]; with_reducible exact H) | (have H2_ := (Option.bind_some _ _).symm.trans H; rw [hy138]; with_reducible exact H2_) | (have H2_ := (Option.bind_some _ _).symm.trans H; with_reducible exact H2_) | with_reducible exact H | (rw [hy138]; exact H) | exact H
   have Ny138 := Ya hy138
   clear hy138
   have H' := Ya H
   clear H
   go_enter Try.func75, Try.ntmps75
   go_wp2_with (first | ((with_reducible refine gate_dst (N := 8) rfl ?_); refine Kd.R_make (Kd.int .i64) _ 3 rfl (N := 8) rfl 22 _ _ rfl (l0.length : Int) rfl rfl Try.underlying22 (.int .i64 0) 8 info3 rfl (by decide) (by omega) 0 (ok := fun _ => True) (okp := fun _ => True) rfl (fun _ hk => hk) trivial (Z31 Q5) (Nat.le_trans (Nat.mul_le_mul_right _ (Z31 Q5 : (l0.length : Int).toNat ≤ 35184372088832)) (by omega)) (Below.refl _ _) (Nat.le_refl _) ?_; intro v139 w4 ho5 hb hg_ hnew_; clear hg_ hnew_; (first | rw [← Ny138.out] at ho5 | (simp only [Int.reduceToNat] at ho5; rw [← Ny138.out] at ho5)); have HO140 := Ya (Kd.R_lower ho5 (Z7 Q0)); replace HB := Ya (Z8 Q0 hb); clear hb ho5))
   go_loopg [11] k (fun kq v11 w' => ∃ (x3_1 : List Int) (x11_1 : Int), v11 = .int .i64 x11_1 ∧ Aside0 (spec_raInverse.l0 kq x3_1 l0 (l0.length : Int) x11_1 = some r) ∧ Aside0 (kq ≤ k) ∧ Aside0 (Kd.R (Kd.int .i64) 3 w' w.heap.size (fun _ => True) v139 x3_1) ∧ Aside0 (Below w.heap.size w w'))
   case atStart => exact ⟨(y138), (0), Q15, H', ⟨Nat.le_refl _⟩, ⟨by (with_reducible repeat (first | apply Z9 | apply Z10 | apply Z11)); exact HO140.out⟩, ⟨Q18⟩⟩
   case round =>
    clear H'
    try clear c2
    try clear c2b0
    try clear c2b1
    try clear p2
    try clear c3
    try clear c3b0
    try clear c3b1
    obtain ⟨x3_1, x11_1, rfl, HA, HK1, HO_3, HB⟩ := hrel
    cases gk with
    | zero => exact absurd HA.out (by simp [spec_raInverse.l0])
    | succ k1 =>
     have H := HA.out
     clear HA
     simp only [spec_raInverse.l0] at H
     by_cases c6 : x11_1 < (l0.length : Int)
     ·rw [if_pos c6] at H
      have c6b0 : decide (x11_1 < (l0.length : Int)) = true := Z39 c6
      clear c6
      by_cases c7 : 0 ≤ x11_1
      ·rw [if_pos c7] at H
       have c7b0 : decide (0 ≤ x11_1) = true := Z39 c7
       clear c7
       by_cases c8 : x11_1 < (l0.length : Int)
       ·rw [if_pos c8] at H
        have c8b0 : decide (x11_1 < (l0.length : Int)) = true := Z39 c8
        clear c8
        by_cases c9 : 0 ≤ (rd l0 x11_1)
        ·rw [if_pos c9] at H
         have c9b0 : decide (0 ≤ (rd l0 x11_1)) = true := Z39 c9
         clear c9
         by_cases c10 : (rd l0 x11_1) < (x3_1.length : Int)
         ·rw [if_pos c10] at H
          have c10b0 : decide ((rd l0 x11_1) < (x3_1.length : Int)) = true := Z39 c10
          clear c10
          obtain ⟨y142, hy142⟩ : ∃ y_ : List Int, y_ = (x3_1.set ((rd l0 x11_1) : Int).toNat x11_1) := ⟨_, rfl⟩
          replace H : (spec_raInverse.l0 k1 y142 l0 (l0.length : Int) (wrap64 (x11_1 + 1))) = some r := by first | (rw [hy142]; with_reducible exact H) | (have H2_ := (Option.bind_some _ _).symm.trans H; rw [hy142]; with_reducible exact H2_) | (have H2_ := (Option.bind_some _ _).symm.trans H; with_reducible exact H2_) | with_reducible exact H | (rw [hy142]; exact H) | exact H
          have Ny142 := Ya hy142
          clear hy142
          have H' := Ya H
          clear H
          have p141 : 0 ≤ (x11_1 : Int) := Z31 Q5
          have q141 : x11_1 < (l0.length : Int) := Z31 Q5
          obtain ⟨ad141, e141, hx141_0⟩ := Kd.at_int HR0.out x11_1 p141 q141
          cases e141
          try replace hx141_0 := (HB.out.cell (World.block_lt_of_cell? w _ hx141_0)).trans hx141_0
          replace p141 := eq_true p141
          replace q141 := eq_true q141
          have p11 : 0 ≤ ((rd l0 x11_1) : Int) := Z31 Q5
          have q11 : ((rd l0 x11_1) : Int) < ((x3_1.length : Int) : Int) := Z31 Q5
          obtain ⟨go11, co11, eo11, gb11, gl11, cl11, HG11⟩ := Kd.R_form HO_3.out (by omega)
          (first | cases eo11 | (injection eo11 with ea_ en_ ec_; (first | subst ea_ | (injection ea_ with ea_; subst ea_)); subst ec_; clear en_))
          have GB11 := Ya gb11
          have GG11 := Ya HG11
          clear gb11 gl11 HG11
          obtain ⟨hx11_0, hf11_0⟩ := Kd.R_celln 0 HO_3.out ((rd l0 x11_1) : Int) p11 q11
          replace p11 := eq_true p11
          replace q11 := eq_true q11
          have HP12 := Kd.R_putg HO_3.out ((rd l0 x11_1) : Int) x11_1
          go_wp2_with (first | ((with_reducible refine gate_store (t := 3) (p := 19) rfl ?_); refine store_event (t := 3) (p := 19) (v := ?vo_w13) (w1 := (wr.setCell ⟨go11, ((rd l0 x11_1) : Int).toNat, none⟩ (.int .i64 x11_1))) ?hg ?ho ?hn ?hr ?_; (case ho => rfl); (case hg => rfl); (case hn => rfl); (case hr => first | (go_simp; done) | (go_simp; rfl)); intro w13 hw; have hg : wr.grownBy w13 (some go11) := (by rw [hw]; exact HP12.2); have hp_ : Kd.R (Kd.int .i64) 3 w13 w.heap.size (fun _ => True) (.slice (some ⟨go11, 0, none⟩) x3_1.length co11) y142 := (by rw [hw, Ny142.out]; exact HP12.1); clear HP12; replace HO_3 := Ya hp_; replace HB := Ya ((by rw [hw]; exact Z6 (HB.out) GB11.out : Below w.heap.size w w13)); clear hg hw hp_))
          go_roundg k1
          case measure => have := HK1.out; omega
          case rel => exact ⟨(y142), (wrap64 (x11_1 + 1)), Q15, H', ⟨Q55⟩, ⟨Q69⟩, ⟨Q18⟩⟩
         ·rw [if_neg c10] at H
          exact absurd H (by simp)
        ·rw [if_neg c9] at H
         exact absurd H (by simp)
       ·rw [if_neg c8] at H
        exact absurd H (by simp)
      ·rw [if_neg c7] at H
       exact absurd H (by simp)
     ·rw [if_neg c6] at H
      have c6b0 : decide (x11_1 < (l0.length : Int)) = false := Z38 c6
      clear c6
      obtain rfl := Option.some.inj H
      go_wp2
      go_ret
      exact ⟨_, Q9, Q69, Q18⟩
  ·rw [if_neg c3] at H
   exact absurd H (by simp)
 ·rw [if_neg c2] at H
  exact absurd H (by simp)

end Go.Proofs.Ytpfakdhfffehaaa.MFnExactSwapperAt
