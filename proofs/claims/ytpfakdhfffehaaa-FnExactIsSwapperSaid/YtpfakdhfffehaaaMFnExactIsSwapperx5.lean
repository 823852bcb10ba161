import Derived.Test.YtpfakdhfffehaaaMFnExactIsSwapperx0
import Derived.Test.YtpfakdhfffehaaaMFnExactIsSwapperx2
import Derived.Test.YtpfakdhfffehaaaMFnExactIsSwapperx4
namespace Go.Proofs.Ytpfakdhfffehaaa.MFnExactIsSwapper
open Go.RowKit Go.Proofs.YtpfakdhfffehaaaW.PrintWords Go.Proofs.YtpfakdhfffehaaaW.PrintLast Go.Proofs.YtpfakdhfffehaaaW.PrintMore
attribute [local go_sem] max2_int min2_int max_two min_two max_three min_three max_four min_four   
set_option linter.unusedVariables false
set_option linter.unusedSimpArgs false
def spec_raInverse.l0 : Nat → List Int → List Int → Int → Int → Option (List Int)
 | 0, _, _, _, _ => none
 | k + 1, x3, x9, x10, x11 => if x11 < x10 then (if 0 ≤ x11 then (if x11 < (x9.length : Int) then (if 0 ≤ (rd x9 x11) then (if (rd x9 x11) < (x3.length : Int) then (spec_raInverse.l0 k (x3.set ((rd x9 x11) : Int).toNat x11) x9 x10 (wrap64 (x11 + 1))) else (none)) else (none)) else (none)) else (none)) else (some x3)
def spec_raInverse.f (k : Nat) (l0 : List Int) : Option (List Int) := if 0 ≤ (l0.length : Int) then (if ((l0.length : Int) : Int).toNat ≤ 35184372088832 then (spec_raInverse.l0 k (List.replicate ((l0.length : Int) : Int).toNat 0) l0 (l0.length : Int) 0) else (none)) else (none)
theorem spec_raInverse.mono_l : ∀ k, (∀ y0 y1 y2 y3, LeO (spec_raInverse.l0 k y0 y1 y2 y3) (spec_raInverse.l0 (k + 1) y0 y1 y2 y3))
 | 0 => fun _ _ _ _ r h => by simp [spec_raInverse.l0] at h
 | k + 1 => by
  have ih0 := spec_raInverse.mono_l k
  ·intro y0 y1 y2 y3
   unfold spec_raInverse.l0
   repeat' first
   | (with_reducible exact ih0 _ _ _ _)
   | (with_reducible exact LeO.refl _)
   | (with_reducible exact LeO.none _)
   | (with_reducible refine LeO.ite ?_ ?_)
   | (with_reducible refine LeO.bind ?_ (fun _ => ?_))
   | exact ih0 _ _ _ _
   | exact LeO.none _
   | refine LeO.ite ?_ ?_
   | refine LeO.bind ?_ (fun _ => ?_)
theorem spec_raInverse.mono : ∀ a0 k, LeO (spec_raInverse.f k a0) (spec_raInverse.f (k + 1) a0) := by
 intro a0 k
 have ih0 := spec_raInverse.mono_l k
 unfold spec_raInverse.f
 repeat' first
   | (with_reducible exact ih0 _ _ _ _)
   | (with_reducible exact LeO.refl _)
   | (with_reducible exact LeO.none _)
   | (with_reducible refine LeO.ite ?_ ?_)
   | (with_reducible refine LeO.bind ?_ (fun _ => ?_))
   | exact ih0 _ _ _ _
   | exact LeO.none _
   | refine LeO.ite ?_ ?_
   | refine LeO.bind ?_ (fun _ => ?_)
set_option maxHeartbeats 8000000 in
set_option maxRecDepth 100000 in
theorem spec_raInverse.calls (k : Nat) (A0 : Option Addr) (c0 : Nat) (l0 : List Int) (r : List Int) (w : World) (hr0 : Kd.C (Kd.int .i64) w A0 l0.length l0) (hc0 : l0.length ≤ c0) (h : spec_raInverse.f k l0 = some r) :
  Calls Try.prog 75 #[.slice A0 l0.length c0] w fun e w' => ∃ v0_ : Value, e = .returned (v0_) ∧ Kd.R (Kd.int .i64) 3 w' w.heap.size (fun _ => True) v0_ r ∧ Below w.heap.size w w' := by
 have HR0 := Ya hr0
 have HC0 := Ya hc0
 clear hr0 hc0
 have HB := Ya (Below.refl w.heap.size w)
 have H : (if 0 ≤ (l0.length : Int) then (if ((l0.length : Int) : Int).toNat ≤ 35184372088832 then (spec_raInverse.l0 k (List.replicate ((l0.length : Int) : Int).toNat 0) l0 (l0.length : Int) 0) else (none)) else (none)) = some r := h
 clear h
 by_cases c2 : 0 ≤ (l0.length : Int)
 ·rw [if_pos c2] at H
  have c2b0 := eq_true c2
  have c2b1 : decide (0 ≤ (l0.length : Int)) = true := Z35 c2
  have HLEc2 := Ya c2
  clear c2
  by_cases c3 : ((l0.length : Int) : Int).toNat ≤ 35184372088832
  ·rw [if_pos c3] at H
   have c3b0 := eq_true c3
   have c3b1 : decide (((l0.length : Int) : Int).toNat ≤ 35184372088832) = true := Z35 c3
   clear c3
   obtain ⟨y252, hy252⟩ : ∃ y_ : List Int, y_ = (List.replicate ((l0.length : Int) : Int).toNat 0) := ⟨_, rfl⟩
   replace H : (spec_raInverse.l0 k y252 l0 (l0.length : Int) 0) = some r := by first | (rw [hy252]; with_reducible exact H) | (have H2_ := (Option.bind_some _ _).symm.trans H; rw [hy252]; with_reducible exact H2_) | (have H2_ := (Option.bind_some _ _).symm.trans H; with_reducible exact H2_) | with_reducible exact H | (rw [hy252]; exact H) | exact H
   have Ny252 := Ya hy252
   clear hy252
   have H' := Ya H
   clear H
   go_enter Try.func75, Try.ntmps75
   go_wp2_with (first | ((with_reducible refine gate_dst (N := 8) rfl ?_); refine Kd.R_make (Kd.int .i64) _ 3 rfl (N := 8) rfl 22 _ _ rfl (l0.length : Int) rfl rfl Try.underlying22 (.int .i64 0) 8 info3 rfl (by decide) (by omega) 0 (ok := fun _ => True) (okp := fun _ => True) rfl (fun _ hk => hk) trivial (Z27 Q1) (Nat.le_trans (Nat.mul_le_mul_right _ (Z27 Q1 : (l0.length : Int).toNat ≤ 35184372088832)) (by omega)) (Below.refl _ _) (Nat.le_refl _) ?_; intro v253 w4 ho5 hb hg_ hnew_; clear hg_ hnew_; (first | rw [← Ny252.out] at ho5 | (simp only [Int.reduceToNat] at ho5; rw [← Ny252.out] at ho5)); have HO254 := Yl ho5; replace HB := Yh hb; clear hb ho5))
   go_loopg [11] k (fun kq v11 w' => ∃ (x3_1 : List Int) (x11_1 : Int), v11 = .int .i64 x11_1 ∧ Aside0 (spec_raInverse.l0 kq x3_1 l0 (l0.length : Int) x11_1 = some r) ∧ Aside0 (kq ≤ k) ∧ Aside0 (Kd.R (Kd.int .i64) 3 w' w.heap.size (fun _ => True) v253 x3_1) ∧ Aside0 (Below w.heap.size w w'))
   case atStart => exact ⟨(y252), (0), Q7, H', ⟨Nat.le_refl _⟩, ⟨by (with_reducible repeat (first | apply Z8 | apply Z9 | apply Z10)); exact HO254.out⟩, ⟨Q12⟩⟩
   case round =>
    clear H'
    try clear c2
    try clear c2b0
    try clear c2b1
    try clear p2
    try clear c3
    try clear c3b0
    try clear c3b1
    obtain ⟨x3_1, x11_1, rfl, HA, HK1, HO_3, HB⟩ := hrel
    cases gk with
    | zero => exact absurd HA.out (by simp [spec_raInverse.l0])
    | succ k1 =>
     have H := HA.out
     clear HA
     simp only [spec_raInverse.l0] at H
     by_cases c6 : x11_1 < (l0.length : Int)
     ·rw [if_pos c6] at H
      have c6b0 : decide (x11_1 < (l0.length : Int)) = true := Z35 c6
      clear c6
      by_cases c7 : 0 ≤ x11_1
      ·rw [if_pos c7] at H
       have c7b0 : decide (0 ≤ x11_1) = true := Z35 c7
       clear c7
       by_cases c8 : x11_1 < (l0.length : Int)
       ·rw [if_pos c8] at H
        have c8b0 : decide (x11_1 < (l0.length : Int)) = true := Z35 c8
        clear c8
        by_cases c9 : 0 ≤ (rd l0 x11_1)
        ·rw [if_pos c9] at H
         have c9b0 : decide (0 ≤ (rd l0 x11_1)) = true := Z35 c9
         clear c9
         by_cases c10 : (rd l0 x11_1) < (x3_1.length : Int)
         ·rw [if_pos c10] at H
          have c10b0 : decide ((rd l0 x11_1) < (x3_1.length : Int)) = true := Z35 c10
          clear c10
          obtain ⟨y256, hy256⟩ : ∃ y_ : List Int, y_ = (x3_1.set ((rd l0 x11_1) : Int).toNat x11_1) := ⟨_, rfl⟩
          replace H : (spec_raInverse.l0 k1 y256 l0 (l0.length : Int) (wrap64 (x11_1 + 1))) = some r := by first | (rw [hy256]; with_reducible exact H) | (have H2_ := (Option.bind_some _ _).symm.trans H; rw [hy256]; with_reducible exact H2_) | (have H2_ := (Option.bind_some _ _).symm.trans H; with_reducible exact H2_) | with_reducible exact H | (rw [hy256]; exact H) | exact H
          have Ny256 := Ya hy256
          clear hy256
          have H' := Ya H
          clear H
          have p255 : 0 ≤ (x11_1 : Int) := Z27 Q1
          have q255 : x11_1 < (l0.length : Int) := Z27 Q1
          obtain ⟨ad255, e255, hx255_0⟩ := Kd.at_int HR0.out x11_1 p255 q255
          cases e255
          try replace hx255_0 := (HB.out.cell (World.block_lt_of_cell? w _ hx255_0)).trans hx255_0
          replace p255 := eq_true p255
          replace q255 := eq_true q255
          have p11 : 0 ≤ ((rd l0 x11_1) : Int) := Z27 Q1
          have q11 : ((rd l0 x11_1) : Int) < ((x3_1.length : Int) : Int) := Z27 Q1
          obtain ⟨go11, co11, eo11, gb11, gl11, cl11, HG11⟩ := Kd.R_form HO_3.out (by omega)
          (first | cases eo11 | (injection eo11 with ea_ en_ ec_; (first | subst ea_ | (injection ea_ with ea_; subst ea_)); subst ec_; clear en_))
          have GB11 := Ya gb11
          have GG11 := Ya HG11
          clear gb11 gl11 HG11
          obtain ⟨hx11_0, hf11_0⟩ := Kd.R_celln 0 HO_3.out ((rd l0 x11_1) : Int) p11 q11
          replace p11 := eq_true p11
          replace q11 := eq_true q11
          have HP12 := Kd.R_putg HO_3.out ((rd l0 x11_1) : Int) x11_1
          go_wp2_with (first | ((with_reducible refine gate_store (t := 3) (p := 19) rfl ?_); refine store_event (t := 3) (p := 19) (v := ?vo_w13) (w1 := (wr.setCell ⟨go11, ((rd l0 x11_1) : Int).toNat, none⟩ (.int .i64 x11_1))) ?hg ?ho ?hn ?hr ?_; (case ho => rfl); (case hg => rfl); (case hn => rfl); (case hr => first | (go_simp; done) | (go_simp; rfl)); intro w13 hw; have hg : wr.grownBy w13 (some go11) := (by rw [hw]; exact HP12.2); have hp_ : Kd.R (Kd.int .i64) 3 w13 w.heap.size (fun _ => True) (.slice (some ⟨go11, 0, none⟩) x3_1.length co11) y256 := (by rw [hw, Ny256.out]; exact HP12.1); clear HP12; replace HO_3 := Ya hp_; replace HB := Ya ((by rw [hw]; exact Z6 (HB.out) GB11.out : Below w.heap.size w w13)); clear hg hw hp_))
          go_roundg k1
          case measure => have := HK1.out; omega
          case rel => exact ⟨(y256), (wrap64 (x11_1 + 1)), Q7, H', ⟨Q30⟩, ⟨Q31⟩, ⟨Q12⟩⟩
         ·rw [if_neg c10] at H
          exact absurd H (by simp)
        ·rw [if_neg c9] at H
         exact absurd H (by simp)
       ·rw [if_neg c8] at H
        exact absurd H (by simp)
      ·rw [if_neg c7] at H
       exact absurd H (by simp)
     ·rw [if_neg c6] at H
      have c6b0 : decide (x11_1 < (l0.length : Int)) = false := Z34 c6
      clear c6
      obtain rfl := Option.some.inj H
      go_wp2
      go_ret
      exact ⟨_, Q2, Q31, Q12⟩
  ·rw [if_neg c3] at H
   exact absurd H (by simp)
 ·rw [if_neg c2] at H
  exact absurd H (by simp)
def spec_foSwap.f (k : Nat) (l0_0 : List Int) (l0_1 : List Int) (l0_2 : List Bool) (l0_3 : List Int) (l0_4 : List Int) (l0_5 : List Int) : Option (List Int × List Int × List Bool × List Int × List Int × List Int × Int) := (spec_foStep.f l0_0 l0_1 l0_2 l0_3).bind fun bt259 => (if bt259.2.2.2.2 < 0 then (some (([] : List Int), ([] : List Int), ([] : List Bool), ([] : List Int), ([] : List Int), ([] : List Int), (-1))) else (if 0 ≤ (wrap64 (bt259.2.2.2.2 + 1)) then (if (wrap64 (bt259.2.2.2.2 + 1)) < (l0_5.length : Int) then (if 0 ≤ bt259.2.2.2.2 then (if bt259.2.2.2.2 < (bt259.2.1.length : Int) then (if bt259.2.2.2.2 < (l0_1.length : Int) then (if (rd bt259.2.1 bt259.2.2.2.2) > (rd l0_1 bt259.2.2.2.2) then ((spec_moApply.f k l0_4 0 (wrap64 ((rd l0_5 (wrap64 (bt259.2.2.2.2 + 1))) - 1)) (wrap64 ((wrap64 ((rd l0_5 (wrap64 (bt259.2.2.2.2 + 1))) - 1)) + 1))).bind fun t276 => ((spec_raInverse.f k t276).bind fun t279 => (some (bt259.1, bt259.2.1, bt259.2.2.1, bt259.2.2.2.1, t276, t279, wrap64 ((rd l0_5 (wrap64 (bt259.2.2.2.2 + 1))) - 1))))) else ((spec_moApply.f k l0_4 0 (rd l0_5 (wrap64 (bt259.2.2.2.2 + 1))) (wrap64 ((rd l0_5 (wrap64 (bt259.2.2.2.2 + 1))) + 1))).bind fun t282 => ((spec_raInverse.f k t282).bind fun t285 => (some (bt259.1, bt259.2.1, bt259.2.2.1, bt259.2.2.2.1, t282, t285, rd l0_5 (wrap64 (bt259.2.2.2.2 + 1))))))) else (none)) else (none)) else (none)) else (none)) else (none)))
theorem spec_foSwap.mono : ∀ a0 a1 a2 a3 a4 a5 k, LeO (spec_foSwap.f k a0 a1 a2 a3 a4 a5) (spec_foSwap.f (k + 1) a0 a1 a2 a3 a4 a5) := by
 intro a0 a1 a2 a3 a4 a5 k
 unfold spec_foSwap.f
 repeat' first
   | (with_reducible exact spec_moApply.mono _ _ _ _ _)
   | (with_reducible exact spec_raInverse.mono _ _)
   | (with_reducible exact LeO.refl _)
   | (with_reducible exact LeO.none _)
   | (with_reducible refine LeO.ite ?_ ?_)
   | (with_reducible refine LeO.bind ?_ (fun _ => ?_))
   | exact spec_moApply.mono _ _ _ _ _
   | exact spec_raInverse.mono _ _
   | exact LeO.none _
   | refine LeO.ite ?_ ?_
   | refine LeO.bind ?_ (fun _ => ?_)
def spec_foSwap.T5 : Bool × List (List Nat × List Nat) := (true, [([], []), ([0], [0]), ([], []), ([1, 2], [1, 2]), ([3], [3]), ([], []), ([5], [5]), ([6], [6]), ([], []), ([7, 8], [7, 8]), ([9], [9]), ([4, 10], [4, 10])])
def spec_foSwap.B5 : List Nat := [0, 1, 0, 7, 15, 0, 32, 96, 0, 480, 992, 2047]
theorem spec_foSwap.tab5 : rtab .any (opsOf Try.f55 5) = spec_foSwap.T5 := by kernel_rfl
theorem spec_foSwap.bits5 : waitsOk spec_foSwap.T5.2 spec_foSwap.B5 = true := by kernel_rfl
def spec_foSwap.T8 : Bool × List (List Nat × List Nat) := (true, [([], []), ([], []), ([], []), ([2], [2]), ([0, 1, 3], [0, 1, 3]), ([], []), ([4, 3, 0, 1, 2, 3, 4], [4]), ([5, 6, 0, 1, 2, 3, 4, 5, 6], [5])])
def spec_foSwap.B8 : List Nat := [0, 0, 0, 4, 15, 0, 31, 127]
theorem spec_foSwap.tab8 : rtab .any (opsOf Try.f55 8) = spec_foSwap.T8 := by kernel_rfl
theorem spec_foSwap.bits8 : waitsOk spec_foSwap.T8.2 spec_foSwap.B8 = true := by kernel_rfl
set_option maxHeartbeats 8000000 in
set_option maxRecDepth 100000 in
theorem spec_foSwap.calls (k : Nat) (A0_0 : Option Addr) (c0_0 : Nat) (l0_0 : List Int) (A0_1 : Option Addr) (c0_1 : Nat) (l0_1 : List Int) (A0_2 : Option Addr) (c0_2 : Nat) (l0_2 : List Bool) (A0_3 : Option Addr) (c0_3 : Nat) (l0_3 : List Int) (A0_4 : Option Addr) (c0_4 : Nat) (l0_4 : List Int) (A0_5 : Option Addr) (c0_5 : Nat) (l0_5 : List Int) (r1 : List Int) (r2 : List Int) (r3 : List Bool) (r4 : List Int) (r5 : List Int) (r6 : List Int) (r7 : Int) (w : World) (hr0_0 : Kd.C (Kd.int .i64) w A0_0 l0_0.length l0_0) (hc0_0 : l0_0.length ≤ c0_0) (hr0_1 : Kd.C (Kd.int .i64) w A0_1 l0_1.length l0_1) (hc0_1 : l0_1.length ≤ c0_1) (hr0_2 : Kd.C Kd.bool w A0_2 l0_2.length l0_2) (hc0_2 : l0_2.length ≤ c0_2) (hr0_3 : Kd.C (Kd.int .i64) w A0_3 l0_3.length l0_3) (hc0_3 : l0_3.length ≤ c0_3) (hr0_4 : Kd.C (Kd.int .i64) w A0_4 l0_4.length l0_4) (hc0_4 : l0_4.length ≤ c0_4) (hr0_5 : Kd.C (Kd.int .i64) w A0_5 l0_5.length l0_5) (hc0_5 : l0_5.length ≤ c0_5) (h : spec_foSwap.f k l0_0 l0_1 l0_2 l0_3 l0_4 l0_5 = some (r1, r2, r3, r4, r5, r6, r7)) :
  Calls Try.prog 55 #[.agg #[.slice A0_0 l0_0.length c0_0, .slice A0_1 l0_1.length c0_1, .slice A0_2 l0_2.length c0_2, .slice A0_3 l0_3.length c0_3, .slice A0_4 l0_4.length c0_4, .slice A0_5 l0_5.length c0_5]] w fun e w' => ∃ v0_ v1_ v2_ v3_ v4_ v5_ : Value, e = .returned (.tuple #[.agg #[v0_, v1_, v2_, v3_, v4_, v5_], .int .i64 r7]) ∧ Kd.R (Kd.int .i64) 3 w' w.heap.size (fun k_ => some k_ ≠ (v1_ : Value).ownBlock ∧ some k_ ≠ (v3_ : Value).ownBlock ∧ some k_ ≠ (v4_ : Value).ownBlock ∧ some k_ ≠ (v5_ : Value).ownBlock) v0_ r1 ∧ Kd.R (Kd.int .i64) 3 w' w.heap.size (fun k_ => some k_ ≠ (v0_ : Value).ownBlock ∧ some k_ ≠ (v3_ : Value).ownBlock ∧ some k_ ≠ (v4_ : Value).ownBlock ∧ some k_ ≠ (v5_ : Value).ownBlock) v1_ r2 ∧ Kd.R Kd.bool 4 w' w.heap.size (fun _ => True) v2_ r3 ∧ Kd.R (Kd.int .i64) 3 w' w.heap.size (fun k_ => some k_ ≠ (v0_ : Value).ownBlock ∧ some k_ ≠ (v1_ : Value).ownBlock ∧ some k_ ≠ (v4_ : Value).ownBlock ∧ some k_ ≠ (v5_ : Value).ownBlock) v3_ r4 ∧ Kd.R (Kd.int .i64) 3 w' w.heap.size (fun k_ => some k_ ≠ (v0_ : Value).ownBlock ∧ some k_ ≠ (v1_ : Value).ownBlock ∧ some k_ ≠ (v3_ : Value).ownBlock ∧ some k_ ≠ (v5_ : Value).ownBlock) v4_ r5 ∧ Kd.R (Kd.int .i64) 3 w' w.heap.size (fun k_ => some k_ ≠ (v0_ : Value).ownBlock ∧ some k_ ≠ (v1_ : Value).ownBlock ∧ some k_ ≠ (v3_ : Value).ownBlock ∧ some k_ ≠ (v4_ : Value).ownBlock) v5_ r6 ∧ Below w.heap.size w w' := by
 have hu35 := Try.underlying35
 have hu27 := Try.underlying27
 have hu82 := Try.underlying82
 have HR0_0 := Ya hr0_0
 have HC0_0 := Ya hc0_0
 clear hr0_0 hc0_0
 have HR0_1 := Ya hr0_1
 have HC0_1 := Ya hc0_1
 clear hr0_1 hc0_1
 have HR0_2 := Ya hr0_2
 have HC0_2 := Ya hc0_2
 clear hr0_2 hc0_2
 have HR0_3 := Ya hr0_3
 have HC0_3 := Ya hc0_3
 clear hr0_3 hc0_3
 have HR0_4 := Ya hr0_4
 have HC0_4 := Ya hc0_4
 clear hr0_4 hc0_4
 have HR0_5 := Ya hr0_5
 have HC0_5 := Ya hc0_5
 clear hr0_5 hc0_5
 have HB := Ya (Below.refl w.heap.size w)
 have H : ((spec_foStep.f l0_0 l0_1 l0_2 l0_3).bind fun bt259 => (if bt259.2.2.2.2 < 0 then (some (([] : List Int), ([] : List Int), ([] : List Bool), ([] : List Int), ([] : List Int), ([] : List Int), (-1))) else (if 0 ≤ (wrap64 (bt259.2.2.2.2 + 1)) then (if (wrap64 (bt259.2.2.2.2 + 1)) < (l0_5.length : Int) then (if 0 ≤ bt259.2.2.2.2 then (if bt259.2.2.2.2 < (bt259.2.1.length : Int) then (if bt259.2.2.2.2 < (l0_1.length : Int) then (if (rd bt259.2.1 bt259.2.2.2.2) > (rd l0_1 bt259.2.2.2.2) then ((spec_moApply.f k l0_4 0 (wrap64 ((rd l0_5 (wrap64 (bt259.2.2.2.2 + 1))) - 1)) (wrap64 ((wrap64 ((rd l0_5 (wrap64 (bt259.2.2.2.2 + 1))) - 1)) + 1))).bind fun t276 => ((spec_raInverse.f k t276).bind fun t279 => (some (bt259.1, bt259.2.1, bt259.2.2.1, bt259.2.2.2.1, t276, t279, wrap64 ((rd l0_5 (wrap64 (bt259.2.2.2.2 + 1))) - 1))))) else ((spec_moApply.f k l0_4 0 (rd l0_5 (wrap64 (bt259.2.2.2.2 + 1))) (wrap64 ((rd l0_5 (wrap64 (bt259.2.2.2.2 + 1))) + 1))).bind fun t282 => ((spec_raInverse.f k t282).bind fun t285 => (some (bt259.1, bt259.2.1, bt259.2.2.1, bt259.2.2.2.1, t282, t285, rd l0_5 (wrap64 (bt259.2.2.2.2 + 1))))))) else (none)) else (none)) else (none)) else (none)) else (none)))) = some (r1, r2, r3, r4, r5, r6, r7) := h
 clear h
 replace H := Z33.mp H
 obtain ⟨⟨t259, t262, t265, t268, t271⟩, A20, H⟩ := H
 replace H : (if t271 < 0 then (some (([] : List Int), ([] : List Int), ([] : List Bool), ([] : List Int), ([] : List Int), ([] : List Int), (-1))) else (if 0 ≤ (wrap64 (t271 + 1)) then (if (wrap64 (t271 + 1)) < (l0_5.length : Int) then (if 0 ≤ t271 then (if t271 < (t262.length : Int) then (if t271 < (l0_1.length : Int) then (if (rd t262 t271) > (rd l0_1 t271) then ((spec_moApply.f k l0_4 0 (wrap64 ((rd l0_5 (wrap64 (t271 + 1))) - 1)) (wrap64 ((wrap64 ((rd l0_5 (wrap64 (t271 + 1))) - 1)) + 1))).bind fun t276 => ((spec_raInverse.f k t276).bind fun t279 => (some (t259, t262, t265, t268, t276, t279, wrap64 ((rd l0_5 (wrap64 (t271 + 1))) - 1))))) else ((spec_moApply.f k l0_4 0 (rd l0_5 (wrap64 (t271 + 1))) (wrap64 ((rd l0_5 (wrap64 (t271 + 1))) + 1))).bind fun t282 => ((spec_raInverse.f k t282).bind fun t285 => (some (t259, t262, t265, t268, t282, t285, rd l0_5 (wrap64 (t271 + 1))))))) else (none)) else (none)) else (none)) else (none)) else (none))) = some (r1, r2, r3, r4, r5, r6, r7) := H
 have A2 := Ya A20
 clear A20
 by_cases c3 : t271 < 0
 ·rw [if_pos c3] at H
  have c3b0 : decide (t271 < 0) = true := Z35 c3
  clear c3
  simp only [Option.some.injEq, Prod.mk.injEq] at H
  obtain ⟨rfl, rfl, rfl, rfl, rfl, rfl, rfl⟩ := H
  go_enter Try.func55, Try.ntmps55
  go_wp2_with (first | ((with_reducible refine gate_dst (N := 1) rfl ?_); refine Yx 1 #[.slice A0_0 l0_0.length c0_0, .slice A0_1 l0_1.length c0_1, .slice A0_2 l0_2.length c0_2, .slice A0_3 l0_3.length c0_3, .slice A0_4 l0_4.length c0_4, .slice A0_5 l0_5.length c0_5] 35 ?_; intro gb257 hg w4 hbox hb; have BK257 := Ya hbox; have GW257 := Yg hg; have GE257 := GW257; replace HB := Yh hb; clear hb hbox hg) | ((with_reducible refine gate_dst (N := 2) rfl ?_); refine Yx 2 #[.slice none 0 0, .slice none 0 0, .slice none 0 0, .slice none 0 0, .slice none 0 0, .slice none 0 0] 35 ?_; intro gb258 hg w5 hbox hb; have BK258 := Ya hbox; have GW258 := Yg hg; have GE258 := GW258; replace HB := Yh hb; have NB257_258 := Yn BK257 hg; have NB258_257 := Ym BK257 hg; replace BK257 := Yb BK257 hb; clear hb hbox hg; have hnb6 := NB257_258.out; have hnc6 := NB258_257.out; have hz7 := Y6 BK257.out) | ((with_reducible refine gate_callee (f := 31) rfl ?_); refine Yz 11 Try.func31 #[.agg #[.slice A0_0 l0_0.length c0_0, .slice A0_1 l0_1.length c0_1, .slice A0_2 l0_2.length c0_2, .slice A0_3 l0_3.length c0_3]] ?_; (with_reducible refine (spec_foStep.calls _ _ l0_0 _ _ l0_1 _ _ l0_2 _ _ l0_3 t259 t262 t265 t268 t271 _ (Yc (Z19 HR0_0.out HB.out)) HC0_0.out (Yc (Z19 HR0_1.out HB.out)) HC0_1.out (Yc (Z19 HR0_2.out HB.out)) HC0_2.out (Yc (Z19 HR0_3.out HB.out)) HC0_3.out A2.out).mono ?_); rintro e w8 ⟨v260, v263, v266, v269, rfl, ho0, ho1, ho2, ho3, hb⟩; refine ⟨_, rfl, ?_⟩; have HO261 := Yl ho0; have HO264 := Yl ho1; have HO267 := Yl ho2; have HO270 := Yl ho3; replace BK257 := Yb BK257 hb; replace BK258 := Yb BK258 hb; replace HB := Yh hb; (try clear hb ho0 ho1 ho2 ho3)) | ((with_reducible refine gate_dst (N := 4) rfl ?_); refine Yx 4 #[.slice none 0 0, .slice none 0 0, .slice none 0 0, .slice none 0 0] 27 ?_; intro gb272 hg w9 hbox hb; replace HO261 := Yw HO261 hb; replace HO264 := Yw HO264 hb; replace HO267 := Yw HO267 hb; replace HO270 := Yw HO270 hb; have BK272 := Ya hbox; have GW272 := Yg hg; have GE272 := GW272; replace HB := Yh hb; have NB257_272 := Yn BK257 hg; have NB272_257 := Ym BK257 hg; replace BK257 := Yb BK257 hb; have NB258_272 := Yn BK258 hg; have NB272_258 := Ym BK258 hg; replace BK258 := Yb BK258 hb; clear hb hbox hg; obtain ⟨Ao10, co10, rfl⟩ := Z18 HO261.out; have hnb11 := NB272_257.out; have hnc11 := NB257_272.out; have hnb12 := NB272_258.out; have hnc12 := NB258_272.out; have hz13 := Y4 BK272.out; obtain ⟨Ao14, co14, rfl⟩ := Z18 HO264.out; obtain ⟨Ao15, co15, rfl⟩ := Z18 HO267.out; obtain ⟨Ao16, co16, rfl⟩ := Z18 HO270.out; have hz17 := Y6 BK258.out))
  refine bodyPost_ret (results_ct rfl _ _ gb258 35 #[.slice none 0 0, .slice none 0 0, .slice none 0 0, .slice none 0 0, .slice none 0 0, .slice none 0 0] (0, 0) _ rfl (by (with_reducible repeat (first | refine Z22 ?_ _ | refine Z23 ?_ | refine Z24 ?_ _)); refine Z26 (cs := #[.slice none 0 0, .slice none 0 0, .slice none 0 0, .slice none 0 0, .slice none 0 0, .slice none 0 0]) ?_ 5 _ rfl; (with_reducible repeat (first | refine Z22 ?_ _ | refine Z23 ?_ | refine Z24 ?_ _)); refine Z26 (cs := #[.slice none 0 0, .slice none 0 0, .slice none 0 0, .slice none 0 0, .slice none 0 0, .slice none 0 0]) ?_ 4 _ rfl; (with_reducible repeat (first | refine Z22 ?_ _ | refine Z23 ?_ | refine Z24 ?_ _)); refine Z26 (cs := #[.slice none 0 0, .slice none 0 0, .slice none 0 0, .slice none 0 0, .slice none 0 0, .slice none 0 0]) ?_ 3 _ rfl; (with_reducible repeat (first | refine Z22 ?_ _ | refine Z23 ?_ | refine Z24 ?_ _)); refine Z26 (cs := #[.slice none 0 0, .slice none 0 0, .slice none 0 0, .slice none 0 0, .slice none 0 0, .slice none 0 0]) ?_ 2 _ rfl; (with_reducible repeat (first | refine Z22 ?_ _ | refine Z23 ?_ | refine Z24 ?_ _)); refine Z26 (cs := #[.slice none 0 0, .slice none 0 0, .slice none 0 0, .slice none 0 0, .slice none 0 0, .slice none 0 0]) ?_ 1 _ rfl; (with_reducible repeat (first | refine Z22 ?_ _ | refine Z23 ?_ | refine Z24 ?_ _)); refine Z26 (cs := #[.slice none 0 0, .slice none 0 0, .slice none 0 0, .slice none 0 0, .slice none 0 0, .slice none 0 0]) ?_ 0 _ rfl; (with_reducible repeat (first | refine Z22 ?_ _ | refine Z23 ?_ | refine Z24 ?_ _)); refine blk_far ?_ NB258_272.out _; (with_reducible repeat (first | refine Z22 ?_ _ | refine Z23 ?_ | refine Z24 ?_ _)); refine blk_far ?_ NB258_272.out _; (with_reducible repeat (first | refine Z22 ?_ _ | refine Z23 ?_ | refine Z24 ?_ _)); refine blk_far ?_ NB258_272.out _; (with_reducible repeat (first | refine Z22 ?_ _ | refine Z23 ?_ | refine Z24 ?_ _)); refine blk_far ?_ NB258_272.out _; (with_reducible repeat (first | refine Z22 ?_ _ | refine Z23 ?_ | refine Z24 ?_ _)); exact BK258.out) Try.underlying35 rfl (by kernel_rfl)) rfl ?_
  exact ⟨_, _, _, _, _, _, Q2, Q8, Q8, Q8, Q8, Q8, Q8, Q12⟩
 ·rw [if_neg c3] at H
  have c3b0 : decide (t271 < 0) = false := Z34 c3
  clear c3
  obtain ⟨ji18, hji18⟩ : ∃ j_ : Int, (wrap64 (t271 + 1)) = j_ := ⟨_, rfl⟩
  replace H : (if 0 ≤ (ji18) then (if (ji18) < (l0_5.length : Int) then (if 0 ≤ t271 then (if t271 < (t262.length : Int) then (if t271 < (l0_1.length : Int) then (if (rd t262 t271) > (rd l0_1 t271) then ((spec_moApply.f k l0_4 0 (wrap64 ((rd l0_5 (ji18)) - 1)) (wrap64 ((wrap64 ((rd l0_5 (ji18)) - 1)) + 1))).bind fun t276 => ((spec_raInverse.f k t276).bind fun t279 => (some (t259, t262, t265, t268, t276, t279, wrap64 ((rd l0_5 (ji18)) - 1))))) else ((spec_moApply.f k l0_4 0 (rd l0_5 (ji18)) (wrap64 ((rd l0_5 (ji18)) + 1))).bind fun t282 => ((spec_raInverse.f k t282).bind fun t285 => (some (t259, t262, t265, t268, t282, t285, rd l0_5 (ji18)))))) else (none)) else (none)) else (none)) else (none)) else (none)) = some (r1, r2, r3, r4, r5, r6, r7) := by first | (rw [hji18] at H; exact H) | (simp only [hji18] at H ⊢; exact H)
  (try rw [hji18] at A2)
  have hji18w : (IntKind.i64.wrap (t271 + 1)) = ji18 := (i64_w _).trans hji18
  by_cases c19 : 0 ≤ (ji18)
  ·rw [if_pos c19] at H
   have c19b0 : decide (0 ≤ (ji18)) = true := Z35 c19
   clear c19
   by_cases c20 : (ji18) < (l0_5.length : Int)
   ·rw [if_pos c20] at H
    have c20b0 : decide ((ji18) < (l0_5.length : Int)) = true := Z35 c20
    clear c20
    by_cases c21 : 0 ≤ t271
    ·rw [if_pos c21] at H
     have c21b0 : decide (0 ≤ t271) = true := Z35 c21
     clear c21
     by_cases c22 : t271 < (t262.length : Int)
     ·rw [if_pos c22] at H
      have c22b0 : decide (t271 < (t262.length : Int)) = true := Z35 c22
      clear c22
      by_cases c23 : t271 < (l0_1.length : Int)
      ·rw [if_pos c23] at H
       have c23b0 : decide (t271 < (l0_1.length : Int)) = true := Z35 c23
       clear c23
       by_cases c24 : (rd t262 t271) > (rd l0_1 t271)
       ·rw [if_pos c24] at H
        have c24b0 : decide ((rd l0_1 t271) < (rd t262 t271)) = true := Z35 c24
        clear c24
        replace H := Z33.mp H
        obtain ⟨t276, A250, H⟩ := H
        replace H : ((spec_raInverse.f k t276).bind fun t279 => (some (t259, t262, t265, t268, t276, t279, wrap64 ((rd l0_5 (ji18)) - 1)))) = some (r1, r2, r3, r4, r5, r6, r7) := H
        have A25 := Ya A250
        clear A250
        replace H := Z33.mp H
        obtain ⟨t279, A260, H⟩ := H
        replace H : (some (t259, t262, t265, t268, t276, t279, wrap64 ((rd l0_5 (ji18)) - 1))) = some (r1, r2, r3, r4, r5, r6, r7) := H
        have A26 := Ya A260
        clear A260
        simp only [Option.some.injEq, Prod.mk.injEq] at H
        obtain ⟨rfl, rfl, rfl, rfl, rfl, rfl, rfl⟩ := H
        go_enter Try.func55, Try.ntmps55
        try go_wp2_with (first | ((with_reducible refine gate_dst (N := 1) rfl ?_); refine Yx 1 #[.slice A0_0 l0_0.length c0_0, .slice A0_1 l0_1.length c0_1, .slice A0_2 l0_2.length c0_2, .slice A0_3 l0_3.length c0_3, .slice A0_4 l0_4.length c0_4, .slice A0_5 l0_5.length c0_5] 35 ?_; intro gb257 hg w27 hbox hb; have BK257 := Ya hbox; have GW257 := Yg hg; have GE257 := GW257; replace HB := Yh hb; clear hb hbox hg) | ((with_reducible refine gate_dst (N := 2) rfl ?_); refine Yx 2 #[.slice none 0 0, .slice none 0 0, .slice none 0 0, .slice none 0 0, .slice none 0 0, .slice none 0 0] 35 ?_; intro gb258 hg w28 hbox hb; have BK258 := Ya hbox; have GW258 := Yg hg; have GE258 := GW258; replace HB := Yh hb; have NB257_258 := Yn BK257 hg; have NB258_257 := Ym BK257 hg; replace BK257 := Yb BK257 hb; clear hb hbox hg; have hnb29 := NB257_258.out; have hnc29 := NB258_257.out; have hz30 := Y6 BK257.out) | ((with_reducible refine gate_callee (f := 31) rfl ?_); refine Yz 11 Try.func31 #[.agg #[.slice A0_0 l0_0.length c0_0, .slice A0_1 l0_1.length c0_1, .slice A0_2 l0_2.length c0_2, .slice A0_3 l0_3.length c0_3]] ?_; (with_reducible refine (spec_foStep.calls _ _ l0_0 _ _ l0_1 _ _ l0_2 _ _ l0_3 t259 t262 t265 t268 t271 _ (Yc (Z19 HR0_0.out HB.out)) HC0_0.out (Yc (Z19 HR0_1.out HB.out)) HC0_1.out (Yc (Z19 HR0_2.out HB.out)) HC0_2.out (Yc (Z19 HR0_3.out HB.out)) HC0_3.out A2.out).mono ?_); rintro e w31 ⟨v260, v263, v266, v269, rfl, ho0, ho1, ho2, ho3, hb⟩; refine ⟨_, rfl, ?_⟩; have HO261 := Yl ho0; have HO264 := Yl ho1; have HO267 := Yl ho2; have HO270 := Yl ho3; replace BK257 := Yb BK257 hb; replace BK258 := Yb BK258 hb; replace HB := Yh hb; (try clear hb ho0 ho1 ho2 ho3)) | ((with_reducible refine gate_dst (N := 4) rfl ?_); refine Yx 4 #[.slice none 0 0, .slice none 0 0, .slice none 0 0, .slice none 0 0] 27 ?_; intro gb272 hg w32 hbox hb; replace HO261 := Yw HO261 hb; replace HO264 := Yw HO264 hb; replace HO267 := Yw HO267 hb; replace HO270 := Yw HO270 hb; have BK272 := Ya hbox; have GW272 := Yg hg; have GE272 := GW272; replace HB := Yh hb; have NB257_272 := Yn BK257 hg; have NB272_257 := Ym BK257 hg; replace BK257 := Yb BK257 hb; have NB258_272 := Yn BK258 hg; have NB272_258 := Ym BK258 hg; replace BK258 := Yb BK258 hb; clear hb hbox hg; obtain ⟨Ao33, co33, rfl⟩ := Z18 HO261.out; have hnb34 := NB272_257.out; have hnc34 := NB257_272.out; have hnb35 := NB272_258.out; have hnc35 := NB258_272.out; have hz36 := Y4 BK272.out; obtain ⟨Ao37, co37, rfl⟩ := Z18 HO264.out; obtain ⟨Ao38, co38, rfl⟩ := Z18 HO267.out; obtain ⟨Ao39, co39, rfl⟩ := Z18 HO270.out; have hz40 := Y6 BK257.out; have p273 : 0 ≤ ((ji18) : Int) := Z27 Q1; have q273 : (ji18) < (l0_5.length : Int) := Z27 Q1; obtain ⟨ad273, e273, hx273_0⟩ := Kd.at_int HR0_5.out (ji18) p273 q273; cases e273; have hn273_0 : ad273.block ≠ gb272 := Nat.ne_of_lt (Nat.lt_of_lt_of_le Q21 GW272.out); have hn273_1 : ad273.block ≠ gb272 := Nat.ne_of_lt (Nat.lt_of_lt_of_le Q21 GW272.out); have hn273_2 : ad273.block ≠ gb272 := Nat.ne_of_lt (Nat.lt_of_lt_of_le Q21 GW272.out); have hn273_3 : ad273.block ≠ gb272 := Nat.ne_of_lt (Nat.lt_of_lt_of_le Q21 GW272.out); try replace hx273_0 := (HB.out.cell (World.block_lt_of_cell? w _ hx273_0)).trans hx273_0; replace hx273_0 := (cell_far (p := ⟨gb272, 0, none⟩) Q93 (.slice Ao33 t259.length co33)).trans hx273_0; replace hx273_0 := (cell_far (p := ⟨gb272, 1, none⟩) Q92 (.slice Ao37 t262.length co37)).trans hx273_0; replace hx273_0 := (cell_far (p := ⟨gb272, 2, none⟩) Q91 (.slice Ao38 t265.length co38)).trans hx273_0; replace hx273_0 := (cell_far (p := ⟨gb272, 3, none⟩) Q90 (.slice Ao39 t268.length co39)).trans hx273_0; clear hn273_0; clear hn273_1; clear hn273_2; clear hn273_3; replace p273 := eq_true p273; replace q273 := eq_true q273))
        replace HO261 : Aside0 (Kd.R (Kd.int .i64) 3 ((((w32.setCell ⟨gb272, 0, none⟩ (.slice Ao33 t259.length co33)).setCell ⟨gb272, 1, none⟩ (.slice Ao37 t262.length co37)).setCell ⟨gb272, 2, none⟩ (.slice Ao38 t265.length co38)).setCell ⟨gb272, 3, none⟩ (.slice Ao39 t268.length co39)) w.heap.size (fun k_ => some k_ ≠ (.slice Ao37 t262.length co37 : Value).ownBlock ∧ some k_ ≠ (.slice Ao39 t268.length co39 : Value).ownBlock) (.slice Ao33 t259.length co33) t259) := ⟨Q74⟩
        replace HO264 : Aside0 (Kd.R (Kd.int .i64) 3 ((((w32.setCell ⟨gb272, 0, none⟩ (.slice Ao33 t259.length co33)).setCell ⟨gb272, 1, none⟩ (.slice Ao37 t262.length co37)).setCell ⟨gb272, 2, none⟩ (.slice Ao38 t265.length co38)).setCell ⟨gb272, 3, none⟩ (.slice Ao39 t268.length co39)) w.heap.size (fun k_ => some k_ ≠ (.slice Ao33 t259.length co33 : Value).ownBlock ∧ some k_ ≠ (.slice Ao39 t268.length co39 : Value).ownBlock) (.slice Ao37 t262.length co37) t262) := ⟨Q73⟩
        replace HO267 : Aside0 (Kd.R Kd.bool 4 ((((w32.setCell ⟨gb272, 0, none⟩ (.slice Ao33 t259.length co33)).setCell ⟨gb272, 1, none⟩ (.slice Ao37 t262.length co37)).setCell ⟨gb272, 2, none⟩ (.slice Ao38 t265.length co38)).setCell ⟨gb272, 3, none⟩ (.slice Ao39 t268.length co39)) w.heap.size (fun _ => True) (.slice Ao38 t265.length co38) t265) := ⟨Q89⟩
        replace HO270 : Aside0 (Kd.R (Kd.int .i64) 3 ((((w32.setCell ⟨gb272, 0, none⟩ (.slice Ao33 t259.length co33)).setCell ⟨gb272, 1, none⟩ (.slice Ao37 t262.length co37)).setCell ⟨gb272, 2, none⟩ (.slice Ao38 t265.length co38)).setCell ⟨gb272, 3, none⟩ (.slice Ao39 t268.length co39)) w.heap.size (fun k_ => some k_ ≠ (.slice Ao33 t259.length co33 : Value).ownBlock ∧ some k_ ≠ (.slice Ao37 t262.length co37 : Value).ownBlock) (.slice Ao39 t268.length co39) t268) := ⟨Q72⟩
        replace BK257 : Aside0 (((((w32.setCell ⟨gb272, 0, none⟩ (.slice Ao33 t259.length co33)).setCell ⟨gb272, 1, none⟩ (.slice Ao37 t262.length co37)).setCell ⟨gb272, 2, none⟩ (.slice Ao38 t265.length co38)).setCell ⟨gb272, 3, none⟩ (.slice Ao39 t268.length co39)).heap[gb257]? = some (.cells #[.slice A0_0 l0_0.length c0_0, .slice A0_1 l0_1.length c0_1, .slice A0_2 l0_2.length c0_2, .slice A0_3 l0_3.length c0_3, .slice A0_4 l0_4.length c0_4, .slice (some ad273) l0_5.length c0_5] 35 (0, 0))) := ⟨Q29⟩
        replace BK258 : Aside0 (((((w32.setCell ⟨gb272, 0, none⟩ (.slice Ao33 t259.length co33)).setCell ⟨gb272, 1, none⟩ (.slice Ao37 t262.length co37)).setCell ⟨gb272, 2, none⟩ (.slice Ao38 t265.length co38)).setCell ⟨gb272, 3, none⟩ (.slice Ao39 t268.length co39)).heap[gb258]? = some (.cells #[.slice none 0 0, .slice none 0 0, .slice none 0 0, .slice none 0 0, .slice none 0 0, .slice none 0 0] 35 (0, 0))) := ⟨Q28⟩
        replace BK272 : Aside0 (((((w32.setCell ⟨gb272, 0, none⟩ (.slice Ao33 t259.length co33)).setCell ⟨gb272, 1, none⟩ (.slice Ao37 t262.length co37)).setCell ⟨gb272, 2, none⟩ (.slice Ao38 t265.length co38)).setCell ⟨gb272, 3, none⟩ (.slice Ao39 t268.length co39)).heap[gb272]? = some (.cells #[.slice Ao33 t259.length co33, .slice Ao37 t262.length co37, .slice Ao38 t265.length co38, .slice Ao39 t268.length co39] 27 (0, 0))) := ⟨by (with_reducible repeat (first | refine Z22 ?_ _ | refine Z23 ?_ | refine Z24 ?_ _)); refine Z26 (cs := #[.slice Ao33 t259.length co33, .slice Ao37 t262.length co37, .slice Ao38 t265.length co38, .slice none 0 0]) ?_ 3 _ rfl; (with_reducible repeat (first | refine Z22 ?_ _ | refine Z23 ?_ | refine Z24 ?_ _)); refine Z26 (cs := #[.slice Ao33 t259.length co33, .slice Ao37 t262.length co37, .slice none 0 0, .slice none 0 0]) ?_ 2 _ rfl; (with_reducible repeat (first | refine Z22 ?_ _ | refine Z23 ?_ | refine Z24 ?_ _)); refine Z26 (cs := #[.slice Ao33 t259.length co33, .slice none 0 0, .slice none 0 0, .slice none 0 0]) ?_ 1 _ rfl; (with_reducible repeat (first | refine Z22 ?_ _ | refine Z23 ?_ | refine Z24 ?_ _)); refine Z26 (cs := #[.slice none 0 0, .slice none 0 0, .slice none 0 0, .slice none 0 0]) ?_ 0 _ rfl; (with_reducible repeat (first | refine Z22 ?_ _ | refine Z23 ?_ | refine Z24 ?_ _)); exact BK272.out⟩
        replace HB : Aside0 (Below w.heap.size w ((((w32.setCell ⟨gb272, 0, none⟩ (.slice Ao33 t259.length co33)).setCell ⟨gb272, 1, none⟩ (.slice Ao37 t262.length co37)).setCell ⟨gb272, 2, none⟩ (.slice Ao38 t265.length co38)).setCell ⟨gb272, 3, none⟩ (.slice Ao39 t268.length co39))) := ⟨Q12⟩
        generalize ((((w32.setCell ⟨gb272, 0, none⟩ (.slice Ao33 t259.length co33)).setCell ⟨gb272, 1, none⟩ (.slice Ao37 t262.length co37)).setCell ⟨gb272, 2, none⟩ (.slice Ao38 t265.length co38)).setCell ⟨gb272, 3, none⟩ (.slice Ao39 t268.length co39)) = w41 at HO261 HO264 HO267 HO270 BK257 BK258 BK272 HB ⊢
        replace HO261 := Ya (Z10 HO261.out)
        replace HO264 := Ya (Z10 HO264.out)
        replace HO267 := Ya (Z10 HO267.out)
        replace HO270 := Ya (Z10 HO270.out)
        replace BK257 := Ya (Z23 BK257.out)
        replace BK258 := Ya (Z23 BK258.out)
        replace BK272 := Ya (Z23 BK272.out)
        replace HB := Ya (Z4 HB.out)
        have p274 : 0 ≤ (t271 : Int) := Z27 Q1
        have q274 : t271 < (t262.length : Int) := Z27 Q1
        obtain ⟨ad274, e274, hx274_0⟩ := Kd.at_int (Kd.R_reads' HO264.out).2.2 t271 p274 q274
        cases e274
        replace p274 := eq_true p274
        replace q274 := eq_true q274
        have p275 : 0 ≤ (t271 : Int) := Z27 Q1
        have q275 : t271 < (l0_1.length : Int) := Z27 Q1
        obtain ⟨ad275, e275, hx275_0⟩ := Kd.at_int HR0_1.out t271 p275 q275
        have hw275_0 := hx275_0
        cases e275
        try replace hx275_0 := (HB.out.cell (World.block_lt_of_cell? w _ hx275_0)).trans hx275_0
        replace p275 := eq_true p275
        replace q275 := eq_true q275
        refine start_ (n := 12) (S := fun w' => w'.cell? ⟨gb272, 0, none⟩ = some (.slice Ao33 t259.length co33) ∧ w'.cell? ⟨gb272, 1, none⟩ = some (.slice (some ad274) t262.length co37) ∧ w'.cell? ⟨gb272, 2, none⟩ = some (.slice Ao38 t265.length co38) ∧ w'.cell? ⟨gb272, 3, none⟩ = some (.slice Ao39 t268.length co39) ∧ w'.cell? ⟨gb257, 0, none⟩ = some (.slice A0_0 l0_0.length c0_0) ∧ w'.cell? ⟨gb257, 1, none⟩ = some (.slice (some ad275) l0_1.length c0_1) ∧ w'.cell? ⟨gb257, 2, none⟩ = some (.slice A0_2 l0_2.length c0_2) ∧ w'.cell? ⟨gb257, 3, none⟩ = some (.slice A0_3 l0_3.length c0_3) ∧ w'.cell? ⟨gb257, 4, none⟩ = some (.slice A0_4 l0_4.length c0_4) ∧ w'.cell? ⟨gb257, 5, none⟩ = some (.slice (some ad273) l0_5.length c0_5) ∧ w'.cell? (ad274.add (t271).toNat) = some (.int .i64 (rd t262 t271)) ∧ w'.cell? (ad275.add (t271).toNat) = some (.int .i64 (rd l0_1 t271))) (ds := []) (YA 12 0) (by kernel_rfl) rfl rfl ⟨(Z20 BK272.out 0).trans rfl, (Z20 BK272.out 1).trans rfl, (Z20 BK272.out 2).trans rfl, (Z20 BK272.out 3).trans rfl, (Z20 BK257.out 0).trans rfl, (Z20 BK257.out 1).trans rfl, (Z20 BK257.out 2).trans rfl, (Z20 BK257.out 3).trans rfl, (Z20 BK257.out 4).trans rfl, (Z20 BK257.out 5).trans rfl, hx274_0, ((HB.out.cell (World.block_lt_of_cell? w _ hw275_0)).trans hw275_0)⟩ (fun hHeld => ?_); refine with_tabW spec_foSwap.tab5 spec_foSwap.bits5 (fun HT_ HW_ => ?_)
        generalize w41.drew = w42 at HO261 HO264 HO267 HO270 BK257 BK258 BK272 HB hx274_0 hx275_0 hHeld ⊢
        refine Yp 0 (some 23) (YA 12 1) rfl HT_.out ?_
        refine Yp 2 (some 25) (YA 12 5) rfl HT_.out ?_
        refine Yp 5 (some 28) (YA 12 37) rfl HT_.out ?_
        refine Yp 6 (some 29) (YA 12 101) rfl HT_.out ?_
        refine Yp 8 (some 31) (YA 12 357) rfl HT_.out ?_
        refine Yt 1 (some 24) (YA 12 359) rfl HT_.out HW_.out hHeld Q11 ?_
        refine Yp 3 (some 26) (YA 12 367) rfl HT_.out ?_
        refine Yt 4 (some 27) (YA 12 383) rfl HT_.out HW_.out hHeld Q11 ?_
        refine Yt 7 (some 30) (YA 12 511) rfl HT_.out HW_.out hHeld Q11 ?_
        refine Yp 9 (some 32) (YA 12 1023) rfl HT_.out ?_
        refine Yt 10 (some 33) (YA 12 2047) rfl HT_.out HW_.out hHeld Q11 ?_
        refine Yp 11 (some 34) (YA 12 4095) rfl HT_.out ?_
        refine done_ (done_of HT_.out (by kernel_rfl)) ?_
        have hz43 := Y6 BK257.out
        try go_wp2_with (first | ((with_reducible refine gate_callee (f := 74) rfl ?_); refine Yz 43 Try.func74 #[.slice A0_4 l0_4.length c0_4, .agg #[.int .i64 0, .int .i64 (wrap64 ((rd l0_5 (ji18)) - 1)), .int .i64 (wrap64 ((wrap64 ((rd l0_5 (ji18)) - 1)) + 1))]] ?_ (hargs := (by (try simp only [Z30, Z31, Z32]); first | done | (simp only [hji18]; rfl) | rfl | (simp only [Z28, Z29]; rfl))); (with_reducible refine (spec_moApply.calls k _ _ l0_4 0 (wrap64 ((rd l0_5 (ji18)) - 1)) (wrap64 ((wrap64 ((rd l0_5 (ji18)) - 1)) + 1)) t276 _ (Yc (Z19 HR0_4.out HB.out)) HC0_4.out A25.out).mono ?_); rintro e w44 ⟨v277, rfl, ho0, hb⟩; refine ⟨_, rfl, ?_⟩; replace HO267 := Yw HO267 hb; have HO278 := Yl (Kd.R_new' (Kd.R_new' (Kd.R_new' ho0 (Z17 (Yr HO261.out))) (Z17 (Yr HO264.out))) (Z17 (Yr HO270.out))); replace HO261 := Ya (Kd.R_elder' (Yr HO261.out) (Kd.R_base ho0) hb); replace HO264 := Ya (Kd.R_elder' (Yr HO264.out) (Kd.R_base ho0) hb); replace HO270 := Ya (Kd.R_elder' (Yr HO270.out) (Kd.R_base ho0) hb); replace BK257 := Yb BK257 hb; replace BK258 := Yb BK258 hb; replace BK272 := Yb BK272 hb; replace HB := Yh hb; (try clear hb ho0)))
        replace HO261 := Ya (Z10 HO261.out)
        replace HO264 := Ya (Z10 HO264.out)
        replace HO267 := Ya (Z10 HO267.out)
        replace HO270 := Ya (Z10 HO270.out)
        replace HO278 := Ya (Z10 HO278.out)
        replace BK257 := Ya (Z23 BK257.out)
        replace BK258 := Ya (Z23 BK258.out)
        replace BK272 := Ya (Z23 BK272.out)
        replace HB := Ya (Z4 HB.out)
        obtain ⟨Ao46, co46, eo46⟩ := Z18 HO278.out
        (first | subst eo46 | (injection eo46 with f1_ f2_ f3_; have f4_ := f1_.symm; have f5_ := f3_.symm; clear f1_ f2_ f3_; subst f4_; subst f5_))
        refine start_ (n := 8) (S := fun w' => w'.cell? ⟨gb272, 0, none⟩ = some (.slice Ao33 t259.length co33) ∧ w'.cell? ⟨gb272, 1, none⟩ = some (.slice (some ad274) t262.length co37) ∧ w'.cell? ⟨gb272, 2, none⟩ = some (.slice Ao38 t265.length co38) ∧ w'.cell? ⟨gb272, 3, none⟩ = some (.slice Ao39 t268.length co39)) (ds := []) (YA 8 0) (by kernel_rfl) rfl rfl ⟨(Z20 BK272.out 0).trans rfl, (Z20 BK272.out 1).trans rfl, (Z20 BK272.out 2).trans rfl, (Z20 BK272.out 3).trans rfl⟩ (fun hHeld => ?_); refine with_tabW spec_foSwap.tab8 spec_foSwap.bits8 (fun HT_ HW_ => ?_)
        generalize w44.drew = w45 at HO261 HO264 HO267 HO270 HO278 BK257 BK258 BK272 HB hHeld ⊢
        refine Yp 1 (some 45) (YA 8 2) rfl HT_.out ?_
        refine Yp 2 (some 46) (YA 8 6) rfl HT_.out ?_
        refine Yp 5 (some 49) (YA 8 38) rfl HT_.out ?_
        refine Yt 0 (some 44) (YA 8 39) rfl HT_.out HW_.out hHeld Q3 ?_
        refine one_ (i := 3) (N := some 47) (YA 8 47) rfl rfl (one_of HT_.out (by kernel_rfl)) (by decide) (fun K hK => ?_)
        refine goes_ Try.func75 (by kernel_rfl) rfl #[.slice Ao46 t276.length co46] (by rfl) rfl rfl Q6 ?_
        with_reducible refine (spec_raInverse.calls k _ _ t276 t279 _ ?side1 ?side2 A26.out).mono ?_
        (case side1 => exact Yc (Kd.R_reads' HO278.out).2.2)
        (case side2 => exact (Kd.R_reads' HO278.out).2.1)
        rintro e w47 ⟨v280, rfl, ho0, hb⟩
        refine ⟨_, rfl, ?_⟩
        replace HO267 := Yw HO267 hb
        have HO281 := Yl (Kd.R_new' (Kd.R_new' (Kd.R_new' (Kd.R_new' ho0 (Z17 (Yr HO261.out))) (Z17 (Yr HO264.out))) (Z17 (Yr HO270.out))) (Z17 (Yr HO278.out)))
        replace HO261 := Ya (Kd.R_elder' (Yr HO261.out) (Kd.R_base ho0) hb)
        replace HO264 := Ya (Kd.R_elder' (Yr HO264.out) (Kd.R_base ho0) hb)
        replace HO270 := Ya (Kd.R_elder' (Yr HO270.out) (Kd.R_base ho0) hb)
        replace HO278 := Ya (Kd.R_elder' (Yr HO278.out) (Kd.R_base ho0) hb)
        replace BK257 := Yb BK257 hb
        replace BK258 := Yb BK258 hb
        replace BK272 := Yb BK272 hb
        replace HB := Yh hb
        (try clear hb ho0)
        obtain ⟨Ao48, co48, eo48⟩ := Z18 HO281.out
        (first | subst eo48 | (injection eo48 with f1_ f2_ f3_; have f4_ := f1_.symm; have f5_ := f3_.symm; clear f1_ f2_ f3_; subst f4_; subst f5_))
        refine hK.out _ _ ⟨(Z20 BK272.out 0).trans rfl, (Z20 BK272.out 1).trans rfl, (Z20 BK272.out 2).trans rfl, (Z20 BK272.out 3).trans rfl⟩ (fun hHeld => ?_)
        clear hK K
        refine norm_ (a' := ?_) ?_ ?_
        rotate_left
        ·show Act.put _ (some 47) _ = _
         simp only [Act.put, Z0, Z1, Z2, i64_w, i32_w]
         rfl
        refine Yp 4 (some 48) (YA 8 63) rfl HT_.out ?_
        refine one_ (i := 6) (N := none) (YA 8 127) rfl rfl (one_of HT_.out (by kernel_rfl)) (by decide) (fun K hK => ?_)
        have hs49 : w47.cell? ⟨gb258, 0, none⟩ = some (.slice none 0 0) := (Z20 BK258.out 0).trans rfl
        have hfs49 := Z21 BK258.out 0
        have hns49_0 := NB257_258.out
        have hns49_2 := NB272_258.out
        have hms49_0 := NB258_257.out
        have hms49_2 := NB258_272.out
        have hs50 : w47.cell? ⟨gb258, 1, none⟩ = some (.slice none 0 0) := (Z20 BK258.out 1).trans rfl
        have hfs50 := Z21 BK258.out 1
        have hns50_0 := NB257_258.out
        have hns50_2 := NB272_258.out
        have hms50_0 := NB258_257.out
        have hms50_2 := NB258_272.out
        have hs51 : w47.cell? ⟨gb258, 2, none⟩ = some (.slice none 0 0) := (Z20 BK258.out 2).trans rfl
        have hfs51 := Z21 BK258.out 2
        have hns51_0 := NB257_258.out
        have hns51_2 := NB272_258.out
        have hms51_0 := NB258_257.out
        have hms51_2 := NB258_272.out
        have hs52 : w47.cell? ⟨gb258, 3, none⟩ = some (.slice none 0 0) := (Z20 BK258.out 3).trans rfl
        have hfs52 := Z21 BK258.out 3
        have hns52_0 := NB257_258.out
        have hns52_2 := NB272_258.out
        have hms52_0 := NB258_257.out
        have hms52_2 := NB258_272.out
        have hs53 : w47.cell? ⟨gb258, 4, none⟩ = some (.slice none 0 0) := (Z20 BK258.out 4).trans rfl
        have hfs53 := Z21 BK258.out 4
        have hns53_0 := NB257_258.out
        have hns53_2 := NB272_258.out
        have hms53_0 := NB258_257.out
        have hms53_2 := NB258_272.out
        have hs54 : w47.cell? ⟨gb258, 5, none⟩ = some (.slice none 0 0) := (Z20 BK258.out 5).trans rfl
        have hfs54 := Z21 BK258.out 5
        have hns54_0 := NB257_258.out
        have hns54_2 := NB272_258.out
        have hms54_0 := NB258_257.out
        have hms54_2 := NB258_272.out
        refine skip_ (w1 := ?_) (by rfl) rfl ?_ ?_
        rotate_left
        ·go_simp
         rfl
        refine hK.out _ _ ⟨((cell_far (p := ⟨gb258, _, none⟩) NB272_258.out _).trans (((cell_far (p := ⟨gb258, _, none⟩) NB272_258.out _).trans (((cell_far (p := ⟨gb258, _, none⟩) NB272_258.out _).trans (((cell_far (p := ⟨gb258, _, none⟩) NB272_258.out _).trans (((cell_far (p := ⟨gb258, _, none⟩) NB272_258.out _).trans (((cell_far (p := ⟨gb258, _, none⟩) NB272_258.out _).trans (hHeld.1)))))))))))), ((cell_far (p := ⟨gb258, _, none⟩) NB272_258.out _).trans (((cell_far (p := ⟨gb258, _, none⟩) NB272_258.out _).trans (((cell_far (p := ⟨gb258, _, none⟩) NB272_258.out _).trans (((cell_far (p := ⟨gb258, _, none⟩) NB272_258.out _).trans (((cell_far (p := ⟨gb258, _, none⟩) NB272_258.out _).trans (((cell_far (p := ⟨gb258, _, none⟩) NB272_258.out _).trans (hHeld.2.1)))))))))))), ((cell_far (p := ⟨gb258, _, none⟩) NB272_258.out _).trans (((cell_far (p := ⟨gb258, _, none⟩) NB272_258.out _).trans (((cell_far (p := ⟨gb258, _, none⟩) NB272_258.out _).trans (((cell_far (p := ⟨gb258, _, none⟩) NB272_258.out _).trans (((cell_far (p := ⟨gb258, _, none⟩) NB272_258.out _).trans (((cell_far (p := ⟨gb258, _, none⟩) NB272_258.out _).trans (hHeld.2.2.1)))))))))))), ((cell_far (p := ⟨gb258, _, none⟩) NB272_258.out _).trans (((cell_far (p := ⟨gb258, _, none⟩) NB272_258.out _).trans (((cell_far (p := ⟨gb258, _, none⟩) NB272_258.out _).trans (((cell_far (p := ⟨gb258, _, none⟩) NB272_258.out _).trans (((cell_far (p := ⟨gb258, _, none⟩) NB272_258.out _).trans (((cell_far (p := ⟨gb258, _, none⟩) NB272_258.out _).trans (hHeld.2.2.2))))))))))))⟩ (fun hHeld => ?_)
        clear hK K
        refine Yp 7 (some 3) (YA 8 255) rfl HT_.out ?_
        refine done_ (done_of HT_.out (by kernel_rfl)) ?_
        try go_wp2
        refine bodyPost_ret (results_ct rfl _ _ gb258 35 #[.slice Ao33 t259.length co33, .slice (some ad274) t262.length co37, .slice Ao38 t265.length co38, .slice Ao39 t268.length co39, .slice Ao46 t276.length co46, .slice Ao48 t279.length co48] (0, 0) _ rfl (Yk (Yv6 BK258.out)) Try.underlying35 rfl (by kernel_rfl)) rfl ?_
        exact ⟨_, _, _, _, _, _, Q70, Q69, Q68, Q88, Q67, by (with_reducible repeat (first | apply Z8 | apply Z9 | apply Z10)); exact Z11 (Yf6 HO278.out BK258.out) (fun _ hk => ⟨hk.1.1.1.1.2, ⟨hk.1.1.1.2, ⟨hk.1.1.2, hk.1.2⟩⟩⟩), by (with_reducible repeat (first | apply Z8 | apply Z9 | apply Z10)); exact Z11 (Yf6 HO281.out BK258.out) (fun _ hk => ⟨hk.1.1.1.1.2, ⟨hk.1.1.1.2, ⟨hk.1.1.2, hk.1.2⟩⟩⟩), Q12⟩
       ·rw [if_neg c24] at H
        have c24b0 : decide ((rd l0_1 t271) < (rd t262 t271)) = false := Z34 c24
        clear c24
        replace H := Z33.mp H
        obtain ⟨t282, A550, H⟩ := H
        replace H : ((spec_raInverse.f k t282).bind fun t285 => (some (t259, t262, t265, t268, t282, t285, rd l0_5 (ji18)))) = some (r1, r2, r3, r4, r5, r6, r7) := H
        have A55 := Ya A550
        clear A550
        replace H := Z33.mp H
        obtain ⟨t285, A560, H⟩ := H
        replace H : (some (t259, t262, t265, t268, t282, t285, rd l0_5 (ji18))) = some (r1, r2, r3, r4, r5, r6, r7) := H
        have A56 := Ya A560
        clear A560
        simp only [Option.some.injEq, Prod.mk.injEq] at H
        obtain ⟨rfl, rfl, rfl, rfl, rfl, rfl, rfl⟩ := H
        go_enter Try.func55, Try.ntmps55
        try go_wp2_with (first | ((with_reducible refine gate_dst (N := 1) rfl ?_); refine Yx 1 #[.slice A0_0 l0_0.length c0_0, .slice A0_1 l0_1.length c0_1, .slice A0_2 l0_2.length c0_2, .slice A0_3 l0_3.length c0_3, .slice A0_4 l0_4.length c0_4, .slice A0_5 l0_5.length c0_5] 35 ?_; intro gb257 hg w57 hbox hb; have BK257 := Ya hbox; have GW257 := Yg hg; have GE257 := GW257; replace HB := Yh hb; clear hb hbox hg) | ((with_reducible refine gate_dst (N := 2) rfl ?_); refine Yx 2 #[.slice none 0 0, .slice none 0 0, .slice none 0 0, .slice none 0 0, .slice none 0 0, .slice none 0 0] 35 ?_; intro gb258 hg w58 hbox hb; have BK258 := Ya hbox; have GW258 := Yg hg; have GE258 := GW258; replace HB := Yh hb; have NB257_258 := Yn BK257 hg; have NB258_257 := Ym BK257 hg; replace BK257 := Yb BK257 hb; clear hb hbox hg; have hnb59 := NB257_258.out; have hnc59 := NB258_257.out; have hz60 := Y6 BK257.out) | ((with_reducible refine gate_callee (f := 31) rfl ?_); refine Yz 11 Try.func31 #[.agg #[.slice A0_0 l0_0.length c0_0, .slice A0_1 l0_1.length c0_1, .slice A0_2 l0_2.length c0_2, .slice A0_3 l0_3.length c0_3]] ?_; (with_reducible refine (spec_foStep.calls _ _ l0_0 _ _ l0_1 _ _ l0_2 _ _ l0_3 t259 t262 t265 t268 t271 _ (Yc (Z19 HR0_0.out HB.out)) HC0_0.out (Yc (Z19 HR0_1.out HB.out)) HC0_1.out (Yc (Z19 HR0_2.out HB.out)) HC0_2.out (Yc (Z19 HR0_3.out HB.out)) HC0_3.out A2.out).mono ?_); rintro e w61 ⟨v260, v263, v266, v269, rfl, ho0, ho1, ho2, ho3, hb⟩; refine ⟨_, rfl, ?_⟩; have HO261 := Yl ho0; have HO264 := Yl ho1; have HO267 := Yl ho2; have HO270 := Yl ho3; replace BK257 := Yb BK257 hb; replace BK258 := Yb BK258 hb; replace HB := Yh hb; (try clear hb ho0 ho1 ho2 ho3)) | ((with_reducible refine gate_dst (N := 4) rfl ?_); refine Yx 4 #[.slice none 0 0, .slice none 0 0, .slice none 0 0, .slice none 0 0] 27 ?_; intro gb272 hg w62 hbox hb; replace HO261 := Yw HO261 hb; replace HO264 := Yw HO264 hb; replace HO267 := Yw HO267 hb; replace HO270 := Yw HO270 hb; have BK272 := Ya hbox; have GW272 := Yg hg; have GE272 := GW272; replace HB := Yh hb; have NB257_272 := Yn BK257 hg; have NB272_257 := Ym BK257 hg; replace BK257 := Yb BK257 hb; have NB258_272 := Yn BK258 hg; have NB272_258 := Ym BK258 hg; replace BK258 := Yb BK258 hb; clear hb hbox hg; obtain ⟨Ao63, co63, rfl⟩ := Z18 HO261.out; have hnb64 := NB272_257.out; have hnc64 := NB257_272.out; have hnb65 := NB272_258.out; have hnc65 := NB258_272.out; have hz66 := Y4 BK272.out; obtain ⟨Ao67, co67, rfl⟩ := Z18 HO264.out; obtain ⟨Ao68, co68, rfl⟩ := Z18 HO267.out; obtain ⟨Ao69, co69, rfl⟩ := Z18 HO270.out; have hz70 := Y6 BK257.out; have p273 : 0 ≤ ((ji18) : Int) := Z27 Q1; have q273 : (ji18) < (l0_5.length : Int) := Z27 Q1; obtain ⟨ad273, e273, hx273_0⟩ := Kd.at_int HR0_5.out (ji18) p273 q273; cases e273; have hn273_0 : ad273.block ≠ gb272 := Nat.ne_of_lt (Nat.lt_of_lt_of_le Q21 GW272.out); have hn273_1 : ad273.block ≠ gb272 := Nat.ne_of_lt (Nat.lt_of_lt_of_le Q21 GW272.out); have hn273_2 : ad273.block ≠ gb272 := Nat.ne_of_lt (Nat.lt_of_lt_of_le Q21 GW272.out); have hn273_3 : ad273.block ≠ gb272 := Nat.ne_of_lt (Nat.lt_of_lt_of_le Q21 GW272.out); try replace hx273_0 := (HB.out.cell (World.block_lt_of_cell? w _ hx273_0)).trans hx273_0; replace hx273_0 := (cell_far (p := ⟨gb272, 0, none⟩) Q93 (.slice Ao63 t259.length co63)).trans hx273_0; replace hx273_0 := (cell_far (p := ⟨gb272, 1, none⟩) Q92 (.slice Ao67 t262.length co67)).trans hx273_0; replace hx273_0 := (cell_far (p := ⟨gb272, 2, none⟩) Q91 (.slice Ao68 t265.length co68)).trans hx273_0; replace hx273_0 := (cell_far (p := ⟨gb272, 3, none⟩) Q90 (.slice Ao69 t268.length co69)).trans hx273_0; clear hn273_0; clear hn273_1; clear hn273_2; clear hn273_3; replace p273 := eq_true p273; replace q273 := eq_true q273))
        replace HO261 : Aside0 (Kd.R (Kd.int .i64) 3 ((((w62.setCell ⟨gb272, 0, none⟩ (.slice Ao63 t259.length co63)).setCell ⟨gb272, 1, none⟩ (.slice Ao67 t262.length co67)).setCell ⟨gb272, 2, none⟩ (.slice Ao68 t265.length co68)).setCell ⟨gb272, 3, none⟩ (.slice Ao69 t268.length co69)) w.heap.size (fun k_ => some k_ ≠ (.slice Ao67 t262.length co67 : Value).ownBlock ∧ some k_ ≠ (.slice Ao69 t268.length co69 : Value).ownBlock) (.slice Ao63 t259.length co63) t259) := ⟨Q74⟩
        replace HO264 : Aside0 (Kd.R (Kd.int .i64) 3 ((((w62.setCell ⟨gb272, 0, none⟩ (.slice Ao63 t259.length co63)).setCell ⟨gb272, 1, none⟩ (.slice Ao67 t262.length co67)).setCell ⟨gb272, 2, none⟩ (.slice Ao68 t265.length co68)).setCell ⟨gb272, 3, none⟩ (.slice Ao69 t268.length co69)) w.heap.size (fun k_ => some k_ ≠ (.slice Ao63 t259.length co63 : Value).ownBlock ∧ some k_ ≠ (.slice Ao69 t268.length co69 : Value).ownBlock) (.slice Ao67 t262.length co67) t262) := ⟨Q73⟩
        replace HO267 : Aside0 (Kd.R Kd.bool 4 ((((w62.setCell ⟨gb272, 0, none⟩ (.slice Ao63 t259.length co63)).setCell ⟨gb272, 1, none⟩ (.slice Ao67 t262.length co67)).setCell ⟨gb272, 2, none⟩ (.slice Ao68 t265.length co68)).setCell ⟨gb272, 3, none⟩ (.slice Ao69 t268.length co69)) w.heap.size (fun _ => True) (.slice Ao68 t265.length co68) t265) := ⟨Q89⟩
        replace HO270 : Aside0 (Kd.R (Kd.int .i64) 3 ((((w62.setCell ⟨gb272, 0, none⟩ (.slice Ao63 t259.length co63)).setCell ⟨gb272, 1, none⟩ (.slice Ao67 t262.length co67)).setCell ⟨gb272, 2, none⟩ (.slice Ao68 t265.length co68)).setCell ⟨gb272, 3, none⟩ (.slice Ao69 t268.length co69)) w.heap.size (fun k_ => some k_ ≠ (.slice Ao63 t259.length co63 : Value).ownBlock ∧ some k_ ≠ (.slice Ao67 t262.length co67 : Value).ownBlock) (.slice Ao69 t268.length co69) t268) := ⟨Q72⟩
        replace BK257 : Aside0 (((((w62.setCell ⟨gb272, 0, none⟩ (.slice Ao63 t259.length co63)).setCell ⟨gb272, 1, none⟩ (.slice Ao67 t262.length co67)).setCell ⟨gb272, 2, none⟩ (.slice Ao68 t265.length co68)).setCell ⟨gb272, 3, none⟩ (.slice Ao69 t268.length co69)).heap[gb257]? = some (.cells #[.slice A0_0 l0_0.length c0_0, .slice A0_1 l0_1.length c0_1, .slice A0_2 l0_2.length c0_2, .slice A0_3 l0_3.length c0_3, .slice A0_4 l0_4.length c0_4, .slice (some ad273) l0_5.length c0_5] 35 (0, 0))) := ⟨Q29⟩
        replace BK258 : Aside0 (((((w62.setCell ⟨gb272, 0, none⟩ (.slice Ao63 t259.length co63)).setCell ⟨gb272, 1, none⟩ (.slice Ao67 t262.length co67)).setCell ⟨gb272, 2, none⟩ (.slice Ao68 t265.length co68)).setCell ⟨gb272, 3, none⟩ (.slice Ao69 t268.length co69)).heap[gb258]? = some (.cells #[.slice none 0 0, .slice none 0 0, .slice none 0 0, .slice none 0 0, .slice none 0 0, .slice none 0 0] 35 (0, 0))) := ⟨Q28⟩
        replace BK272 : Aside0 (((((w62.setCell ⟨gb272, 0, none⟩ (.slice Ao63 t259.length co63)).setCell ⟨gb272, 1, none⟩ (.slice Ao67 t262.length co67)).setCell ⟨gb272, 2, none⟩ (.slice Ao68 t265.length co68)).setCell ⟨gb272, 3, none⟩ (.slice Ao69 t268.length co69)).heap[gb272]? = some (.cells #[.slice Ao63 t259.length co63, .slice Ao67 t262.length co67, .slice Ao68 t265.length co68, .slice Ao69 t268.length co69] 27 (0, 0))) := ⟨by (with_reducible repeat (first | refine Z22 ?_ _ | refine Z23 ?_ | refine Z24 ?_ _)); refine Z26 (cs := #[.slice Ao63 t259.length co63, .slice Ao67 t262.length co67, .slice Ao68 t265.length co68, .slice none 0 0]) ?_ 3 _ rfl; (with_reducible repeat (first | refine Z22 ?_ _ | refine Z23 ?_ | refine Z24 ?_ _)); refine Z26 (cs := #[.slice Ao63 t259.length co63, .slice Ao67 t262.length co67, .slice none 0 0, .slice none 0 0]) ?_ 2 _ rfl; (with_reducible repeat (first | refine Z22 ?_ _ | refine Z23 ?_ | refine Z24 ?_ _)); refine Z26 (cs := #[.slice Ao63 t259.length co63, .slice none 0 0, .slice none 0 0, .slice none 0 0]) ?_ 1 _ rfl; (with_reducible repeat (first | refine Z22 ?_ _ | refine Z23 ?_ | refine Z24 ?_ _)); refine Z26 (cs := #[.slice none 0 0, .slice none 0 0, .slice none 0 0, .slice none 0 0]) ?_ 0 _ rfl; (with_reducible repeat (first | refine Z22 ?_ _ | refine Z23 ?_ | refine Z24 ?_ _)); exact BK272.out⟩
        replace HB : Aside0 (Below w.heap.size w ((((w62.setCell ⟨gb272, 0, none⟩ (.slice Ao63 t259.length co63)).setCell ⟨gb272, 1, none⟩ (.slice Ao67 t262.length co67)).setCell ⟨gb272, 2, none⟩ (.slice Ao68 t265.length co68)).setCell ⟨gb272, 3, none⟩ (.slice Ao69 t268.length co69))) := ⟨Q12⟩
        generalize ((((w62.setCell ⟨gb272, 0, none⟩ (.slice Ao63 t259.length co63)).setCell ⟨gb272, 1, none⟩ (.slice Ao67 t262.length co67)).setCell ⟨gb272, 2, none⟩ (.slice Ao68 t265.length co68)).setCell ⟨gb272, 3, none⟩ (.slice Ao69 t268.length co69)) = w71 at HO261 HO264 HO267 HO270 BK257 BK258 BK272 HB ⊢
        replace HO261 := Ya (Z10 HO261.out)
        replace HO264 := Ya (Z10 HO264.out)
        replace HO267 := Ya (Z10 HO267.out)
        replace HO270 := Ya (Z10 HO270.out)
        replace BK257 := Ya (Z23 BK257.out)
        replace BK258 := Ya (Z23 BK258.out)
        replace BK272 := Ya (Z23 BK272.out)
        replace HB := Ya (Z4 HB.out)
        have p274 : 0 ≤ (t271 : Int) := Z27 Q1
        have q274 : t271 < (t262.length : Int) := Z27 Q1
        obtain ⟨ad274, e274, hx274_0⟩ := Kd.at_int (Kd.R_reads' HO264.out).2.2 t271 p274 q274
        cases e274
        replace p274 := eq_true p274
        replace q274 := eq_true q274
        have p275 : 0 ≤ (t271 : Int) := Z27 Q1
        have q275 : t271 < (l0_1.length : Int) := Z27 Q1
        obtain ⟨ad275, e275, hx275_0⟩ := Kd.at_int HR0_1.out t271 p275 q275
        have hw275_0 := hx275_0
        cases e275
        try replace hx275_0 := (HB.out.cell (World.block_lt_of_cell? w _ hx275_0)).trans hx275_0
        replace p275 := eq_true p275
        replace q275 := eq_true q275
        refine start_ (n := 12) (S := fun w' => w'.cell? ⟨gb272, 0, none⟩ = some (.slice Ao63 t259.length co63) ∧ w'.cell? ⟨gb272, 1, none⟩ = some (.slice (some ad274) t262.length co67) ∧ w'.cell? ⟨gb272, 2, none⟩ = some (.slice Ao68 t265.length co68) ∧ w'.cell? ⟨gb272, 3, none⟩ = some (.slice Ao69 t268.length co69) ∧ w'.cell? ⟨gb257, 0, none⟩ = some (.slice A0_0 l0_0.length c0_0) ∧ w'.cell? ⟨gb257, 1, none⟩ = some (.slice (some ad275) l0_1.length c0_1) ∧ w'.cell? ⟨gb257, 2, none⟩ = some (.slice A0_2 l0_2.length c0_2) ∧ w'.cell? ⟨gb257, 3, none⟩ = some (.slice A0_3 l0_3.length c0_3) ∧ w'.cell? ⟨gb257, 4, none⟩ = some (.slice A0_4 l0_4.length c0_4) ∧ w'.cell? ⟨gb257, 5, none⟩ = some (.slice (some ad273) l0_5.length c0_5) ∧ w'.cell? (ad274.add (t271).toNat) = some (.int .i64 (rd t262 t271)) ∧ w'.cell? (ad275.add (t271).toNat) = some (.int .i64 (rd l0_1 t271))) (ds := []) (YA 12 0) (by kernel_rfl) rfl rfl ⟨(Z20 BK272.out 0).trans rfl, (Z20 BK272.out 1).trans rfl, (Z20 BK272.out 2).trans rfl, (Z20 BK272.out 3).trans rfl, (Z20 BK257.out 0).trans rfl, (Z20 BK257.out 1).trans rfl, (Z20 BK257.out 2).trans rfl, (Z20 BK257.out 3).trans rfl, (Z20 BK257.out 4).trans rfl, (Z20 BK257.out 5).trans rfl, hx274_0, ((HB.out.cell (World.block_lt_of_cell? w _ hw275_0)).trans hw275_0)⟩ (fun hHeld => ?_); refine with_tabW spec_foSwap.tab5 spec_foSwap.bits5 (fun HT_ HW_ => ?_)
        generalize w71.drew = w72 at HO261 HO264 HO267 HO270 BK257 BK258 BK272 HB hx274_0 hx275_0 hHeld ⊢
        refine Yp 0 (some 23) (YA 12 1) rfl HT_.out ?_
        refine Yp 2 (some 25) (YA 12 5) rfl HT_.out ?_
        refine Yp 5 (some 28) (YA 12 37) rfl HT_.out ?_
        refine Yp 6 (some 29) (YA 12 101) rfl HT_.out ?_
        refine Yp 8 (some 31) (YA 12 357) rfl HT_.out ?_
        refine Yt 1 (some 24) (YA 12 359) rfl HT_.out HW_.out hHeld Q11 ?_
        refine Yp 3 (some 26) (YA 12 367) rfl HT_.out ?_
        refine Yt 4 (some 27) (YA 12 383) rfl HT_.out HW_.out hHeld Q11 ?_
        refine Yt 7 (some 30) (YA 12 511) rfl HT_.out HW_.out hHeld Q11 ?_
        refine Yp 9 (some 32) (YA 12 1023) rfl HT_.out ?_
        refine Yt 10 (some 33) (YA 12 2047) rfl HT_.out HW_.out hHeld Q11 ?_
        refine Yp 11 (some 34) (YA 12 4095) rfl HT_.out ?_
        refine done_ (done_of HT_.out (by kernel_rfl)) ?_
        have hz73 := Y6 BK257.out
        try go_wp2_with (first | ((with_reducible refine gate_callee (f := 74) rfl ?_); refine Yz 43 Try.func74 #[.slice A0_4 l0_4.length c0_4, .agg #[.int .i64 0, .int .i64 (rd l0_5 (ji18)), .int .i64 (wrap64 ((rd l0_5 (ji18)) + 1))]] ?_ (hargs := (by (try simp only [Z30, Z31, Z32]); first | done | (simp only [hji18]; rfl) | rfl | (simp only [Z28, Z29]; rfl))); (with_reducible refine (spec_moApply.calls k _ _ l0_4 0 (rd l0_5 (ji18)) (wrap64 ((rd l0_5 (ji18)) + 1)) t282 _ (Yc (Z19 HR0_4.out HB.out)) HC0_4.out A55.out).mono ?_); rintro e w74 ⟨v283, rfl, ho0, hb⟩; refine ⟨_, rfl, ?_⟩; replace HO267 := Yw HO267 hb; have HO284 := Yl (Kd.R_new' (Kd.R_new' (Kd.R_new' ho0 (Z17 (Yr HO261.out))) (Z17 (Yr HO264.out))) (Z17 (Yr HO270.out))); replace HO261 := Ya (Kd.R_elder' (Yr HO261.out) (Kd.R_base ho0) hb); replace HO264 := Ya (Kd.R_elder' (Yr HO264.out) (Kd.R_base ho0) hb); replace HO270 := Ya (Kd.R_elder' (Yr HO270.out) (Kd.R_base ho0) hb); replace BK257 := Yb BK257 hb; replace BK258 := Yb BK258 hb; replace BK272 := Yb BK272 hb; replace HB := Yh hb; (try clear hb ho0)))
        replace HO261 := Ya (Z10 HO261.out)
        replace HO264 := Ya (Z10 HO264.out)
        replace HO267 := Ya (Z10 HO267.out)
        replace HO270 := Ya (Z10 HO270.out)
        replace HO284 := Ya (Z10 HO284.out)
        replace BK257 := Ya (Z23 BK257.out)
        replace BK258 := Ya (Z23 BK258.out)
        replace BK272 := Ya (Z23 BK272.out)
        replace HB := Ya (Z4 HB.out)
        obtain ⟨Ao76, co76, eo76⟩ := Z18 HO284.out
        (first | subst eo76 | (injection eo76 with f1_ f2_ f3_; have f4_ := f1_.symm; have f5_ := f3_.symm; clear f1_ f2_ f3_; subst f4_; subst f5_))
        refine start_ (n := 8) (S := fun w' => w'.cell? ⟨gb272, 0, none⟩ = some (.slice Ao63 t259.length co63) ∧ w'.cell? ⟨gb272, 1, none⟩ = some (.slice (some ad274) t262.length co67) ∧ w'.cell? ⟨gb272, 2, none⟩ = some (.slice Ao68 t265.length co68) ∧ w'.cell? ⟨gb272, 3, none⟩ = some (.slice Ao69 t268.length co69)) (ds := []) (YA 8 0) (by kernel_rfl) rfl rfl ⟨(Z20 BK272.out 0).trans rfl, (Z20 BK272.out 1).trans rfl, (Z20 BK272.out 2).trans rfl, (Z20 BK272.out 3).trans rfl⟩ (fun hHeld => ?_); refine with_tabW spec_foSwap.tab8 spec_foSwap.bits8 (fun HT_ HW_ => ?_)
        generalize w74.drew = w75 at HO261 HO264 HO267 HO270 HO284 BK257 BK258 BK272 HB hHeld ⊢
        refine Yp 1 (some 45) (YA 8 2) rfl HT_.out ?_
        refine Yp 2 (some 46) (YA 8 6) rfl HT_.out ?_
        refine Yp 5 (some 49) (YA 8 38) rfl HT_.out ?_
        refine Yt 0 (some 44) (YA 8 39) rfl HT_.out HW_.out hHeld Q3 ?_
        refine one_ (i := 3) (N := some 47) (YA 8 47) rfl rfl (one_of HT_.out (by kernel_rfl)) (by decide) (fun K hK => ?_)
        refine goes_ Try.func75 (by kernel_rfl) rfl #[.slice Ao76 t282.length co76] (by rfl) rfl rfl Q6 ?_
        with_reducible refine (spec_raInverse.calls k _ _ t282 t285 _ ?side1 ?side2 A56.out).mono ?_
        (case side1 => exact Yc (Kd.R_reads' HO284.out).2.2)
        (case side2 => exact (Kd.R_reads' HO284.out).2.1)
        rintro e w77 ⟨v286, rfl, ho0, hb⟩
        refine ⟨_, rfl, ?_⟩
        replace HO267 := Yw HO267 hb
        have HO287 := Yl (Kd.R_new' (Kd.R_new' (Kd.R_new' (Kd.R_new' ho0 (Z17 (Yr HO261.out))) (Z17 (Yr HO264.out))) (Z17 (Yr HO270.out))) (Z17 (Yr HO284.out)))
        replace HO261 := Ya (Kd.R_elder' (Yr HO261.out) (Kd.R_base ho0) hb)
        replace HO264 := Ya (Kd.R_elder' (Yr HO264.out) (Kd.R_base ho0) hb)
        replace HO270 := Ya (Kd.R_elder' (Yr HO270.out) (Kd.R_base ho0) hb)
        replace HO284 := Ya (Kd.R_elder' (Yr HO284.out) (Kd.R_base ho0) hb)
        replace BK257 := Yb BK257 hb
        replace BK258 := Yb BK258 hb
        replace BK272 := Yb BK272 hb
        replace HB := Yh hb
        (try clear hb ho0)
        obtain ⟨Ao78, co78, eo78⟩ := Z18 HO287.out
        (first | subst eo78 | (injection eo78 with f1_ f2_ f3_; have f4_ := f1_.symm; have f5_ := f3_.symm; clear f1_ f2_ f3_; subst f4_; subst f5_))
        refine hK.out _ _ ⟨(Z20 BK272.out 0).trans rfl, (Z20 BK272.out 1).trans rfl, (Z20 BK272.out 2).trans rfl, (Z20 BK272.out 3).trans rfl⟩ (fun hHeld => ?_)
        clear hK K
        refine norm_ (a' := ?_) ?_ ?_
        rotate_left
        ·show Act.put _ (some 47) _ = _
         simp only [Act.put, Z0, Z1, Z2, i64_w, i32_w]
         rfl
        refine Yp 4 (some 48) (YA 8 63) rfl HT_.out ?_
        refine one_ (i := 6) (N := none) (YA 8 127) rfl rfl (one_of HT_.out (by kernel_rfl)) (by decide) (fun K hK => ?_)
        have hs79 : w77.cell? ⟨gb258, 0, none⟩ = some (.slice none 0 0) := (Z20 BK258.out 0).trans rfl
        have hfs79 := Z21 BK258.out 0
        have hns79_0 := NB257_258.out
        have hns79_2 := NB272_258.out
        have hms79_0 := NB258_257.out
        have hms79_2 := NB258_272.out
        have hs80 : w77.cell? ⟨gb258, 1, none⟩ = some (.slice none 0 0) := (Z20 BK258.out 1).trans rfl
        have hfs80 := Z21 BK258.out 1
        have hns80_0 := NB257_258.out
        have hns80_2 := NB272_258.out
        have hms80_0 := NB258_257.out
        have hms80_2 := NB258_272.out
        have hs81 : w77.cell? ⟨gb258, 2, none⟩ = some (.slice none 0 0) := (Z20 BK258.out 2).trans rfl
        have hfs81 := Z21 BK258.out 2
        have hns81_0 := NB257_258.out
        have hns81_2 := NB272_258.out
        have hms81_0 := NB258_257.out
        have hms81_2 := NB258_272.out
        have hs82 : w77.cell? ⟨gb258, 3, none⟩ = some (.slice none 0 0) := (Z20 BK258.out 3).trans rfl
        have hfs82 := Z21 BK258.out 3
        have hns82_0 := NB257_258.out
        have hns82_2 := NB272_258.out
        have hms82_0 := NB258_257.out
        have hms82_2 := NB258_272.out
        have hs83 : w77.cell? ⟨gb258, 4, none⟩ = some (.slice none 0 0) := (Z20 BK258.out 4).trans rfl
        have hfs83 := Z21 BK258.out 4
        have hns83_0 := NB257_258.out
        have hns83_2 := NB272_258.out
        have hms83_0 := NB258_257.out
        have hms83_2 := NB258_272.out
        have hs84 : w77.cell? ⟨gb258, 5, none⟩ = some (.slice none 0 0) := (Z20 BK258.out 5).trans rfl
        have hfs84 := Z21 BK258.out 5
        have hns84_0 := NB257_258.out
        have hns84_2 := NB272_258.out
        have hms84_0 := NB258_257.out
        have hms84_2 := NB258_272.out
        refine skip_ (w1 := ?_) (by rfl) rfl ?_ ?_
        rotate_left
        ·go_simp
         rfl
        refine hK.out _ _ ⟨((cell_far (p := ⟨gb258, _, none⟩) NB272_258.out _).trans (((cell_far (p := ⟨gb258, _, none⟩) NB272_258.out _).trans (((cell_far (p := ⟨gb258, _, none⟩) NB272_258.out _).trans (((cell_far (p := ⟨gb258, _, none⟩) NB272_258.out _).trans (((cell_far (p := ⟨gb258, _, none⟩) NB272_258.out _).trans (((cell_far (p := ⟨gb258, _, none⟩) NB272_258.out _).trans (hHeld.1)))))))))))), ((cell_far (p := ⟨gb258, _, none⟩) NB272_258.out _).trans (((cell_far (p := ⟨gb258, _, none⟩) NB272_258.out _).trans (((cell_far (p := ⟨gb258, _, none⟩) NB272_258.out _).trans (((cell_far (p := ⟨gb258, _, none⟩) NB272_258.out _).trans (((cell_far (p := ⟨gb258, _, none⟩) NB272_258.out _).trans (((cell_far (p := ⟨gb258, _, none⟩) NB272_258.out _).trans (hHeld.2.1)))))))))))), ((cell_far (p := ⟨gb258, _, none⟩) NB272_258.out _).trans (((cell_far (p := ⟨gb258, _, none⟩) NB272_258.out _).trans (((cell_far (p := ⟨gb258, _, none⟩) NB272_258.out _).trans (((cell_far (p := ⟨gb258, _, none⟩) NB272_258.out _).trans (((cell_far (p := ⟨gb258, _, none⟩) NB272_258.out _).trans (((cell_far (p := ⟨gb258, _, none⟩) NB272_258.out _).trans (hHeld.2.2.1)))))))))))), ((cell_far (p := ⟨gb258, _, none⟩) NB272_258.out _).trans (((cell_far (p := ⟨gb258, _, none⟩) NB272_258.out _).trans (((cell_far (p := ⟨gb258, _, none⟩) NB272_258.out _).trans (((cell_far (p := ⟨gb258, _, none⟩) NB272_258.out _).trans (((cell_far (p := ⟨gb258, _, none⟩) NB272_258.out _).trans (((cell_far (p := ⟨gb258, _, none⟩) NB272_258.out _).trans (hHeld.2.2.2))))))))))))⟩ (fun hHeld => ?_)
        clear hK K
        refine Yp 7 (some 3) (YA 8 255) rfl HT_.out ?_
        refine done_ (done_of HT_.out (by kernel_rfl)) ?_
        try go_wp2
        refine bodyPost_ret (results_ct rfl _ _ gb258 35 #[.slice Ao63 t259.length co63, .slice (some ad274) t262.length co67, .slice Ao68 t265.length co68, .slice Ao69 t268.length co69, .slice Ao76 t282.length co76, .slice Ao78 t285.length co78] (0, 0) _ rfl (Yk (Yv6 BK258.out)) Try.underlying35 rfl (by kernel_rfl)) rfl ?_
        exact ⟨_, _, _, _, _, _, Q70, Q69, Q68, Q88, Q67, by (with_reducible repeat (first | apply Z8 | apply Z9 | apply Z10)); exact Z11 (Yf6 HO284.out BK258.out) (fun _ hk => ⟨hk.1.1.1.1.2, ⟨hk.1.1.1.2, ⟨hk.1.1.2, hk.1.2⟩⟩⟩), by (with_reducible repeat (first | apply Z8 | apply Z9 | apply Z10)); exact Z11 (Yf6 HO287.out BK258.out) (fun _ hk => ⟨hk.1.1.1.1.2, ⟨hk.1.1.1.2, ⟨hk.1.1.2, hk.1.2⟩⟩⟩), Q12⟩
      ·rw [if_neg c23] at H
       exact absurd H (by simp)
     ·rw [if_neg c22] at H
      exact absurd H (by simp)
    ·rw [if_neg c21] at H
     exact absurd H (by simp)
   ·rw [if_neg c20] at H
    exact absurd H (by simp)
  ·rw [if_neg c19] at H
   exact absurd H (by simp)
end Go.Proofs.Ytpfakdhfffehaaa.MFnExactIsSwapper
