/- Functions of the program as Lean functions, each with the proof that its call comes to just that: laid for this claim by this session's own program. -/
import Derived.Test.YtpfakdhfffehaaaMFnExactSwapperAtx0
namespace Go.Proofs.Ytpfakdhfffehaaa.MFnExactSwapperAt
open Go.RowKit Go.Proofs.YtpfakdhfffehaaaW.PrintWords Go.Proofs.YtpfakdhfffehaaaW.PrintLast Go.Proofs.YtpfakdhfffehaaaW.PrintMore
attribute [local go_sem] max2_int min2_int max_two min_two max_three min_three max_four min_four   -- for this text's walks alone
set_option linter.unusedVariables false
set_option linter.unusedSimpArgs false

/-! ### spec_l1In: function 44 -/
def spec_l1In.f (a0 : Int) (a1 : Int) (a2 : Int) : Option (Bool) := if a0 ≥ a1 then (some (decide (a0 ≤ a2))) else (some false)
set_option maxHeartbeats 8000000 in
set_option maxRecDepth 100000 in
theorem spec_l1In.calls (a0 : Int) (a1 : Int) (a2 : Int) (r : Bool) (w : World) (h : spec_l1In.f a0 a1 a2 = some r) :
  Calls Try.prog 44 #[.int .i64 a0, .int .i64 a1, .int .i64 a2] w fun e w' => e = .returned (.bool r) ∧ Drawn0 w w' := by
 have H : (if a0 ≥ a1 then (some (decide (a0 ≤ a2))) else (some false)) = some r := h
 clear h
 by_cases c4 : a0 ≥ a1
 ·rw [if_pos c4] at H
  have c4b0 : decide (a1 ≤ a0) = true := Z39 c4
  clear c4
  obtain rfl := Option.some.inj H
  go_enter Try.func44, Try.ntmps44
  go_wp2
  go_ret
  exact ⟨Q34, Q19⟩
 ·rw [if_neg c4] at H
  have c4b0 : decide (a1 ≤ a0) = false := Z38 c4
  clear c4
  obtain rfl := Option.some.inj H
  go_enter Try.func44, Try.ntmps44
  go_wp2
  go_ret
  exact ⟨Q34, Q19⟩

/-! ### spec_foSize: function 43 -/
def spec_foSize.f (a0 : Int) : Option (Bool) := (spec_l1In.f a0 1 7).bind fun t101 => (some t101)
set_option maxHeartbeats 8000000 in
set_option maxRecDepth 100000 in
theorem spec_foSize.calls (a0 : Int) (r : Bool) (w : World) (h : spec_foSize.f a0 = some r) :
  Calls Try.prog 43 #[.int .i64 a0] w fun e w' => e = .returned (.bool r) ∧ Drawn0 w w' := by
 have H : ((spec_l1In.f a0 1 7).bind fun t101 => (some t101)) = some r := h
 clear h
 replace H := Z37.mp H
 obtain ⟨t101, A20, H⟩ := H
 replace H : (some t101) = some r := H
 have A2 := Ya A20
 clear A20
 obtain rfl := Option.some.inj H
 go_enter Try.func43, Try.ntmps43
 go_wp2_with (first | ((with_reducible refine gate_callee (f := 44) rfl ?_); refine goesL_ (some 4) rfl rfl Try.func44 (by kernel_rfl) rfl #[.int .i64 a0, .int .i64 1, .int .i64 7] rfl Q1 ?_; (with_reducible refine (spec_l1In.calls a0 1 7 t101 _ A2.out).mono ?_); rintro e w' ⟨rfl, ⟨nd, rfl⟩⟩; refine ⟨_, rfl, ?_⟩))
 go_ret
 exact ⟨Q34, Q19⟩

/-! ### spec_raFactorial: function 45 -/
def spec_raFactorial.f : Nat → Int → Option (Int)
 | 0, _ => none
 | k + 1, a0 => if a0 = 0 then (some 1) else ((spec_raFactorial.f k (wrap64 (a0 - 1))).bind fun t102 => (some (wrap64 (a0 * t102))))
theorem spec_raFactorial.mono_l : ∀ k, (∀ y0, LeO (spec_raFactorial.f k y0) (spec_raFactorial.f (k + 1) y0))
 | 0 => fun _ r h => by simp [spec_raFactorial.f] at h
 | k + 1 => by
  have ih0 := spec_raFactorial.mono_l k
  ·intro y0
   unfold spec_raFactorial.f
   repeat' first
   | (with_reducible exact ih0 _)
   | (with_reducible exact LeO.refl _)
   | (with_reducible exact LeO.none _)
   | (with_reducible refine LeO.ite ?_ ?_)
   | (with_reducible refine LeO.bind ?_ (fun _ => ?_))
   | exact ih0 _
   | exact LeO.none _
   | refine LeO.ite ?_ ?_
   | refine LeO.bind ?_ (fun _ => ?_)
theorem spec_raFactorial.mono : ∀ a0 k, LeO (spec_raFactorial.f k a0) (spec_raFactorial.f (k + 1) a0) := by
 intro a0 k
 have ih0 := spec_raFactorial.mono_l k
 exact ih0 a0
set_option maxHeartbeats 8000000 in
set_option maxRecDepth 100000 in
theorem spec_raFactorial.calls (k : Nat) : ∀ (a0 : Int) (r : Int) (w : World) (h : spec_raFactorial.f k a0 = some r),
  Calls Try.prog 45 #[.int .i64 a0] w fun e w' => e = .returned (.int .i64 r) ∧ Drawn0 w w' := by
 induction k using Nat.strongRecOn with
 | _ k ih =>
 intro a0 r w h
 cases k with
 | zero => exact absurd h (by simp [spec_raFactorial.f])
 | succ k =>
 simp only [spec_raFactorial.f] at h
 have H : (if a0 = 0 then (some 1) else ((spec_raFactorial.f k (wrap64 (a0 - 1))).bind fun t102 => (some (wrap64 (a0 * t102))))) = some r := h
 clear h
 by_cases c2 : a0 = 0
 ·rw [if_pos c2] at H
  have c2b0 : (a0 == 0) = true := beq_iff_eq.mpr c2
  have c2b1 : (a0 != 0) = false := bne_eq_false_iff_eq.mpr c2
  clear c2
  obtain rfl := Option.some.inj H
  go_enter Try.func45, Try.ntmps45
  go_wp2
  go_ret
  exact ⟨Q34, Q19⟩
 ·rw [if_neg c2] at H
  have c2b0 : (a0 == 0) = false := beq_eq_false_iff_ne.mpr c2
  have c2b1 : (a0 != 0) = true := bne_iff_ne.mpr c2
  replace H := Z37.mp H
  obtain ⟨t102, A30, H⟩ := H
  replace H : (some (wrap64 (a0 * t102))) = some r := H
  have A3 := Ya A30
  clear A30
  obtain rfl := Option.some.inj H
  go_enter Try.func45, Try.ntmps45
  go_wp2_with (first | ((with_reducible refine gate_callee (f := 45) rfl ?_); refine goesL_ (some 8) rfl rfl Try.func45 (by kernel_rfl) rfl #[.int .i64 (wrap64 (a0 - 1))] rfl Q1 ?_; (with_reducible refine (ih k (by omega) (wrap64 (a0 - 1)) t102 _ A3.out).mono ?_); rintro e w' ⟨rfl, ⟨nd, rfl⟩⟩; refine ⟨_, rfl, ?_⟩))
  go_ret
  exact ⟨Q34, Q19⟩

/-! ### spec_l1Own: function 79 -/
def spec_l1Own.f (l0 : List Int) : Option (List Int) := (some (([] : List Int) : List Int)).bind fun y103 => (if y103.length + l0.length < 17592186044416 then (some (y103 ++ l0)) else (none))
set_option maxHeartbeats 8000000 in
set_option maxRecDepth 100000 in
theorem spec_l1Own.calls (A0 : Option Addr) (c0 : Nat) (l0 : List Int) (r : List Int) (w : World) (hr0 : Kd.C (Kd.int .i64) w A0 l0.length l0) (hc0 : l0.length ≤ c0) (h : spec_l1Own.f l0 = some r) :
  Calls Try.prog 79 #[.slice A0 l0.length c0] w fun e w' => ∃ v0_ : Value, e = .returned (v0_) ∧ Kd.R (Kd.int .i64) 3 w' w.heap.size (fun _ => True) v0_ r ∧ Below w.heap.size w w' := by
 have HR0 := Ya hr0
 have HC0 := Ya hc0
 clear hr0 hc0
 have HB := Ya (Below.refl w.heap.size w)
 have H : ((some (([] : List Int) : List Int)).bind fun y103 => (if y103.length + l0.length < 17592186044416 then (some (y103 ++ l0)) else (none))) = some r := h
 clear h
 obtain ⟨y103, hy103⟩ : ∃ y_ : List Int, y_ = (([] : List Int)) := ⟨_, rfl⟩
 replace H : (if y103.length + l0.length < 17592186044416 then (some (y103 ++ l0)) else (none)) = some r := by first | (rw [hy103]; with_reducible exact H) | (have H2_ := (Option.bind_some _ _).symm.trans H; rw [hy103]; with_reducible exact H2_) | (have H2_ := (Option.bind_some _ _).symm.trans H; with_reducible exact H2_) | with_reducible exact H | (rw [hy103]; exact H) | exact H
 have Ny103 := Ya hy103
 clear hy103
 by_cases c2 : y103.length + l0.length < 17592186044416
 ·rw [if_pos c2] at H
  have LMc2 := Ya c2
  clear c2
  obtain ⟨y106, hy106⟩ : ∃ y_ : List Int, y_ = (y103 ++ l0) := ⟨_, rfl⟩
  replace H : (some y106) = some r := by first | (rw [hy106]; with_reducible exact H) | (have H2_ := (Option.bind_some _ _).symm.trans H; rw [hy106]; with_reducible exact H2_) | (have H2_ := (Option.bind_some _ _).symm.trans H; with_reducible exact H2_) | with_reducible exact H | (rw [hy106]; exact H) | exact H
  have Ny106 := Ya hy106
  clear hy106
  obtain rfl := Option.some.inj H
  go_enter Try.func79, Try.ntmps79
  go_wp2_with (first | ((with_reducible refine gate_dst (N := 3) rfl ?_); refine Kd.R_lit (Kd.int .i64) _ 3 ?hg (N := 3) ?hd (xs := ([] : List Int)) (inner := []) (ok := fun _ => True) (okp := fun _ => True) ?hr ?hp (fun _ hk => hk) trivial (Below.refl _ _) (Nat.le_refl _) (by simp) ?_; (case hd => rfl); (case hg => rfl); (case hr => first | (go_simp; done) | (go_simp; rfl)); (case hp => exact (Reps.none _ _)); intro v104 w3 ho4 hb hg_ hnew_; clear hg_ hnew_; (first | rw [← Ny103.out] at ho4 | (simp only [Int.reduceToNat] at ho4; rw [← Ny103.out] at ho4)); have HO105 := Ya (Kd.R_lower ho4 (Z7 Q0)); replace HB := Ya (Z8 Q0 hb); clear hb ho4) | ((with_reducible refine gate_builtin (b := .append) (xs := #[.tmp 3, .tmp 4]) rfl ?_); at_builtin; refine Kd.R_append_rows (Kd.int .i64) (w0 := w) w.heap.size rfl (.tmp 3) (.tmp 4) 22 3 (.int .i64 0) 8 rfl Try.underlying22 info3 rfl (by decide) (by omega) v104 y103 l0 _ _ _ (fun _ => True) (fun _ => False) rfl rfl ?aO ?aR (fun _ _ h => h) (fun _ h => h.elim) ?aF ?aB ?aS ?aL ?_; (case aR => repeat (first | exact (Z23 HR0.out HB.out) | (with_reducible refine Z20 ?_ _) | (with_reducible refine Z21 ?_ _) | (with_reducible refine Z22 ?_))); (case aB => exact Q0); (case aF => exact (fun _ _ => trivial)); (case aO => exact (Yr HO105.out)); (case aS => exact (Z7 Q0)); (case aL => have := LMc2.out; omega); intro v107 w5 ho hb hg hat; rw [← Ny106.out] at ho; replace HB := Ya hb; have HO108 := Ya ho; clear HO105; clear ho hb hg hat))
  go_ret
  exact ⟨_, Q9, by (with_reducible repeat (first | apply Z9 | apply Z10 | apply Z11)); exact HO108.out, Q18⟩
 ·rw [if_neg c2] at H
  exact absurd H (by simp)

/-! ### spec_foOwn: function 63 -/
def spec_foOwn.f (l0_0 : List Int) (l0_1 : List Int) (l0_2 : List Bool) (l0_3 : List Int) : Option (List Int × List Int × List Bool × List Int) := (spec_l1Own.f l0_0).bind fun t111 => ((spec_l1Own.f l0_1).bind fun t114 => ((some (([] : List Bool) : List Bool)).bind fun y117 => (if y117.length + l0_2.length < 140737488355328 then ((spec_l1Own.f l0_3).bind fun t123 => (some (t111, t114, (y117 ++ l0_2), t123))) else (none))))
def spec_foOwn.T1 : Bool × List (List Nat × List Nat) := (true, [([], []), ([0], [0]), ([1], [1]), ([], []), ([3], [3]), ([4, 2], [4]), ([], []), ([], []), ([7], [7]), ([6, 8, 5], [6, 8]), ([], []), ([10], [10]), ([11, 9], [11]), ([2, 5, 9, 12], [2, 5, 9, 12]), ([13, 12, 0, 1, 2, 3, 4, 5, 6, 7, 8, 9, 10, 11, 12, 13], [13])])
def spec_foOwn.B1 : List Nat := [0, 1, 3, 0, 8, 31, 0, 0, 128, 511, 0, 1024, 4095, 8191, 16383]
theorem spec_foOwn.tab1 : rtab .any (opsOf Try.f63 1) = spec_foOwn.T1 := by kernel_rfl
theorem spec_foOwn.bits1 : waitsOk spec_foOwn.T1.2 spec_foOwn.B1 = true := by kernel_rfl
set_option maxHeartbeats 8000000 in
set_option maxRecDepth 100000 in
theorem spec_foOwn.calls (A0_0 : Option Addr) (c0_0 : Nat) (l0_0 : List Int) (A0_1 : Option Addr) (c0_1 : Nat) (l0_1 : List Int) (A0_2 : Option Addr) (c0_2 : Nat) (l0_2 : List Bool) (A0_3 : Option Addr) (c0_3 : Nat) (l0_3 : List Int) (r1 : List Int) (r2 : List Int) (r3 : List Bool) (r4 : List Int) (w : World) (hr0_0 : Kd.C (Kd.int .i64) w A0_0 l0_0.length l0_0) (hc0_0 : l0_0.length ≤ c0_0) (hr0_1 : Kd.C (Kd.int .i64) w A0_1 l0_1.length l0_1) (hc0_1 : l0_1.length ≤ c0_1) (hr0_2 : Kd.C Kd.bool w A0_2 l0_2.length l0_2) (hc0_2 : l0_2.length ≤ c0_2) (hr0_3 : Kd.C (Kd.int .i64) w A0_3 l0_3.length l0_3) (hc0_3 : l0_3.length ≤ c0_3) (h : spec_foOwn.f l0_0 l0_1 l0_2 l0_3 = some (r1, r2, r3, r4)) :
  Calls Try.prog 63 #[.agg #[.slice A0_0 l0_0.length c0_0, .slice A0_1 l0_1.length c0_1, .slice A0_2 l0_2.length c0_2, .slice A0_3 l0_3.length c0_3]] w fun e w' => ∃ v0_ v1_ v2_ v3_ : Value, e = .returned (.agg #[v0_, v1_, v2_, v3_]) ∧ Kd.R (Kd.int .i64) 3 w' w.heap.size (fun k_ => some k_ ≠ (v1_ : Value).ownBlock ∧ some k_ ≠ (v3_ : Value).ownBlock) v0_ r1 ∧ Kd.R (Kd.int .i64) 3 w' w.heap.size (fun k_ => some k_ ≠ (v0_ : Value).ownBlock ∧ some k_ ≠ (v3_ : Value).ownBlock) v1_ r2 ∧ Kd.R Kd.bool 4 w' w.heap.size (fun _ => True) v2_ r3 ∧ Kd.R (Kd.int .i64) 3 w' w.heap.size (fun k_ => some k_ ≠ (v0_ : Value).ownBlock ∧ some k_ ≠ (v1_ : Value).ownBlock) v3_ r4 ∧ Below w.heap.size w w' := by
 have hu27 := Try.underlying27
 have HR0_0 := Ya hr0_0
 have HC0_0 := Ya hc0_0
 clear hr0_0 hc0_0
 have HR0_1 := Ya hr0_1
 have HC0_1 := Ya hc0_1
 clear hr0_1 hc0_1
 have HR0_2 := Ya hr0_2
 have HC0_2 := Ya hc0_2
 clear hr0_2 hc0_2
 have HR0_3 := Ya hr0_3
 have HC0_3 := Ya hc0_3
 clear hr0_3 hc0_3
 have HB := Ya (Below.refl w.heap.size w)
 have H : ((spec_l1Own.f l0_0).bind fun t111 => ((spec_l1Own.f l0_1).bind fun t114 => ((some (([] : List Bool) : List Bool)).bind fun y117 => (if y117.length + l0_2.length < 140737488355328 then ((spec_l1Own.f l0_3).bind fun t123 => (some (t111, t114, (y117 ++ l0_2), t123))) else (none))))) = some (r1, r2, r3, r4) := h
 clear h
 replace H := Z37.mp H
 obtain ⟨t111, A20, H⟩ := H
 replace H : ((spec_l1Own.f l0_1).bind fun t114 => ((some (([] : List Bool) : List Bool)).bind fun y117 => (if y117.length + l0_2.length < 140737488355328 then ((spec_l1Own.f l0_3).bind fun t123 => (some (t111, t114, (y117 ++ l0_2), t123))) else (none)))) = some (r1, r2, r3, r4) := H
 have A2 := Ya A20
 clear A20
 replace H := Z37.mp H
 obtain ⟨t114, A30, H⟩ := H
 replace H : ((some (([] : List Bool) : List Bool)).bind fun y117 => (if y117.length + l0_2.length < 140737488355328 then ((spec_l1Own.f l0_3).bind fun t123 => (some (t111, t114, (y117 ++ l0_2), t123))) else (none))) = some (r1, r2, r3, r4) := H
 have A3 := Ya A30
 clear A30
 obtain ⟨y117, hy117⟩ : ∃ y_ : List Bool, y_ = (([] : List Bool)) := ⟨_, rfl⟩
 replace H : (if y117.length + l0_2.length < 140737488355328 then ((spec_l1Own.f l0_3).bind fun t123 => (some (t111, t114, (y117 ++ l0_2), t123))) else (none)) = some (r1, r2, r3, r4) := by first | (rw [hy117]; with_reducible exact H) | (have H2_ := (Option.bind_some _ _).symm.trans H; rw [hy117]; with_reducible exact H2_) | (have H2_ := (Option.bind_some _ _).symm.trans H; with_reducible exact H2_) | with_reducible exact H | (rw [hy117]; exact H) | exact H
 have Ny117 := Ya hy117
 clear hy117
 by_cases c4 : y117.length + l0_2.length < 140737488355328
 ·rw [if_pos c4] at H
  have LMc4 := Ya c4
  clear c4
  obtain ⟨y120, hy120⟩ : ∃ y_ : List Bool, y_ = (y117 ++ l0_2) := ⟨_, rfl⟩
  replace H : ((spec_l1Own.f l0_3).bind fun t123 => (some (t111, t114, y120, t123))) = some (r1, r2, r3, r4) := by first | (rw [hy120]; with_reducible exact H) | (have H2_ := (Option.bind_some _ _).symm.trans H; rw [hy120]; with_reducible exact H2_) | (have H2_ := (Option.bind_some _ _).symm.trans H; with_reducible exact H2_) | with_reducible exact H | (rw [hy120]; exact H) | exact H
  have Ny120 := Ya hy120
  clear hy120
  replace H := Z37.mp H
  obtain ⟨t123, A50, H⟩ := H
  replace H : (some (t111, t114, y120, t123)) = some (r1, r2, r3, r4) := H
  have A5 := Ya A50
  clear A50
  simp only [Option.some.injEq, Prod.mk.injEq] at H
  obtain ⟨rfl, rfl, rfl, rfl⟩ := H
  go_enter Try.func63, Try.ntmps63
  try go_wp2_with (first | ((with_reducible refine gate_dst (N := 1) rfl ?_); refine Yx 1 #[.slice A0_0 l0_0.length c0_0, .slice A0_1 l0_1.length c0_1, .slice A0_2 l0_2.length c0_2, .slice A0_3 l0_3.length c0_3] 27 ?_; intro gb109 hg w6 hbox hb; have BK109 := Ya hbox; have GW109 := Yg hg Q0; have GE109 := GW109; replace HB := Ya (Z8 Q0 hb); clear hb hbox hg) | ((with_reducible refine gate_dst (N := 2) rfl ?_); refine Yx 2 #[.slice none 0 0, .slice none 0 0, .slice none 0 0, .slice none 0 0] 27 ?_; intro gb110 hg w7 hbox hb; have BK110 := Ya hbox; have GW110 := Yg hg Q80; have GE110 := GW110; replace HB := Ya (Z8 Q80 hb); have NB109_110 := Yn BK109 hg; have NB110_109 := Ym BK109 hg; replace BK109 := Yb BK109 hb; clear hb hbox hg))
  replace BK109 := Ya (Z27 BK109.out)
  replace BK110 := Ya (Z27 BK110.out)
  replace HB := Ya (Z4 HB.out)
  refine start_ (n := 15) (S := fun w' => w'.cell? ⟨gb109, 0, none⟩ = some (.slice A0_0 l0_0.length c0_0) ∧ w'.cell? ⟨gb109, 1, none⟩ = some (.slice A0_1 l0_1.length c0_1) ∧ w'.cell? ⟨gb109, 2, none⟩ = some (.slice A0_2 l0_2.length c0_2) ∧ w'.cell? ⟨gb109, 3, none⟩ = some (.slice A0_3 l0_3.length c0_3)) (ds := []) (YA 15 0) (by kernel_rfl) rfl rfl ⟨(Z24 BK109.out 0).trans rfl, (Z24 BK109.out 1).trans rfl, (Z24 BK109.out 2).trans rfl, (Z24 BK109.out 3).trans rfl⟩ (fun hHeld => ?_); refine with_tabW spec_foOwn.tab1 spec_foOwn.bits1 (fun HT_ HW_ => ?_)
  generalize w7.drew = w8 at BK109 BK110 HB hHeld ⊢
  refine Yp 0 (some 3) (YA 15 1) rfl HT_.out ?_
  refine Yp 3 (some 6) (YA 15 9) rfl HT_.out ?_
  refine Yp 7 (some 10) (YA 15 137) rfl HT_.out ?_
  refine Yp 10 (some 13) (YA 15 1161) rfl HT_.out ?_
  refine Yt 1 (some 4) (YA 15 1163) rfl HT_.out HW_.out hHeld Q10 ?_
  refine Yt 4 (some 7) (YA 15 1179) rfl HT_.out HW_.out hHeld Q10 ?_
  refine Yt 8 (some 11) (YA 15 1435) rfl HT_.out HW_.out hHeld Q10 ?_
  refine Yt 11 (some 14) (YA 15 3483) rfl HT_.out HW_.out hHeld Q10 ?_
  refine join_ (σ := Value × Value × Value) 4 (YA 15 3583) (fun s_ => [(5, s_.1), (8, s_.2.1), (9, s_.2.2)]) (fun s_ w' => (w'.cell? ⟨gb109, 0, none⟩ = some (.slice A0_0 l0_0.length c0_0) ∧ w'.cell? ⟨gb109, 1, none⟩ = some (.slice A0_1 l0_1.length c0_1) ∧ w'.cell? ⟨gb109, 2, none⟩ = some (.slice A0_2 l0_2.length c0_2) ∧ w'.cell? ⟨gb109, 3, none⟩ = some (.slice A0_3 l0_3.length c0_3)) ∧ (Kd.R (Kd.int .i64) 3 w' w.heap.size (fun k_ => some k_ ≠ (s_.2.1 : Value).ownBlock) s_.1 t111) ∧ (Kd.R (Kd.int .i64) 3 w' w.heap.size (fun k_ => some k_ ≠ (s_.1 : Value).ownBlock) s_.2.1 t114) ∧ (Kd.R Kd.bool 4 w' w.heap.size (fun _ => True) s_.2.2 y117) ∧ (w'.heap[gb109]? = some (.cells #[.slice A0_0 l0_0.length c0_0, .slice A0_1 l0_1.length c0_1, .slice A0_2 l0_2.length c0_2, .slice A0_3 l0_3.length c0_3] 27 (0, 0))) ∧ (w'.heap[gb110]? = some (.cells #[.slice none 0 0, .slice none 0 0, .slice none 0 0, .slice none 0 0] 27 (0, 0))) ∧ (Below w.heap.size w w')) ?_ ?_
  rotate_left
  ·intro hCont
   refine two_ (i := 2) (j := 6) (Ni := some 5) (Nj := some 9) (YA 15 3487) (YA 15 3547) rfl rfl rfl rfl (two_of HT_.out (by kernel_rfl)) (by decide) (by decide) (fun K hK => ?_) (fun K hK => ?_)
   ·skip
    refine goes_ Try.func79 (by kernel_rfl) rfl #[.slice A0_0 l0_0.length c0_0] (by rfl) rfl rfl Q1 ?_
    with_reducible refine (spec_l1Own.calls _ _ l0_0 t111 _ ?side1 ?side2 A2.out).mono ?_
    (case side1 => exact Yc (Z23 HR0_0.out HB.out))
    (case side2 => exact HC0_0.out)
    rintro e w9 ⟨v112, rfl, ho0, hb⟩
    refine ⟨_, rfl, ?_⟩
    have HO113 := Ya (Kd.R_lower ho0 (Z7 Q11))
    replace BK109 := Yb BK109 hb
    replace BK110 := Yb BK110 hb
    replace HB := Ya (Z8 Q11 hb)
    (try clear hb)
    (try clear hb2)
    (try clear hk)
    (try clear hi)
    (try clear ho0)
    refine hK.out _ _ ⟨(Z24 BK109.out 0).trans rfl, (Z24 BK109.out 1).trans rfl, (Z24 BK109.out 2).trans rfl, (Z24 BK109.out 3).trans rfl⟩ (fun hHeld => ?_)
    clear hK K
    refine norm_ (a' := ?_) ?_ ?_
    rotate_left
    ·show Act.put _ (some 5) _ = _
     simp only [Act.put, Z0, Z1, Z2, i64_w, i32_w]
     rfl
    refine two_ (i := 5) (j := 6) (Ni := some 8) (Nj := some 9) (YA 15 3519) (YA 15 3551) rfl rfl rfl rfl (two_of HT_.out (by kernel_rfl)) (by decide) (by decide) (fun K hK => ?_) (fun K hK => ?_)
    ·skip
     refine goes_ Try.func79 (by kernel_rfl) rfl #[.slice A0_1 l0_1.length c0_1] (by rfl) rfl rfl Q1 ?_
     with_reducible refine (spec_l1Own.calls _ _ l0_1 t114 _ ?side1 ?side2 A3.out).mono ?_
     (case side1 => exact Yc (Z23 HR0_1.out HB.out))
     (case side2 => exact HC0_1.out)
     rintro e w10 ⟨v115, rfl, ho0, hb⟩
     refine ⟨_, rfl, ?_⟩
     have HO116 := Ya (Kd.R_lower (Kd.R_new' ho0 (Z18 (Yr HO113.out))) (Z7 Q11))
     replace HO113 := Ya (Kd.R_elder' (Yr HO113.out) (Kd.R_base ho0) hb)
     replace BK109 := Yb BK109 hb
     replace BK110 := Yb BK110 hb
     replace HB := Ya (Z8 Q11 hb)
     (try clear hb)
     (try clear hb2)
     (try clear hk)
     (try clear hi)
     (try clear ho0)
     refine hK.out _ _ ⟨(Z24 BK109.out 0).trans rfl, (Z24 BK109.out 1).trans rfl, (Z24 BK109.out 2).trans rfl, (Z24 BK109.out 3).trans rfl⟩ (fun hHeld => ?_)
     clear hK K
     refine norm_ (a' := ?_) ?_ ?_
     rotate_left
     ·show Act.put _ (some 8) _ = _
      simp only [Act.put, Z0, Z1, Z2, i64_w, i32_w]
      rfl
     refine one_ (i := 6) (N := some 9) (YA 15 3583) rfl rfl (one_of HT_.out (by kernel_rfl)) (by decide) (fun K hK => ?_)
     refine Kd.R_lit_step Kd.bool _ 4 ?hg (N := 9) ?hd (xs := ([] : List Bool)) (inner := []) (ok := fun _ => True) (okp := fun _ => True) ?hr ?hp (fun _ hk => hk) trivial (Below.refl _ _) (Nat.le_refl _) (by simp) ?_; (case hd => rfl); (case hg => rfl); (case hr => first | (go_simp; done) | (go_simp; rfl)); (case hp => exact (Reps.none _ _))
     intro v118 w11 ho12 hb hg_ hnew_
     clear hg_ hnew_
     (first | rw [← Ny117.out] at ho12 | (simp only [Int.reduceToNat] at ho12; rw [← Ny117.out] at ho12))
     replace HO113 := Ya (Z14 (Yr HO113.out) hb)
     replace HO116 := Ya (Z14 (Yr HO116.out) hb)
     have HO119 := Ya (Kd.R_lower ho12 (Z7 Q11))
     replace BK109 := Yb BK109 hb
     replace BK110 := Yb BK110 hb
     replace HB := Ya (Z8 Q11 hb)
     clear hb ho12
     refine hK.out _ _ ⟨(Z24 BK109.out 0).trans rfl, (Z24 BK109.out 1).trans rfl, (Z24 BK109.out 2).trans rfl, (Z24 BK109.out 3).trans rfl⟩ (fun hHeld => ?_)
     clear hK K
     refine norm_ (a' := ?_) ?_ ?_
     rotate_left
     ·show Act.put _ (some 9) _ = _
      simp only [Act.put, Z0, Z1, Z2, i64_w, i32_w]
      rfl
     exact norm_ (by simp only [putAll, Act.put, Z0, Z1, Z2]) (hCont (v112, v115, v118) _ ⟨hHeld, Q72, Q71, (Yr HO119.out), (Yk BK109.out), (Yk BK110.out), Q11⟩)
    ·skip
     refine Kd.R_lit_step Kd.bool _ 4 ?hg (N := 9) ?hd (xs := ([] : List Bool)) (inner := []) (ok := fun _ => True) (okp := fun _ => True) ?hr ?hp (fun _ hk => hk) trivial (Below.refl _ _) (Nat.le_refl _) (by simp) ?_; (case hd => rfl); (case hg => rfl); (case hr => first | (go_simp; done) | (go_simp; rfl)); (case hp => exact (Reps.none _ _))
     intro v118 w10 ho11 hb hg_ hnew_
     clear hg_ hnew_
     (first | rw [← Ny117.out] at ho11 | (simp only [Int.reduceToNat] at ho11; rw [← Ny117.out] at ho11))
     replace HO113 := Ya (Z14 (Yr HO113.out) hb)
     have HO119 := Ya (Kd.R_lower ho11 (Z7 Q11))
     replace BK109 := Yb BK109 hb
     replace BK110 := Yb BK110 hb
     replace HB := Ya (Z8 Q11 hb)
     clear hb ho11
     refine hK.out _ _ ⟨(Z24 BK109.out 0).trans rfl, (Z24 BK109.out 1).trans rfl, (Z24 BK109.out 2).trans rfl, (Z24 BK109.out 3).trans rfl⟩ (fun hHeld => ?_)
     clear hK K
     refine norm_ (a' := ?_) ?_ ?_
     rotate_left
     ·show Act.put _ (some 9) _ = _
      simp only [Act.put, Z0, Z1, Z2, i64_w, i32_w]
      rfl
     refine one_ (i := 5) (N := some 8) (YA 15 3583) rfl rfl (one_of HT_.out (by kernel_rfl)) (by decide) (fun K hK => ?_)
     refine goes_ Try.func79 (by kernel_rfl) rfl #[.slice A0_1 l0_1.length c0_1] (by rfl) rfl rfl Q1 ?_
     with_reducible refine (spec_l1Own.calls _ _ l0_1 t114 _ ?side1 ?side2 A3.out).mono ?_
     (case side1 => exact Yc (Z23 HR0_1.out HB.out))
     (case side2 => exact HC0_1.out)
     rintro e w12 ⟨v115, rfl, ho0, hb⟩
     refine ⟨_, rfl, ?_⟩
     replace HO119 := Ya (Z14 (Yr HO119.out) hb)
     have HO116 := Ya (Kd.R_lower (Kd.R_new' ho0 (Z18 (Yr HO113.out))) (Z7 Q11))
     replace HO113 := Ya (Kd.R_elder' (Yr HO113.out) (Kd.R_base ho0) hb)
     replace BK109 := Yb BK109 hb
     replace BK110 := Yb BK110 hb
     replace HB := Ya (Z8 Q11 hb)
     (try clear hb)
     (try clear hb2)
     (try clear hk)
     (try clear hi)
     (try clear ho0)
     refine hK.out _ _ ⟨(Z24 BK109.out 0).trans rfl, (Z24 BK109.out 1).trans rfl, (Z24 BK109.out 2).trans rfl, (Z24 BK109.out 3).trans rfl⟩ (fun hHeld => ?_)
     clear hK K
     refine norm_ (a' := ?_) ?_ ?_
     rotate_left
     ·show Act.put _ (some 8) _ = _
      simp only [Act.put, Z0, Z1, Z2, i64_w, i32_w]
      rfl
     exact norm_ (by simp only [putAll, Act.put, Z0, Z1, Z2]) (hCont (v112, v115, v118) _ ⟨hHeld, Q72, Q71, (Yr HO119.out), (Yk BK109.out), (Yk BK110.out), Q11⟩)
   ·skip
    refine Kd.R_lit_step Kd.bool _ 4 ?hg (N := 9) ?hd (xs := ([] : List Bool)) (inner := []) (ok := fun _ => True) (okp := fun _ => True) ?hr ?hp (fun _ hk => hk) trivial (Below.refl _ _) (Nat.le_refl _) (by simp) ?_; (case hd => rfl); (case hg => rfl); (case hr => first | (go_simp; done) | (go_simp; rfl)); (case hp => exact (Reps.none _ _))
    intro v118 w9 ho10 hb hg_ hnew_
    clear hg_ hnew_
    (first | rw [← Ny117.out] at ho10 | (simp only [Int.reduceToNat] at ho10; rw [← Ny117.out] at ho10))
    have HO119 := Ya (Kd.R_lower ho10 (Z7 Q11))
    replace BK109 := Yb BK109 hb
    replace BK110 := Yb BK110 hb
    replace HB := Ya (Z8 Q11 hb)
    clear hb ho10
    refine hK.out _ _ ⟨(Z24 BK109.out 0).trans rfl, (Z24 BK109.out 1).trans rfl, (Z24 BK109.out 2).trans rfl, (Z24 BK109.out 3).trans rfl⟩ (fun hHeld => ?_)
    clear hK K
    refine norm_ (a' := ?_) ?_ ?_
    rotate_left
    ·show Act.put _ (some 9) _ = _
     simp only [Act.put, Z0, Z1, Z2, i64_w, i32_w]
     rfl
    refine one_ (i := 2) (N := some 5) (YA 15 3551) rfl rfl (one_of HT_.out (by kernel_rfl)) (by decide) (fun K hK => ?_)
    refine goes_ Try.func79 (by kernel_rfl) rfl #[.slice A0_0 l0_0.length c0_0] (by rfl) rfl rfl Q1 ?_
    with_reducible refine (spec_l1Own.calls _ _ l0_0 t111 _ ?side1 ?side2 A2.out).mono ?_
    (case side1 => exact Yc (Z23 HR0_0.out HB.out))
    (case side2 => exact HC0_0.out)
    rintro e w11 ⟨v112, rfl, ho0, hb⟩
    refine ⟨_, rfl, ?_⟩
    replace HO119 := Ya (Z14 (Yr HO119.out) hb)
    have HO113 := Ya (Kd.R_lower ho0 (Z7 Q11))
    replace BK109 := Yb BK109 hb
    replace BK110 := Yb BK110 hb
    replace HB := Ya (Z8 Q11 hb)
    (try clear hb)
    (try clear hb2)
    (try clear hk)
    (try clear hi)
    (try clear ho0)
    refine hK.out _ _ ⟨(Z24 BK109.out 0).trans rfl, (Z24 BK109.out 1).trans rfl, (Z24 BK109.out 2).trans rfl, (Z24 BK109.out 3).trans rfl⟩ (fun hHeld => ?_)
    clear hK K
    refine norm_ (a' := ?_) ?_ ?_
    rotate_left
    ·show Act.put _ (some 5) _ = _
     simp only [Act.put, Z0, Z1, Z2, i64_w, i32_w]
     rfl
    refine one_ (i := 5) (N := some 8) (YA 15 3583) rfl rfl (one_of HT_.out (by kernel_rfl)) (by decide) (fun K hK => ?_)
    refine goes_ Try.func79 (by kernel_rfl) rfl #[.slice A0_1 l0_1.length c0_1] (by rfl) rfl rfl Q1 ?_
    with_reducible refine (spec_l1Own.calls _ _ l0_1 t114 _ ?side1 ?side2 A3.out).mono ?_
    (case side1 => exact Yc (Z23 HR0_1.out HB.out))
    (case side2 => exact HC0_1.out)
    rintro e w12 ⟨v115, rfl, ho0, hb⟩
    refine ⟨_, rfl, ?_⟩
    replace HO119 := Ya (Z14 (Yr HO119.out) hb)
    have HO116 := Ya (Kd.R_lower (Kd.R_new' ho0 (Z18 (Yr HO113.out))) (Z7 Q11))
    replace HO113 := Ya (Kd.R_elder' (Yr HO113.out) (Kd.R_base ho0) hb)
    replace BK109 := Yb BK109 hb
    replace BK110 := Yb BK110 hb
    replace HB := Ya (Z8 Q11 hb)
    (try clear hb)
    (try clear hb2)
    (try clear hk)
    (try clear hi)
    (try clear ho0)
    refine hK.out _ _ ⟨(Z24 BK109.out 0).trans rfl, (Z24 BK109.out 1).trans rfl, (Z24 BK109.out 2).trans rfl, (Z24 BK109.out 3).trans rfl⟩ (fun hHeld => ?_)
    clear hK K
    refine norm_ (a' := ?_) ?_ ?_
    rotate_left
    ·show Act.put _ (some 8) _ = _
     simp only [Act.put, Z0, Z1, Z2, i64_w, i32_w]
     rfl
    exact norm_ (by simp only [putAll, Act.put, Z0, Z1, Z2]) (hCont (v112, v115, v118) _ ⟨hHeld, Q72, Q71, (Yr HO119.out), (Yk BK109.out), (Yk BK110.out), Q11⟩)
  rintro ⟨v112, v115, v118⟩ w13 ⟨hS_, h0_, h1_, h2_, h3_, h4_, h5_⟩
  have HO113 : Aside0 (Kd.R (Kd.int .i64) 3 w13 w.heap.size (fun k_ => some k_ ≠ (v115 : Value).ownBlock) v112 t111) := ⟨h0_⟩
  have HO116 : Aside0 (Kd.R (Kd.int .i64) 3 w13 w.heap.size (fun k_ => some k_ ≠ (v112 : Value).ownBlock) v115 t114) := ⟨h1_⟩
  have HO119 : Aside0 (Kd.R Kd.bool 4 w13 w.heap.size (fun _ => True) v118 y117) := ⟨h2_⟩
  replace BK109 : Aside0 (w13.heap[gb109]? = some (.cells #[.slice A0_0 l0_0.length c0_0, .slice A0_1 l0_1.length c0_1, .slice A0_2 l0_2.length c0_2, .slice A0_3 l0_3.length c0_3] 27 (0, 0))) := ⟨h3_⟩
  replace BK110 : Aside0 (w13.heap[gb110]? = some (.cells #[.slice none 0 0, .slice none 0 0, .slice none 0 0, .slice none 0 0] 27 (0, 0))) := ⟨h4_⟩
  replace HB : Aside0 (Below w.heap.size w w13) := ⟨h5_⟩
  clear h0_ h1_ h2_ h3_ h4_ h5_
  have hHeld : w13.cell? ⟨gb109, 0, none⟩ = some (.slice A0_0 l0_0.length c0_0) ∧ w13.cell? ⟨gb109, 1, none⟩ = some (.slice A0_1 l0_1.length c0_1) ∧ w13.cell? ⟨gb109, 2, none⟩ = some (.slice A0_2 l0_2.length c0_2) ∧ w13.cell? ⟨gb109, 3, none⟩ = some (.slice A0_3 l0_3.length c0_3) := hS_
  refine norm_ (a' := ?_) ?_ ?_
  rotate_left
  ·simp only [putAll, Act.put, Z0, Z1, Z2]
   rfl
  refine one_ (i := 9) (N := some 12) (YA 15 4095) rfl rfl (one_of HT_.out (by kernel_rfl)) (by decide) (fun K hK => ?_)
  refine Kd.R_append_rows_step Kd.bool (w0 := w) w.heap.size (by rfl) (.tmp 9) (.tmp 11) 23 4 (.bool false) 1 rfl Try.underlying23 info4 rfl (by decide) (by omega) v118 y117 l0_2 _ _ _ (fun _ => True) (fun _ => False) rfl rfl ?aO ?aR (fun _ _ h => h) (fun _ h => h.elim) ?aF ?aB ?aS ?aL ?_
  (case aR => repeat (first | exact (Z23 HR0_2.out HB.out) | (with_reducible refine Z20 ?_ _) | (with_reducible refine Z21 ?_ _) | (with_reducible refine Z22 ?_)))
  (case aB => exact Q11)
  (case aF => exact (fun _ _ => trivial))
  (case aO => exact (Yr HO119.out))
  (case aS => exact (Z7 Q11))
  (case aL => have := LMc4.out; omega)
  intro v121 w14 ho hb hg hat
  rw [← Ny120.out] at ho
  replace BK109 := Ya (blk_grown (g := gb109) (o := .cells #[.slice A0_0 l0_0.length c0_0, .slice A0_1 l0_1.length c0_1, .slice A0_2 l0_2.length c0_2, .slice A0_3 l0_3.length c0_3] 27 (0, 0)) (Yk BK109.out) hg (Kd.R_ne HO119.out BK109.out (by decide)))
  replace BK110 := Ya (blk_grown (g := gb110) (o := .cells #[.slice none 0 0, .slice none 0 0, .slice none 0 0, .slice none 0 0] 27 (0, 0)) (Yk BK110.out) hg (Kd.R_ne HO119.out BK110.out (by decide)))
  replace HO113 := Ya (Kd.R_over' (Yr HO113.out) (Kd.R_typed (Yr HO119.out)) (by decide) hg)
  replace HO116 := Ya (Kd.R_over' (Yr HO116.out) (Kd.R_typed (Yr HO119.out)) (by decide) hg)
  replace HB := Ya hb
  have HO122 := Ya ho
  clear HO119
  clear ho hb hg hat
  refine hK.out _ _ ⟨(Z24 BK109.out 0).trans rfl, (Z24 BK109.out 1).trans rfl, (Z24 BK109.out 2).trans rfl, (Z24 BK109.out 3).trans rfl⟩ (fun hHeld => ?_)
  clear hK K
  refine norm_ (a' := ?_) ?_ ?_
  rotate_left
  ·show Act.put _ (some 12) _ = _
   simp only [Act.put, Z0, Z1, Z2, i64_w, i32_w]
   rfl
  refine one_ (i := 12) (N := some 15) (YA 15 8191) rfl rfl (one_of HT_.out (by kernel_rfl)) (by decide) (fun K hK => ?_)
  refine goes_ Try.func79 (by kernel_rfl) rfl #[.slice A0_3 l0_3.length c0_3] (by rfl) rfl rfl Q1 ?_
  with_reducible refine (spec_l1Own.calls _ _ l0_3 t123 _ ?side1 ?side2 A5.out).mono ?_
  (case side1 => exact Yc (Z23 HR0_3.out HB.out))
  (case side2 => exact HC0_3.out)
  rintro e w15 ⟨v124, rfl, ho0, hb⟩
  refine ⟨_, rfl, ?_⟩
  replace HO122 := Ya (Z14 (Yr HO122.out) hb)
  have HO125 := Ya (Kd.R_lower (Kd.R_new' (Kd.R_new' ho0 (Z18 (Yr HO113.out))) (Z18 (Yr HO116.out))) (Z7 Q11))
  replace HO113 := Ya (Kd.R_elder' (Yr HO113.out) (Kd.R_base ho0) hb)
  replace HO116 := Ya (Kd.R_elder' (Yr HO116.out) (Kd.R_base ho0) hb)
  replace BK109 := Yb BK109 hb
  replace BK110 := Yb BK110 hb
  replace HB := Ya (Z8 Q11 hb)
  (try clear hb)
  (try clear hb2)
  (try clear hk)
  (try clear hi)
  (try clear ho0)
  obtain ⟨Ao16, co16, eo16⟩ := Z19 HO125.out
  (first | subst eo16 | (injection eo16 with f1_ f2_ f3_; have f4_ := f1_.symm; have f5_ := f3_.symm; clear f1_ f2_ f3_; subst f4_; subst f5_))
  obtain ⟨Ao17, co17, eo17⟩ := Z19 HO122.out
  (first | subst eo17 | (injection eo17 with f1_ f2_ f3_; have f4_ := f1_.symm; have f5_ := f3_.symm; clear f1_ f2_ f3_; subst f4_; subst f5_))
  obtain ⟨Ao18, co18, eo18⟩ := Z19 HO116.out
  (first | subst eo18 | (injection eo18 with f1_ f2_ f3_; have f4_ := f1_.symm; have f5_ := f3_.symm; clear f1_ f2_ f3_; subst f4_; subst f5_))
  obtain ⟨Ao19, co19, eo19⟩ := Z19 HO113.out
  (first | subst eo19 | (injection eo19 with f1_ f2_ f3_; have f4_ := f1_.symm; have f5_ := f3_.symm; clear f1_ f2_ f3_; subst f4_; subst f5_))
  refine hK.out _ _ ⟨(Z24 BK109.out 0).trans rfl, (Z24 BK109.out 1).trans rfl, (Z24 BK109.out 2).trans rfl, (Z24 BK109.out 3).trans rfl⟩ (fun hHeld => ?_)
  clear hK K
  refine norm_ (a' := ?_) ?_ ?_
  rotate_left
  ·show Act.put _ (some 15) _ = _
   simp only [Act.put, Z0, Z1, Z2, i64_w, i32_w]
   rfl
  refine Yp 13 (some 16) (YA 15 16383) rfl HT_.out ?_
  refine one_ (i := 14) (N := none) (YA 15 32767) rfl rfl (one_of HT_.out (by kernel_rfl)) (by decide) (fun K hK => ?_)
  have hs20 : w15.cell? ⟨gb110, 0, none⟩ = some (.slice none 0 0) := (Z24 BK110.out 0).trans rfl
  have hfs20 := Z25 BK110.out 0
  have hns20_0 := NB109_110.out
  have hms20_0 := NB110_109.out
  have hs21 : w15.cell? ⟨gb110, 1, none⟩ = some (.slice none 0 0) := (Z24 BK110.out 1).trans rfl
  have hfs21 := Z25 BK110.out 1
  have hns21_0 := NB109_110.out
  have hms21_0 := NB110_109.out
  have hs22 : w15.cell? ⟨gb110, 2, none⟩ = some (.slice none 0 0) := (Z24 BK110.out 2).trans rfl
  have hfs22 := Z25 BK110.out 2
  have hns22_0 := NB109_110.out
  have hms22_0 := NB110_109.out
  have hs23 : w15.cell? ⟨gb110, 3, none⟩ = some (.slice none 0 0) := (Z24 BK110.out 3).trans rfl
  have hfs23 := Z25 BK110.out 3
  have hns23_0 := NB109_110.out
  have hms23_0 := NB110_109.out
  refine skip_ (w1 := ?_) (by rfl) rfl ?_ ?_
  rotate_left
  ·go_simp
   rfl
  refine hK.out _ _ ⟨((cell_far (p := ⟨gb110, _, none⟩) NB109_110.out _).trans (((cell_far (p := ⟨gb110, _, none⟩) NB109_110.out _).trans (((cell_far (p := ⟨gb110, _, none⟩) NB109_110.out _).trans (((cell_far (p := ⟨gb110, _, none⟩) NB109_110.out _).trans (hHeld.1)))))))), ((cell_far (p := ⟨gb110, _, none⟩) NB109_110.out _).trans (((cell_far (p := ⟨gb110, _, none⟩) NB109_110.out _).trans (((cell_far (p := ⟨gb110, _, none⟩) NB109_110.out _).trans (((cell_far (p := ⟨gb110, _, none⟩) NB109_110.out _).trans (hHeld.2.1)))))))), ((cell_far (p := ⟨gb110, _, none⟩) NB109_110.out _).trans (((cell_far (p := ⟨gb110, _, none⟩) NB109_110.out _).trans (((cell_far (p := ⟨gb110, _, none⟩) NB109_110.out _).trans (((cell_far (p := ⟨gb110, _, none⟩) NB109_110.out _).trans (hHeld.2.2.1)))))))), ((cell_far (p := ⟨gb110, _, none⟩) NB109_110.out _).trans (((cell_far (p := ⟨gb110, _, none⟩) NB109_110.out _).trans (((cell_far (p := ⟨gb110, _, none⟩) NB109_110.out _).trans (((cell_far (p := ⟨gb110, _, none⟩) NB109_110.out _).trans (hHeld.2.2.2))))))))⟩ (fun hHeld => ?_)
  clear hK K
  refine done_ (done_of HT_.out (by kernel_rfl)) ?_
  try go_wp2
  refine bodyPost_ret (results_cell_row rfl _ _ gb110 27 #[.slice Ao19 t111.length co19, .slice Ao18 t114.length co18, .slice Ao17 y120.length co17, .slice Ao16 t123.length co16] (0, 0) _ rfl (by (with_reducible repeat (first | refine Z26 ?_ _ | refine Z27 ?_ | refine Z28 ?_ _)); refine Z30 (cs := #[.slice Ao19 t111.length co19, .slice Ao18 t114.length co18, .slice Ao17 y120.length co17, .slice none 0 0]) ?_ 3 _ rfl; (with_reducible repeat (first | refine Z26 ?_ _ | refine Z27 ?_ | refine Z28 ?_ _)); refine Z30 (cs := #[.slice Ao19 t111.length co19, .slice Ao18 t114.length co18, .slice none 0 0, .slice none 0 0]) ?_ 2 _ rfl; (with_reducible repeat (first | refine Z26 ?_ _ | refine Z27 ?_ | refine Z28 ?_ _)); refine Z30 (cs := #[.slice Ao19 t111.length co19, .slice none 0 0, .slice none 0 0, .slice none 0 0]) ?_ 1 _ rfl; (with_reducible repeat (first | refine Z26 ?_ _ | refine Z27 ?_ | refine Z28 ?_ _)); refine Z30 (cs := #[.slice none 0 0, .slice none 0 0, .slice none 0 0, .slice none 0 0]) ?_ 0 _ rfl; (with_reducible repeat (first | refine Z26 ?_ _ | refine Z27 ?_ | refine Z28 ?_ _)); exact BK110.out) Try.underlying27 rfl (by kernel_rfl)) rfl ?_
  exact ⟨_, _, _, _, Q9, by (with_reducible repeat (first | apply Z9 | apply Z10 | apply Z11)); exact Z12 (Z13 (p := ⟨gb110, 3, none⟩) (Z13 (p := ⟨gb110, 2, none⟩) (Z13 (p := ⟨gb110, 1, none⟩) (Z13 (p := ⟨gb110, 0, none⟩) (Z15 HO113.out BK110.out (by decide)) (fun _ hk => hk.2) (.slice Ao19 t111.length co19)) (fun _ hk => hk.2) (.slice Ao18 t114.length co18)) (fun _ hk => hk.2) (.slice Ao17 y120.length co17)) (fun _ hk => hk.2) (.slice Ao16 t123.length co16)) (fun _ hk => ⟨hk.1.1, hk.1.2⟩), by (with_reducible repeat (first | apply Z9 | apply Z10 | apply Z11)); exact Z12 (Z13 (p := ⟨gb110, 3, none⟩) (Z13 (p := ⟨gb110, 2, none⟩) (Z13 (p := ⟨gb110, 1, none⟩) (Z13 (p := ⟨gb110, 0, none⟩) (Z15 HO116.out BK110.out (by decide)) (fun _ hk => hk.2) (.slice Ao19 t111.length co19)) (fun _ hk => hk.2) (.slice Ao18 t114.length co18)) (fun _ hk => hk.2) (.slice Ao17 y120.length co17)) (fun _ hk => hk.2) (.slice Ao16 t123.length co16)) (fun _ hk => ⟨hk.1.1, hk.1.2⟩), by (with_reducible repeat (first | apply Z9 | apply Z10 | apply Z11)); exact Z12 (Z13 (p := ⟨gb110, 3, none⟩) (Z13 (p := ⟨gb110, 2, none⟩) (Z13 (p := ⟨gb110, 1, none⟩) (Z13 (p := ⟨gb110, 0, none⟩) (Z15 HO122.out BK110.out (by decide)) (fun _ hk => hk.2) (.slice Ao19 t111.length co19)) (fun _ hk => hk.2) (.slice Ao18 t114.length co18)) (fun _ hk => hk.2) (.slice Ao17 y120.length co17)) (fun _ hk => hk.2) (.slice Ao16 t123.length co16)) (fun _ hk => trivial), by (with_reducible repeat (first | apply Z9 | apply Z10 | apply Z11)); exact Z12 (Z13 (p := ⟨gb110, 3, none⟩) (Z13 (p := ⟨gb110, 2, none⟩) (Z13 (p := ⟨gb110, 1, none⟩) (Z13 (p := ⟨gb110, 0, none⟩) (Z15 HO125.out BK110.out (by decide)) (fun _ hk => hk.2) (.slice Ao19 t111.length co19)) (fun _ hk => hk.2) (.slice Ao18 t114.length co18)) (fun _ hk => hk.2) (.slice Ao17 y120.length co17)) (fun _ hk => hk.2) (.slice Ao16 t123.length co16)) (fun _ hk => ⟨hk.1.1.2, hk.1.2⟩), by repeat (first | (with_reducible first | exact HB.out | apply Z5 | apply Z3 | apply Z4 | refine Z6 ?_ GE109.out | refine Z6 ?_ GE110.out) | exact HB.out)⟩
 ·rw [if_neg c4] at H
  exact absurd H (by simp)

end Go.Proofs.Ytpfakdhfffehaaa.MFnExactSwapperAt
