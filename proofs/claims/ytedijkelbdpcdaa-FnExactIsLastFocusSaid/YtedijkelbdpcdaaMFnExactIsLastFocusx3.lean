import Derived.Test.YtedijkelbdpcdaaMFnExactIsLastFocusx0
import Derived.Test.YtedijkelbdpcdaaMFnExactIsLastFocusx2
namespace Go.Proofs.Ytedijkelbdpcdaa.MFnExactIsLastFocus
open Go.RowKit Go.Proofs.YtedijkelbdpcdaaW.PrintWords Go.Proofs.YtedijkelbdpcdaaW.PrintLast Go.Proofs.YtedijkelbdpcdaaW.PrintMore
attribute [local go_sem] max2_int min2_int max_two min_two max_three min_three max_four min_four   
set_option linter.unusedVariables false
set_option linter.unusedSimpArgs false
def spec_raAreDigits.l0 : Nat → List Int → List Int → Int → Int → Option (Bool)
 | 0, _, _, _, _ => none
 | k + 1, x0, x12, x13, x14 => if x14 < x13 then (if 0 ≤ x14 then (if x14 < (x12.length : Int) then (if x14 < (x0.length : Int) then ((spec_l1In.f (rd x12 x14) 0 (wrap64 ((rd x0 x14) - 1))).bind fun t158 => (if t158 = true then (spec_raAreDigits.l0 k x0 x12 x13 (wrap64 (x14 + 1))) else (some false))) else (none)) else (none)) else (none)) else (some true)
def spec_raAreDigits.f (k : Nat) (l0 : List Int) (l1 : List Int) : Option (Bool) := if (l1.length : Int) = (l0.length : Int) then (spec_raAreDigits.l0 k l0 l1 (l1.length : Int) 0) else (some false)
theorem spec_raAreDigits.mono_l : ∀ k, (∀ y0 y1 y2 y3, LeO (spec_raAreDigits.l0 k y0 y1 y2 y3) (spec_raAreDigits.l0 (k + 1) y0 y1 y2 y3))
 | 0 => fun _ _ _ _ r h => by simp [spec_raAreDigits.l0] at h
 | k + 1 => by
  have ih0 := spec_raAreDigits.mono_l k
  ·intro y0 y1 y2 y3
   unfold spec_raAreDigits.l0
   repeat' first
   | (with_reducible exact ih0 _ _ _ _)
   | (with_reducible exact LeO.refl _)
   | (with_reducible exact LeO.none _)
   | (with_reducible refine LeO.ite ?_ ?_)
   | (with_reducible refine LeO.bind ?_ (fun _ => ?_))
   | exact ih0 _ _ _ _
   | exact LeO.none _
   | refine LeO.ite ?_ ?_
   | refine LeO.bind ?_ (fun _ => ?_)
theorem spec_raAreDigits.mono : ∀ a0 a1 k, LeO (spec_raAreDigits.f k a0 a1) (spec_raAreDigits.f (k + 1) a0 a1) := by
 intro a0 a1 k
 have ih0 := spec_raAreDigits.mono_l k
 unfold spec_raAreDigits.f
 repeat' first
   | (with_reducible exact ih0 _ _ _ _)
   | (with_reducible exact LeO.refl _)
   | (with_reducible exact LeO.none _)
   | (with_reducible refine LeO.ite ?_ ?_)
   | (with_reducible refine LeO.bind ?_ (fun _ => ?_))
   | exact ih0 _ _ _ _
   | exact LeO.none _
   | refine LeO.ite ?_ ?_
   | refine LeO.bind ?_ (fun _ => ?_)
set_option maxHeartbeats 8000000 in
set_option maxRecDepth 100000 in
theorem spec_raAreDigits.calls (k : Nat) (A0 : Option Addr) (c0 : Nat) (l0 : List Int) (A1 : Option Addr) (c1 : Nat) (l1 : List Int) (r : Bool) (w : World) (hr0 : Kd.C (Kd.int .i64) w A0 l0.length l0) (hc0 : l0.length ≤ c0) (hr1 : Kd.C (Kd.int .i64) w A1 l1.length l1) (hc1 : l1.length ≤ c1) (h : spec_raAreDigits.f k l0 l1 = some r) :
  Calls Try.prog 74 #[.slice A0 l0.length c0, .slice A1 l1.length c1] w fun e w' => e = .returned (.bool r) ∧ Drawn0 w w' := by
 have HR0 := Aside0.mk hr0
 have HC0 := Aside0.mk hc0
 clear hr0 hc0
 have HR1 := Aside0.mk hr1
 have HC1 := Aside0.mk hc1
 clear hr1 hc1
 have H : (if (l1.length : Int) = (l0.length : Int) then (spec_raAreDigits.l0 k l0 l1 (l1.length : Int) 0) else (some false)) = some r := h
 clear h
 by_cases c3 : (l1.length : Int) = (l0.length : Int)
 ·rw [if_pos c3] at H
  have c3b0 : ((l1.length : Int) == (l0.length : Int)) = true := beq_iff_eq.mpr c3
  have c3b1 : ((l1.length : Int) != (l0.length : Int)) = false := bne_eq_false_iff_eq.mpr c3
  have c3b2 : (l1.length == l0.length) = true := by first | simpa using c3 | (simp at c3 ⊢; omega)
  clear c3
  have H' := Aside0.mk H
  clear H
  go_enter Try.func74, Try.ntmps74
  go_wp2
  go_loopg [14] k (fun kq v14 w' => ∃ (x14_1 : Int), v14 = .int .i64 x14_1 ∧ Aside0 (spec_raAreDigits.l0 kq l0 l1 (l1.length : Int) x14_1 = some r) ∧ Aside0 (kq ≤ k) ∧ Drawn0 w w')
  case atStart => exact ⟨(0), (by first | rfl | (simp; done) | (simp [*]; done)), H', ⟨Nat.le_refl _⟩, by repeat (first | exact Drawn0.refl _ | apply Drawn0.step)⟩
  case round =>
   clear H'
   try clear c1
   try clear p2
   try clear c3
   try clear c3b0
   try clear c3b1
   try clear c3b2
   obtain ⟨x14_1, rfl, HA, HK1, ⟨m1, rfl⟩⟩ := hrel
   cases gk with
   | zero => exact absurd HA.out (by simp [spec_raAreDigits.l0])
   | succ k1 =>
    have H := HA.out
    clear HA
    simp only [spec_raAreDigits.l0] at H
    by_cases c4 : x14_1 < (l1.length : Int)
    ·rw [if_pos c4] at H
     have c4b0 : decide (x14_1 < (l1.length : Int)) = true := Z39 c4
     clear c4
     by_cases c5 : 0 ≤ x14_1
     ·rw [if_pos c5] at H
      have c5b0 : decide (0 ≤ x14_1) = true := Z39 c5
      clear c5
      by_cases c6 : x14_1 < (l1.length : Int)
      ·rw [if_pos c6] at H
       have c6b0 : decide (x14_1 < (l1.length : Int)) = true := Z39 c6
       clear c6
       by_cases c7 : x14_1 < (l0.length : Int)
       ·rw [if_pos c7] at H
        have c7b0 : decide (x14_1 < (l0.length : Int)) = true := Z39 c7
        clear c7
        replace H := Z37.mp H
        obtain ⟨t158, A80, H⟩ := H
        replace H : (if t158 = true then (spec_raAreDigits.l0 k1 l0 l1 (l1.length : Int) (wrap64 (x14_1 + 1))) else (some false)) = some r := H
        have A8 := Aside0.mk A80
        clear A80
        by_cases c9 : t158 = true
        ·subst c9
         have H1 : (spec_raAreDigits.l0 k1 l0 l1 (l1.length : Int) (wrap64 (x14_1 + 1))) = some r := by rw [if_pos rfl] at H; exact H
         clear H
         have H := H1
         clear H1
         have H' := Aside0.mk H
         clear H
         have p156 : 0 ≤ (x14_1 : Int) := Z31 (by first | (with_reducible assumption) | assumption)
         have q156 : x14_1 < (l1.length : Int) := Z31 (by first | (with_reducible assumption) | assumption)
         obtain ⟨ad156, e156, hx156_0⟩ := Kd.at_int HR1.out x14_1 p156 q156
         cases e156
         replace p156 := eq_true p156
         replace q156 := eq_true q156
         have p157 : 0 ≤ (x14_1 : Int) := Z31 (by first | (with_reducible assumption) | assumption)
         have q157 : x14_1 < (l0.length : Int) := Z31 (by first | (with_reducible assumption) | assumption)
         obtain ⟨ad157, e157, hx157_0⟩ := Kd.at_int HR0.out x14_1 p157 q157
         cases e157
         replace p157 := eq_true p157
         replace q157 := eq_true q157
         go_wp2_with (first | ((with_reducible refine gate_callee (f := 62) rfl ?_); refine goesL_ (some 25) rfl rfl Try.func62 (by kernel_rfl) rfl #[.int .i64 (rd l1 x14_1), .int .i64 0, .int .i64 (wrap64 ((rd l0 x14_1) - 1))] rfl (by (try simp only [Z34, Z35, Z36]); first | done | rfl | (simp only [Z32, Z33]; rfl)) ?_; (with_reducible refine (spec_l1In.calls (rd l1 x14_1) 0 (wrap64 ((rd l0 x14_1) - 1)) true _ A8.out).mono ?_); rintro e w' ⟨rfl, ⟨nd, rfl⟩⟩; refine ⟨_, rfl, ?_⟩))
         go_roundg k1
         case measure => have := HK1.out; omega
         case rel => exact ⟨(wrap64 (x14_1 + 1)), (by first | rfl | (simp; done) | (simp [*]; done)), H', ⟨by have := HK1.out; omega⟩, by repeat (first | exact Drawn0.refl _ | apply Drawn0.step)⟩
        ·replace c9 := Bool.eq_false_iff.mpr c9
         subst c9
         have H1 : (some false) = some r := by rw [if_neg (show ¬ (false = true) by decide)] at H; exact H
         clear H
         have H := H1
         clear H1
         obtain rfl := Option.some.inj H
         have p156 : 0 ≤ (x14_1 : Int) := Z31 (by first | (with_reducible assumption) | assumption)
         have q156 : x14_1 < (l1.length : Int) := Z31 (by first | (with_reducible assumption) | assumption)
         obtain ⟨ad156, e156, hx156_0⟩ := Kd.at_int HR1.out x14_1 p156 q156
         cases e156
         replace p156 := eq_true p156
         replace q156 := eq_true q156
         have p157 : 0 ≤ (x14_1 : Int) := Z31 (by first | (with_reducible assumption) | assumption)
         have q157 : x14_1 < (l0.length : Int) := Z31 (by first | (with_reducible assumption) | assumption)
         obtain ⟨ad157, e157, hx157_0⟩ := Kd.at_int HR0.out x14_1 p157 q157
         cases e157
         replace p157 := eq_true p157
         replace q157 := eq_true q157
         go_wp2_with (first | ((with_reducible refine gate_callee (f := 62) rfl ?_); refine goesL_ (some 25) rfl rfl Try.func62 (by kernel_rfl) rfl #[.int .i64 (rd l1 x14_1), .int .i64 0, .int .i64 (wrap64 ((rd l0 x14_1) - 1))] rfl (by (try simp only [Z34, Z35, Z36]); first | done | rfl | (simp only [Z32, Z33]; rfl)) ?_; (with_reducible refine (spec_l1In.calls (rd l1 x14_1) 0 (wrap64 ((rd l0 x14_1) - 1)) false _ A8.out).mono ?_); rintro e w' ⟨rfl, ⟨nd, rfl⟩⟩; refine ⟨_, rfl, ?_⟩))
         go_ret
         exact ⟨by first | rfl | (simp; done) | (simp [*]; done), by repeat (first | exact Drawn0.refl _ | apply Drawn0.step)⟩
       ·rw [if_neg c7] at H
        exact absurd H (by simp)
      ·rw [if_neg c6] at H
       exact absurd H (by simp)
     ·rw [if_neg c5] at H
      exact absurd H (by simp)
    ·rw [if_neg c4] at H
     have c4b0 : decide (x14_1 < (l1.length : Int)) = false := Z38 c4
     clear c4
     obtain rfl := Option.some.inj H
     go_wp2
     go_ret
     exact ⟨by first | rfl | (simp; done) | (simp [*]; done), by repeat (first | exact Drawn0.refl _ | apply Drawn0.step)⟩
 ·rw [if_neg c3] at H
  have c3b0 : ((l1.length : Int) == (l0.length : Int)) = false := beq_eq_false_iff_ne.mpr c3
  have c3b1 : ((l1.length : Int) != (l0.length : Int)) = true := bne_iff_ne.mpr c3
  have c3b2 : (l1.length == l0.length) = false := by first | simpa using c3 | (simp at c3 ⊢; omega)
  obtain rfl := Option.some.inj H
  go_enter Try.func74, Try.ntmps74
  go_wp2
  go_ret
  exact ⟨by first | rfl | (simp; done) | (simp [*]; done), by repeat (first | exact Drawn0.refl _ | apply Drawn0.step)⟩
def spec_l1Own.f (l0 : List Int) : Option (List Int) := (some (([] : List Int) : List Int)).bind fun y159 => (if y159.length + l0.length < 17592186044416 then (some (y159 ++ l0)) else (none))
set_option maxHeartbeats 8000000 in
set_option maxRecDepth 100000 in
theorem spec_l1Own.calls (A0 : Option Addr) (c0 : Nat) (l0 : List Int) (r : List Int) (w : World) (hr0 : Kd.C (Kd.int .i64) w A0 l0.length l0) (hc0 : l0.length ≤ c0) (h : spec_l1Own.f l0 = some r) :
  Calls Try.prog 95 #[.slice A0 l0.length c0] w fun e w' => ∃ v0_ : Value, e = .returned (v0_) ∧ Kd.R (Kd.int .i64) 3 w' w.heap.size (fun _ => True) v0_ r ∧ Below w.heap.size w w' := by
 have HR0 := Aside0.mk hr0
 have HC0 := Aside0.mk hc0
 clear hr0 hc0
 have HB := Aside0.mk (Below.refl w.heap.size w)
 have H : ((some (([] : List Int) : List Int)).bind fun y159 => (if y159.length + l0.length < 17592186044416 then (some (y159 ++ l0)) else (none))) = some r := h
 clear h
 obtain ⟨y159, hy159⟩ : ∃ y_ : List Int, y_ = (([] : List Int)) := ⟨_, rfl⟩
 replace H : (if y159.length + l0.length < 17592186044416 then (some (y159 ++ l0)) else (none)) = some r := by first | (rw [hy159]; with_reducible exact H) | (have H2_ := (Option.bind_some _ _).symm.trans H; rw [hy159]; with_reducible exact H2_) | (have H2_ := (Option.bind_some _ _).symm.trans H; with_reducible exact H2_) | with_reducible exact H | (rw [hy159]; exact H) | exact H
 have Ny159 := Aside0.mk hy159
 clear hy159
 by_cases c2 : y159.length + l0.length < 17592186044416
 ·rw [if_pos c2] at H
  have LMc2 := Aside0.mk c2
  clear c2
  obtain ⟨y162, hy162⟩ : ∃ y_ : List Int, y_ = (y159 ++ l0) := ⟨_, rfl⟩
  replace H : (some y162) = some r := by first | (rw [hy162]; with_reducible exact H) | (have H2_ := (Option.bind_some _ _).symm.trans H; rw [hy162]; with_reducible exact H2_) | (have H2_ := (Option.bind_some _ _).symm.trans H; with_reducible exact H2_) | with_reducible exact H | (rw [hy162]; exact H) | exact H
  have Ny162 := Aside0.mk hy162
  clear hy162
  obtain rfl := Option.some.inj H
  go_enter Try.func95, Try.ntmps95
  go_wp2_with (first | ((with_reducible refine gate_dst (N := 3) rfl ?_); refine Kd.R_lit (Kd.int .i64) _ 3 ?hg (N := 3) ?hd (xs := ([] : List Int)) (inner := []) (ok := fun _ => True) (okp := fun _ => True) ?hr ?hp (fun _ hk => hk) trivial (Below.refl _ _) (Nat.le_refl _) (by simp) ?_; (case hd => rfl); (case hg => rfl); (case hr => first | (go_simp; done) | (go_simp; rfl)); (case hp => exact (Reps.none _ _)); intro v160 w3 ho4 hb hg_ hnew_; clear hg_ hnew_; (first | rw [← Ny159.out] at ho4 | (simp only [Int.reduceToNat] at ho4; rw [← Ny159.out] at ho4)); have n0_ := Aside0.mk (Kd.R_lower ho4 (Z7 (by repeat (first | (with_reducible first | exact HB.out | apply Z5 | apply Z3 | apply Z4) | exact HB.out)))); have n1_ := Aside0.mk (Z8 (by repeat (first | (with_reducible first | exact HB.out | apply Z5 | apply Z3 | apply Z4) | exact HB.out)) hb); clear HB; have HO161 := n0_; have HB := n1_; clear n0_ n1_; clear hb ho4) | ((with_reducible refine gate_builtin (b := .append) (xs := #[.tmp 3, .tmp 4]) rfl ?_); at_builtin; refine Kd.R_append_rows (Kd.int .i64) (w0 := w) w.heap.size rfl (.tmp 3) (.tmp 4) 22 3 (.int .i64 0) 8 rfl Try.underlying22 info3 rfl (by decide) (by omega) v160 y159 l0 _ _ _ (fun _ => True) (fun _ => False) rfl rfl ?aO ?aR (fun _ _ h => h) (fun _ h => h.elim) ?aF ?aB ?aS ?aL ?_; (case aR => repeat (first | exact (Z23 HR0.out HB.out) | (with_reducible refine Z20 ?_ _) | (with_reducible refine Z21 ?_ _) | (with_reducible refine Z22 ?_))); (case aB => exact (by repeat (first | (with_reducible first | exact HB.out | apply Z5 | apply Z3 | apply Z4) | exact HB.out))); (case aF => exact (fun _ _ => trivial)); (case aO => exact (by (with_reducible repeat (first | apply Z9 | apply Z10 | apply Z11)); exact HO161.out)); (case aS => exact (Z7 (by repeat (first | (with_reducible first | exact HB.out | apply Z5 | apply Z3 | apply Z4) | exact HB.out)))); (case aL => have := LMc2.out; omega); intro v163 w5 ho hb hg hat; rw [← Ny162.out] at ho; have n0_ := Aside0.mk (hb); have n1_ := Aside0.mk (ho); clear HB; clear HO161; have HB := n0_; have HO164 := n1_; clear n0_ n1_; clear ho hb hg hat))
  go_ret
  exact ⟨_, by first | rfl | (simp [errW_none, errW_some] <;> rfl) | (simp [*, errW_none, errW_some] <;> rfl), by (with_reducible repeat (first | apply Z9 | apply Z10 | apply Z11)); exact HO164.out, by repeat (first | (with_reducible first | exact HB.out | apply Z5 | apply Z3 | apply Z4) | exact HB.out)⟩
 ·rw [if_neg c2] at H
  exact absurd H (by simp)
def spec_foOwn.f (l0_0 : List Int) (l0_1 : List Int) (l0_2 : List Bool) (l0_3 : List Int) : Option (List Int × List Int × List Bool × List Int) := (spec_l1Own.f l0_0).bind fun t167 => ((spec_l1Own.f l0_1).bind fun t170 => ((some (([] : List Bool) : List Bool)).bind fun y173 => (if y173.length + l0_2.length < 140737488355328 then ((spec_l1Own.f l0_3).bind fun t179 => (some (t167, t170, (y173 ++ l0_2), t179))) else (none))))
def spec_foOwn.T1 : Bool × List (List Nat × List Nat) := (true, [([], []), ([0], [0]), ([1], [1]), ([], []), ([3], [3]), ([4, 2], [4]), ([], []), ([], []), ([7], [7]), ([6, 8, 5], [6, 8]), ([], []), ([10], [10]), ([11, 9], [11]), ([2, 5, 9, 12], [2, 5, 9, 12]), ([13, 12, 0, 1, 2, 3, 4, 5, 6, 7, 8, 9, 10, 11, 12, 13], [13])])
def spec_foOwn.B1 : List Nat := [0, 1, 3, 0, 8, 31, 0, 0, 128, 511, 0, 1024, 4095, 8191, 16383]
theorem spec_foOwn.tab1 : rtab .any (opsOf Try.f83 1) = spec_foOwn.T1 := by kernel_rfl
theorem spec_foOwn.bits1 : waitsOk spec_foOwn.T1.2 spec_foOwn.B1 = true := by kernel_rfl
set_option maxHeartbeats 8000000 in
set_option maxRecDepth 100000 in
theorem spec_foOwn.calls (A0_0 : Option Addr) (c0_0 : Nat) (l0_0 : List Int) (A0_1 : Option Addr) (c0_1 : Nat) (l0_1 : List Int) (A0_2 : Option Addr) (c0_2 : Nat) (l0_2 : List Bool) (A0_3 : Option Addr) (c0_3 : Nat) (l0_3 : List Int) (r1 : List Int) (r2 : List Int) (r3 : List Bool) (r4 : List Int) (w : World) (hr0_0 : Kd.C (Kd.int .i64) w A0_0 l0_0.length l0_0) (hc0_0 : l0_0.length ≤ c0_0) (hr0_1 : Kd.C (Kd.int .i64) w A0_1 l0_1.length l0_1) (hc0_1 : l0_1.length ≤ c0_1) (hr0_2 : Kd.C Kd.bool w A0_2 l0_2.length l0_2) (hc0_2 : l0_2.length ≤ c0_2) (hr0_3 : Kd.C (Kd.int .i64) w A0_3 l0_3.length l0_3) (hc0_3 : l0_3.length ≤ c0_3) (h : spec_foOwn.f l0_0 l0_1 l0_2 l0_3 = some (r1, r2, r3, r4)) :
  Calls Try.prog 83 #[.agg #[.slice A0_0 l0_0.length c0_0, .slice A0_1 l0_1.length c0_1, .slice A0_2 l0_2.length c0_2, .slice A0_3 l0_3.length c0_3]] w fun e w' => ∃ v0_ v1_ v2_ v3_ : Value, e = .returned (.agg #[v0_, v1_, v2_, v3_]) ∧ Kd.R (Kd.int .i64) 3 w' w.heap.size (fun k_ => some k_ ≠ (v1_ : Value).ownBlock ∧ some k_ ≠ (v3_ : Value).ownBlock) v0_ r1 ∧ Kd.R (Kd.int .i64) 3 w' w.heap.size (fun k_ => some k_ ≠ (v0_ : Value).ownBlock ∧ some k_ ≠ (v3_ : Value).ownBlock) v1_ r2 ∧ Kd.R Kd.bool 4 w' w.heap.size (fun _ => True) v2_ r3 ∧ Kd.R (Kd.int .i64) 3 w' w.heap.size (fun k_ => some k_ ≠ (v0_ : Value).ownBlock ∧ some k_ ≠ (v1_ : Value).ownBlock) v3_ r4 ∧ Below w.heap.size w w' := by
 have hu29 := Try.underlying29
 have HR0_0 := Aside0.mk hr0_0
 have HC0_0 := Aside0.mk hc0_0
 clear hr0_0 hc0_0
 have HR0_1 := Aside0.mk hr0_1
 have HC0_1 := Aside0.mk hc0_1
 clear hr0_1 hc0_1
 have HR0_2 := Aside0.mk hr0_2
 have HC0_2 := Aside0.mk hc0_2
 clear hr0_2 hc0_2
 have HR0_3 := Aside0.mk hr0_3
 have HC0_3 := Aside0.mk hc0_3
 clear hr0_3 hc0_3
 have HB := Aside0.mk (Below.refl w.heap.size w)
 have H : ((spec_l1Own.f l0_0).bind fun t167 => ((spec_l1Own.f l0_1).bind fun t170 => ((some (([] : List Bool) : List Bool)).bind fun y173 => (if y173.length + l0_2.length < 140737488355328 then ((spec_l1Own.f l0_3).bind fun t179 => (some (t167, t170, (y173 ++ l0_2), t179))) else (none))))) = some (r1, r2, r3, r4) := h
 clear h
 replace H := Z37.mp H
 obtain ⟨t167, A20, H⟩ := H
 replace H : ((spec_l1Own.f l0_1).bind fun t170 => ((some (([] : List Bool) : List Bool)).bind fun y173 => (if y173.length + l0_2.length < 140737488355328 then ((spec_l1Own.f l0_3).bind fun t179 => (some (t167, t170, (y173 ++ l0_2), t179))) else (none)))) = some (r1, r2, r3, r4) := H
 have A2 := Aside0.mk A20
 clear A20
 replace H := Z37.mp H
 obtain ⟨t170, A30, H⟩ := H
 replace H : ((some (([] : List Bool) : List Bool)).bind fun y173 => (if y173.length + l0_2.length < 140737488355328 then ((spec_l1Own.f l0_3).bind fun t179 => (some (t167, t170, (y173 ++ l0_2), t179))) else (none))) = some (r1, r2, r3, r4) := H
 have A3 := Aside0.mk A30
 clear A30
 obtain ⟨y173, hy173⟩ : ∃ y_ : List Bool, y_ = (([] : List Bool)) := ⟨_, rfl⟩
 replace H : (if y173.length + l0_2.length < 140737488355328 then ((spec_l1Own.f l0_3).bind fun t179 => (some (t167, t170, (y173 ++ l0_2), t179))) else (none)) = some (r1, r2, r3, r4) := by first | (rw [hy173]; with_reducible exact H) | (have H2_ := (Option.bind_some _ _).symm.trans H; rw [hy173]; with_reducible exact H2_) | (have H2_ := (Option.bind_some _ _).symm.trans H; with_reducible exact H2_) | with_reducible exact H | (rw [hy173]; exact H) | exact H
 have Ny173 := Aside0.mk hy173
 clear hy173
 by_cases c4 : y173.length + l0_2.length < 140737488355328
 ·rw [if_pos c4] at H
  have LMc4 := Aside0.mk c4
  clear c4
  obtain ⟨y176, hy176⟩ : ∃ y_ : List Bool, y_ = (y173 ++ l0_2) := ⟨_, rfl⟩
  replace H : ((spec_l1Own.f l0_3).bind fun t179 => (some (t167, t170, y176, t179))) = some (r1, r2, r3, r4) := by first | (rw [hy176]; with_reducible exact H) | (have H2_ := (Option.bind_some _ _).symm.trans H; rw [hy176]; with_reducible exact H2_) | (have H2_ := (Option.bind_some _ _).symm.trans H; with_reducible exact H2_) | with_reducible exact H | (rw [hy176]; exact H) | exact H
  have Ny176 := Aside0.mk hy176
  clear hy176
  replace H := Z37.mp H
  obtain ⟨t179, A50, H⟩ := H
  replace H : (some (t167, t170, y176, t179)) = some (r1, r2, r3, r4) := H
  have A5 := Aside0.mk A50
  clear A50
  simp only [Option.some.injEq, Prod.mk.injEq] at H
  obtain ⟨rfl, rfl, rfl, rfl⟩ := H
  go_enter Try.func83, Try.ntmps83
  try go_wp2_with (first | ((with_reducible refine gate_dst (N := 1) rfl ?_); refine box_event ?hg (N := 1) ?hd (cs := #[.slice A0_0 l0_0.length c0_0, .slice A0_1 l0_1.length c0_1, .slice A0_2 l0_2.length c0_2, .slice A0_3 l0_3.length c0_3]) (t := 29) ?hr ?_; (case hd => rfl); (case hg => rfl); (case hr => first | (go_simp; done) | (go_simp; rfl)); intro gb165 hg w6 hbox hb; have n0_ := Aside0.mk (Z8 (by repeat (first | (with_reducible first | exact HB.out | apply Z5 | apply Z3 | apply Z4) | exact HB.out)) hb); have n1_ := Aside0.mk (hbox); have n2_ := Aside0.mk ((by rw [hg]; exact (Z7 (by repeat (first | (with_reducible first | exact HB.out | apply Z5 | apply Z3 | apply Z4) | exact HB.out))) : w.heap.size ≤ gb165)); have n3_ := Aside0.mk ((by rw [hg]; exact (Z7 (by repeat (first | (with_reducible first | exact HB.out | apply Z5 | apply Z3 | apply Z4) | exact HB.out))) : w.heap.size ≤ gb165)); clear HB; have HB := n0_; have BK165 := n1_; have GW165 := n2_; have GE165 := n3_; clear n0_ n1_ n2_ n3_; clear hb hbox hg) | ((with_reducible refine gate_dst (N := 2) rfl ?_); refine box_event ?hg (N := 2) ?hd (cs := #[.slice none 0 0, .slice none 0 0, .slice none 0 0, .slice none 0 0]) (t := 29) ?hr ?_; (case hd => rfl); (case hg => rfl); (case hr => first | (go_simp; done) | (go_simp; rfl)); intro gb166 hg w7 hbox hb; have n0_ := Aside0.mk (Z29 (g := gb165) (o := .cells #[.slice A0_0 l0_0.length c0_0, .slice A0_1 l0_1.length c0_1, .slice A0_2 l0_2.length c0_2, .slice A0_3 l0_3.length c0_3] 29 (0, 0)) (by (with_reducible repeat (first | refine Z26 ?_ _ | refine Z27 ?_ | refine Z28 ?_ _)); exact BK165.out) hb); have n1_ := Aside0.mk (Z8 (by repeat (first | (with_reducible first | exact HB.out | apply Z5 | apply Z3 | apply Z4 | refine Z6 ?_ GE165.out) | exact HB.out)) hb); have n2_ := Aside0.mk (hbox); have n3_ := Aside0.mk ((by rw [hg]; exact (Z7 (by repeat (first | (with_reducible first | exact HB.out | apply Z5 | apply Z3 | apply Z4 | refine Z6 ?_ GE165.out) | exact HB.out))) : w.heap.size ≤ gb166)); have n4_ := Aside0.mk ((by rw [hg]; exact (Z7 (by repeat (first | (with_reducible first | exact HB.out | apply Z5 | apply Z3 | apply Z4 | refine Z6 ?_ GE165.out) | exact HB.out))) : w.heap.size ≤ gb166)); have n5_ := Aside0.mk ((by rw [hg]; exact Nat.ne_of_lt (blk_lt (g := gb165) (o := .cells #[.slice A0_0 l0_0.length c0_0, .slice A0_1 l0_1.length c0_1, .slice A0_2 l0_2.length c0_2, .slice A0_3 l0_3.length c0_3] 29 (0, 0)) (by (with_reducible repeat (first | refine Z26 ?_ _ | refine Z27 ?_ | refine Z28 ?_ _)); exact BK165.out)) : gb165 ≠ gb166)); have n6_ := Aside0.mk ((by rw [hg]; exact Nat.ne_of_gt (blk_lt (g := gb165) (o := .cells #[.slice A0_0 l0_0.length c0_0, .slice A0_1 l0_1.length c0_1, .slice A0_2 l0_2.length c0_2, .slice A0_3 l0_3.length c0_3] 29 (0, 0)) (by (with_reducible repeat (first | refine Z26 ?_ _ | refine Z27 ?_ | refine Z28 ?_ _)); exact BK165.out)) : gb166 ≠ gb165)); clear BK165; clear HB; have BK165 := n0_; have HB := n1_; have BK166 := n2_; have GW166 := n3_; have GE166 := n4_; have NB165_166 := n5_; have NB166_165 := n6_; clear n0_ n1_ n2_ n3_ n4_ n5_ n6_; clear hb hbox hg))
  have n0_ := Aside0.mk (Z27 BK165.out)
  have n1_ := Aside0.mk (Z27 BK166.out)
  have n2_ := Aside0.mk (Z4 HB.out)
  clear BK165
  clear BK166
  clear HB
  have BK165 := n0_
  have BK166 := n1_
  have HB := n2_
  clear n0_ n1_ n2_
  refine start_ (n := 15) (S := fun w' => w'.cell? ⟨gb165, 0, none⟩ = some (.slice A0_0 l0_0.length c0_0) ∧ w'.cell? ⟨gb165, 1, none⟩ = some (.slice A0_1 l0_1.length c0_1) ∧ w'.cell? ⟨gb165, 2, none⟩ = some (.slice A0_2 l0_2.length c0_2) ∧ w'.cell? ⟨gb165, 3, none⟩ = some (.slice A0_3 l0_3.length c0_3)) (ds := []) #[false, false, false, false, false, false, false, false, false, false, false, false, false, false, false] (by kernel_rfl) rfl rfl ⟨(Z24 BK165.out 0).trans rfl, (Z24 BK165.out 1).trans rfl, (Z24 BK165.out 2).trans rfl, (Z24 BK165.out 3).trans rfl⟩ (fun hHeld => ?_); refine with_tabW spec_foOwn.tab1 spec_foOwn.bits1 (fun HT_ HW_ => ?_)
  generalize w7.drew = w8 at BK165 BK166 HB hHeld ⊢
  refine pure_ (i := 0) (N := some 3) (v := ?_) (a' := ?_) #[true, false, false, false, false, false, false, false, false, false, false, false, false, false, false] rfl rfl (any_of HT_.out (by kernel_rfl)) (fun _ _ _ h => h) (Or.inl ⟨by rfl, ?_⟩) ?_ ?_
  rotate_left
  ·intro w'
   go_simp
   with_reducible rfl
  rotate_left
  ·simp only [Act.put, Z0, Z1, Z2, i64_w, i32_w]
   rfl
  refine pure_ (i := 3) (N := some 6) (v := ?_) (a' := ?_) #[true, false, false, true, false, false, false, false, false, false, false, false, false, false, false] rfl rfl (any_of HT_.out (by kernel_rfl)) (fun _ _ _ h => h) (Or.inl ⟨by rfl, ?_⟩) ?_ ?_
  rotate_left
  ·intro w'
   go_simp
   with_reducible rfl
  rotate_left
  ·simp only [Act.put, Z0, Z1, Z2, i64_w, i32_w]
   rfl
  refine pure_ (i := 7) (N := some 10) (v := ?_) (a' := ?_) #[true, false, false, true, false, false, false, true, false, false, false, false, false, false, false] rfl rfl (any_of HT_.out (by kernel_rfl)) (fun _ _ _ h => h) (Or.inl ⟨by rfl, ?_⟩) ?_ ?_
  rotate_left
  ·intro w'
   go_simp
   with_reducible rfl
  rotate_left
  ·simp only [Act.put, Z0, Z1, Z2, i64_w, i32_w]
   rfl
  refine pure_ (i := 10) (N := some 13) (v := ?_) (a' := ?_) #[true, false, false, true, false, false, false, true, false, false, true, false, false, false, false] rfl rfl (any_of HT_.out (by kernel_rfl)) (fun _ _ _ h => h) (Or.inl ⟨by rfl, ?_⟩) ?_ ?_
  rotate_left
  ·intro w'
   go_simp
   with_reducible rfl
  rotate_left
  ·simp only [Act.put, Z0, Z1, Z2, i64_w, i32_w]
   rfl
  refine take_ (i := 1) (N := some 4) (v := ?_) (a' := ?_) #[true, true, false, true, false, false, false, true, false, false, true, false, false, false, false] rfl rfl (take_ofW HT_.out HW_.out (by kernel_rfl)) (fun _ _ _ h => h) (Or.inl ⟨by rfl, ?_⟩) hHeld ?_ ?_
  rotate_left
  ·rintro w' ⟨s0, s1, s2, s3⟩
   go_simp
   with_reducible rfl
  rotate_left
  ·simp only [Act.put, Z0, Z1, Z2, i64_w, i32_w]
   rfl
  refine take_ (i := 4) (N := some 7) (v := ?_) (a' := ?_) #[true, true, false, true, true, false, false, true, false, false, true, false, false, false, false] rfl rfl (take_ofW HT_.out HW_.out (by kernel_rfl)) (fun _ _ _ h => h) (Or.inl ⟨by rfl, ?_⟩) hHeld ?_ ?_
  rotate_left
  ·rintro w' ⟨s0, s1, s2, s3⟩
   go_simp
   with_reducible rfl
  rotate_left
  ·simp only [Act.put, Z0, Z1, Z2, i64_w, i32_w]
   rfl
  refine take_ (i := 8) (N := some 11) (v := ?_) (a' := ?_) #[true, true, false, true, true, false, false, true, true, false, true, false, false, false, false] rfl rfl (take_ofW HT_.out HW_.out (by kernel_rfl)) (fun _ _ _ h => h) (Or.inl ⟨by rfl, ?_⟩) hHeld ?_ ?_
  rotate_left
  ·rintro w' ⟨s0, s1, s2, s3⟩
   go_simp
   with_reducible rfl
  rotate_left
  ·simp only [Act.put, Z0, Z1, Z2, i64_w, i32_w]
   rfl
  refine take_ (i := 11) (N := some 14) (v := ?_) (a' := ?_) #[true, true, false, true, true, false, false, true, true, false, true, true, false, false, false] rfl rfl (take_ofW HT_.out HW_.out (by kernel_rfl)) (fun _ _ _ h => h) (Or.inl ⟨by rfl, ?_⟩) hHeld ?_ ?_
  rotate_left
  ·rintro w' ⟨s0, s1, s2, s3⟩
   go_simp
   with_reducible rfl
  rotate_left
  ·simp only [Act.put, Z0, Z1, Z2, i64_w, i32_w]
   rfl
  refine join_ (σ := Value × Value × Value) 4 #[true, true, true, true, true, true, true, true, true, false, true, true, false, false, false] (fun s_ => [(5, s_.1), (8, s_.2.1), (9, s_.2.2)]) (fun s_ w' => (w'.cell? ⟨gb165, 0, none⟩ = some (.slice A0_0 l0_0.length c0_0) ∧ w'.cell? ⟨gb165, 1, none⟩ = some (.slice A0_1 l0_1.length c0_1) ∧ w'.cell? ⟨gb165, 2, none⟩ = some (.slice A0_2 l0_2.length c0_2) ∧ w'.cell? ⟨gb165, 3, none⟩ = some (.slice A0_3 l0_3.length c0_3)) ∧ (Kd.R (Kd.int .i64) 3 w' w.heap.size (fun k_ => some k_ ≠ (s_.2.1 : Value).ownBlock) s_.1 t167) ∧ (Kd.R (Kd.int .i64) 3 w' w.heap.size (fun k_ => some k_ ≠ (s_.1 : Value).ownBlock) s_.2.1 t170) ∧ (Kd.R Kd.bool 4 w' w.heap.size (fun _ => True) s_.2.2 y173) ∧ (w'.heap[gb165]? = some (.cells #[.slice A0_0 l0_0.length c0_0, .slice A0_1 l0_1.length c0_1, .slice A0_2 l0_2.length c0_2, .slice A0_3 l0_3.length c0_3] 29 (0, 0))) ∧ (w'.heap[gb166]? = some (.cells #[.slice none 0 0, .slice none 0 0, .slice none 0 0, .slice none 0 0] 29 (0, 0))) ∧ (Below w.heap.size w w')) ?_ ?_
  rotate_left
  ·intro hCont
   refine two_ (i := 2) (j := 6) (Ni := some 5) (Nj := some 9) #[true, true, true, true, true, false, false, true, true, false, true, true, false, false, false] #[true, true, false, true, true, false, true, true, true, false, true, true, false, false, false] rfl rfl rfl rfl (two_of HT_.out (by kernel_rfl)) (by decide) (by decide) (fun K hK => ?_) (fun K hK => ?_)
   ·skip
    refine goes_ Try.func95 (by kernel_rfl) rfl #[.slice A0_0 l0_0.length c0_0] (by rfl) rfl rfl (by (try simp only [Z34, Z35, Z36]); first | done | rfl | (simp only [Z32, Z33]; rfl)) ?_
    with_reducible refine (spec_l1Own.calls _ _ l0_0 t167 _ ?side1 ?side2 A2.out).mono ?_
    (case side1 => repeat (first | exact (Z23 HR0_0.out HB.out) | (with_reducible refine Z20 ?_ _) | (with_reducible refine Z21 ?_ _) | (with_reducible refine Z22 ?_)))
    (case side2 => exact HC0_0.out)
    rintro e w9 ⟨v168, rfl, ho0, hb⟩
    refine ⟨_, rfl, ?_⟩
    have n0_ := Aside0.mk (Kd.R_lower ho0 (Z7 (by repeat (first | (with_reducible first | exact HB.out | apply Z5 | apply Z3 | apply Z4 | refine Z6 ?_ GE165.out | refine Z6 ?_ GE166.out) | exact HB.out))))
    have n1_ := Aside0.mk (Z29 (g := gb165) (o := .cells #[.slice A0_0 l0_0.length c0_0, .slice A0_1 l0_1.length c0_1, .slice A0_2 l0_2.length c0_2, .slice A0_3 l0_3.length c0_3] 29 (0, 0)) (by (with_reducible repeat (first | refine Z26 ?_ _ | refine Z27 ?_ | refine Z28 ?_ _)); exact BK165.out) hb)
    have n2_ := Aside0.mk (Z29 (g := gb166) (o := .cells #[.slice none 0 0, .slice none 0 0, .slice none 0 0, .slice none 0 0] 29 (0, 0)) (by (with_reducible repeat (first | refine Z26 ?_ _ | refine Z27 ?_ | refine Z28 ?_ _)); exact BK166.out) hb)
    have n3_ := Aside0.mk (Z8 (by repeat (first | (with_reducible first | exact HB.out | apply Z5 | apply Z3 | apply Z4 | refine Z6 ?_ GE165.out | refine Z6 ?_ GE166.out) | exact HB.out)) hb)
    clear BK165
    clear BK166
    clear HB
    have HO169 := n0_
    have BK165 := n1_
    have BK166 := n2_
    have HB := n3_
    clear n0_ n1_ n2_ n3_
    (try clear hb)
    (try clear hb2)
    (try clear hk)
    (try clear hi)
    (try clear ho0)
    refine hK.out _ _ ⟨(Z24 BK165.out 0).trans rfl, (Z24 BK165.out 1).trans rfl, (Z24 BK165.out 2).trans rfl, (Z24 BK165.out 3).trans rfl⟩ (fun hHeld => ?_)
    clear hK K
    refine norm_ (a' := ?_) ?_ ?_
    rotate_left
    ·show Act.put _ (some 5) _ = _
     simp only [Act.put, Z0, Z1, Z2, i64_w, i32_w]
     rfl
    refine two_ (i := 5) (j := 6) (Ni := some 8) (Nj := some 9) #[true, true, true, true, true, true, false, true, true, false, true, true, false, false, false] #[true, true, true, true, true, false, true, true, true, false, true, true, false, false, false] rfl rfl rfl rfl (two_of HT_.out (by kernel_rfl)) (by decide) (by decide) (fun K hK => ?_) (fun K hK => ?_)
    ·skip
     refine goes_ Try.func95 (by kernel_rfl) rfl #[.slice A0_1 l0_1.length c0_1] (by rfl) rfl rfl (by (try simp only [Z34, Z35, Z36]); first | done | rfl | (simp only [Z32, Z33]; rfl)) ?_
     with_reducible refine (spec_l1Own.calls _ _ l0_1 t170 _ ?side1 ?side2 A3.out).mono ?_
     (case side1 => repeat (first | exact (Z23 HR0_1.out HB.out) | (with_reducible refine Z20 ?_ _) | (with_reducible refine Z21 ?_ _) | (with_reducible refine Z22 ?_)))
     (case side2 => exact HC0_1.out)
     rintro e w10 ⟨v171, rfl, ho0, hb⟩
     refine ⟨_, rfl, ?_⟩
     have n0_ := Aside0.mk (Kd.R_elder' (by (with_reducible repeat (first | apply Z9 | apply Z10 | apply Z11)); exact HO169.out) (Kd.R_base ho0) hb)
     have n1_ := Aside0.mk (Kd.R_lower (Kd.R_new' ho0 (Z18 (by (with_reducible repeat (first | apply Z9 | apply Z10 | apply Z11)); exact HO169.out))) (Z7 (by repeat (first | (with_reducible first | exact HB.out | apply Z5 | apply Z3 | apply Z4 | refine Z6 ?_ GE165.out | refine Z6 ?_ GE166.out) | exact HB.out))))
     have n2_ := Aside0.mk (Z29 (g := gb165) (o := .cells #[.slice A0_0 l0_0.length c0_0, .slice A0_1 l0_1.length c0_1, .slice A0_2 l0_2.length c0_2, .slice A0_3 l0_3.length c0_3] 29 (0, 0)) (by (with_reducible repeat (first | refine Z26 ?_ _ | refine Z27 ?_ | refine Z28 ?_ _)); exact BK165.out) hb)
     have n3_ := Aside0.mk (Z29 (g := gb166) (o := .cells #[.slice none 0 0, .slice none 0 0, .slice none 0 0, .slice none 0 0] 29 (0, 0)) (by (with_reducible repeat (first | refine Z26 ?_ _ | refine Z27 ?_ | refine Z28 ?_ _)); exact BK166.out) hb)
     have n4_ := Aside0.mk (Z8 (by repeat (first | (with_reducible first | exact HB.out | apply Z5 | apply Z3 | apply Z4 | refine Z6 ?_ GE165.out | refine Z6 ?_ GE166.out) | exact HB.out)) hb)
     clear HO169
     clear BK165
     clear BK166
     clear HB
     have HO169 := n0_
     have HO172 := n1_
     have BK165 := n2_
     have BK166 := n3_
     have HB := n4_
     clear n0_ n1_ n2_ n3_ n4_
     (try clear hb)
     (try clear hb2)
     (try clear hk)
     (try clear hi)
     (try clear ho0)
     refine hK.out _ _ ⟨(Z24 BK165.out 0).trans rfl, (Z24 BK165.out 1).trans rfl, (Z24 BK165.out 2).trans rfl, (Z24 BK165.out 3).trans rfl⟩ (fun hHeld => ?_)
     clear hK K
     refine norm_ (a' := ?_) ?_ ?_
     rotate_left
     ·show Act.put _ (some 8) _ = _
      simp only [Act.put, Z0, Z1, Z2, i64_w, i32_w]
      rfl
     refine one_ (i := 6) (N := some 9) #[true, true, true, true, true, true, true, true, true, false, true, true, false, false, false] rfl rfl (one_of HT_.out (by kernel_rfl)) (by decide) (fun K hK => ?_)
     refine Kd.R_lit_step Kd.bool _ 4 ?hg (N := 9) ?hd (xs := ([] : List Bool)) (inner := []) (ok := fun _ => True) (okp := fun _ => True) ?hr ?hp (fun _ hk => hk) trivial (Below.refl _ _) (Nat.le_refl _) (by simp) ?_; (case hd => rfl); (case hg => rfl); (case hr => first | (go_simp; done) | (go_simp; rfl)); (case hp => exact (Reps.none _ _))
     intro v174 w11 ho12 hb hg_ hnew_
     clear hg_ hnew_
     (first | rw [← Ny173.out] at ho12 | (simp only [Int.reduceToNat] at ho12; rw [← Ny173.out] at ho12))
     have n0_ := Aside0.mk (Z14 (by (with_reducible repeat (first | apply Z9 | apply Z10 | apply Z11)); exact HO169.out) hb)
     have n1_ := Aside0.mk (Z14 (by (with_reducible repeat (first | apply Z9 | apply Z10 | apply Z11)); exact HO172.out) hb)
     have n2_ := Aside0.mk (Kd.R_lower ho12 (Z7 (by repeat (first | (with_reducible first | exact HB.out | apply Z5 | apply Z3 | apply Z4 | refine Z6 ?_ GE165.out | refine Z6 ?_ GE166.out) | exact HB.out))))
     have n3_ := Aside0.mk (Z29 (g := gb165) (o := .cells #[.slice A0_0 l0_0.length c0_0, .slice A0_1 l0_1.length c0_1, .slice A0_2 l0_2.length c0_2, .slice A0_3 l0_3.length c0_3] 29 (0, 0)) (by (with_reducible repeat (first | refine Z26 ?_ _ | refine Z27 ?_ | refine Z28 ?_ _)); exact BK165.out) hb)
     have n4_ := Aside0.mk (Z29 (g := gb166) (o := .cells #[.slice none 0 0, .slice none 0 0, .slice none 0 0, .slice none 0 0] 29 (0, 0)) (by (with_reducible repeat (first | refine Z26 ?_ _ | refine Z27 ?_ | refine Z28 ?_ _)); exact BK166.out) hb)
     have n5_ := Aside0.mk (Z8 (by repeat (first | (with_reducible first | exact HB.out | apply Z5 | apply Z3 | apply Z4 | refine Z6 ?_ GE165.out | refine Z6 ?_ GE166.out) | exact HB.out)) hb)
     clear HO169
     clear HO172
     clear BK165
     clear BK166
     clear HB
     have HO169 := n0_
     have HO172 := n1_
     have HO175 := n2_
     have BK165 := n3_
     have BK166 := n4_
     have HB := n5_
     clear n0_ n1_ n2_ n3_ n4_ n5_
     clear hb ho12
     refine hK.out _ _ ⟨(Z24 BK165.out 0).trans rfl, (Z24 BK165.out 1).trans rfl, (Z24 BK165.out 2).trans rfl, (Z24 BK165.out 3).trans rfl⟩ (fun hHeld => ?_)
     clear hK K
     refine norm_ (a' := ?_) ?_ ?_
     rotate_left
     ·show Act.put _ (some 9) _ = _
      simp only [Act.put, Z0, Z1, Z2, i64_w, i32_w]
      rfl
     exact norm_ (by simp only [putAll, Act.put, Z0, Z1, Z2]) (hCont (v168, v171, v174) _ ⟨hHeld, (by (with_reducible repeat (first | apply Z9 | apply Z10 | apply Z11)); exact Z12 HO169.out (fun _ hk => hk.2)), (by (with_reducible repeat (first | apply Z9 | apply Z10 | apply Z11)); exact Z12 HO172.out (fun _ hk => hk.2)), (by (with_reducible repeat (first | apply Z9 | apply Z10 | apply Z11)); exact HO175.out), (by (with_reducible repeat (first | refine Z26 ?_ _ | refine Z27 ?_ | refine Z28 ?_ _)); exact BK165.out), (by (with_reducible repeat (first | refine Z26 ?_ _ | refine Z27 ?_ | refine Z28 ?_ _)); exact BK166.out), (by repeat (first | (with_reducible first | exact HB.out | apply Z5 | apply Z3 | apply Z4 | refine Z6 ?_ GE165.out | refine Z6 ?_ GE166.out) | exact HB.out))⟩)
    ·skip
     refine Kd.R_lit_step Kd.bool _ 4 ?hg (N := 9) ?hd (xs := ([] : List Bool)) (inner := []) (ok := fun _ => True) (okp := fun _ => True) ?hr ?hp (fun _ hk => hk) trivial (Below.refl _ _) (Nat.le_refl _) (by simp) ?_; (case hd => rfl); (case hg => rfl); (case hr => first | (go_simp; done) | (go_simp; rfl)); (case hp => exact (Reps.none _ _))
     intro v174 w10 ho11 hb hg_ hnew_
     clear hg_ hnew_
     (first | rw [← Ny173.out] at ho11 | (simp only [Int.reduceToNat] at ho11; rw [← Ny173.out] at ho11))
     have n0_ := Aside0.mk (Z14 (by (with_reducible repeat (first | apply Z9 | apply Z10 | apply Z11)); exact HO169.out) hb)
     have n1_ := Aside0.mk (Kd.R_lower ho11 (Z7 (by repeat (first | (with_reducible first | exact HB.out | apply Z5 | apply Z3 | apply Z4 | refine Z6 ?_ GE165.out | refine Z6 ?_ GE166.out) | exact HB.out))))
     have n2_ := Aside0.mk (Z29 (g := gb165) (o := .cells #[.slice A0_0 l0_0.length c0_0, .slice A0_1 l0_1.length c0_1, .slice A0_2 l0_2.length c0_2, .slice A0_3 l0_3.length c0_3] 29 (0, 0)) (by (with_reducible repeat (first | refine Z26 ?_ _ | refine Z27 ?_ | refine Z28 ?_ _)); exact BK165.out) hb)
     have n3_ := Aside0.mk (Z29 (g := gb166) (o := .cells #[.slice none 0 0, .slice none 0 0, .slice none 0 0, .slice none 0 0] 29 (0, 0)) (by (with_reducible repeat (first | refine Z26 ?_ _ | refine Z27 ?_ | refine Z28 ?_ _)); exact BK166.out) hb)
     have n4_ := Aside0.mk (Z8 (by repeat (first | (with_reducible first | exact HB.out | apply Z5 | apply Z3 | apply Z4 | refine Z6 ?_ GE165.out | refine Z6 ?_ GE166.out) | exact HB.out)) hb)
     clear HO169
     clear BK165
     clear BK166
     clear HB
     have HO169 := n0_
     have HO175 := n1_
     have BK165 := n2_
     have BK166 := n3_
     have HB := n4_
     clear n0_ n1_ n2_ n3_ n4_
     clear hb ho11
     refine hK.out _ _ ⟨(Z24 BK165.out 0).trans rfl, (Z24 BK165.out 1).trans rfl, (Z24 BK165.out 2).trans rfl, (Z24 BK165.out 3).trans rfl⟩ (fun hHeld => ?_)
     clear hK K
     refine norm_ (a' := ?_) ?_ ?_
     rotate_left
     ·show Act.put _ (some 9) _ = _
      simp only [Act.put, Z0, Z1, Z2, i64_w, i32_w]
      rfl
     refine one_ (i := 5) (N := some 8) #[true, true, true, true, true, true, true, true, true, false, true, true, false, false, false] rfl rfl (one_of HT_.out (by kernel_rfl)) (by decide) (fun K hK => ?_)
     refine goes_ Try.func95 (by kernel_rfl) rfl #[.slice A0_1 l0_1.length c0_1] (by rfl) rfl rfl (by (try simp only [Z34, Z35, Z36]); first | done | rfl | (simp only [Z32, Z33]; rfl)) ?_
     with_reducible refine (spec_l1Own.calls _ _ l0_1 t170 _ ?side1 ?side2 A3.out).mono ?_
     (case side1 => repeat (first | exact (Z23 HR0_1.out HB.out) | (with_reducible refine Z20 ?_ _) | (with_reducible refine Z21 ?_ _) | (with_reducible refine Z22 ?_)))
     (case side2 => exact HC0_1.out)
     rintro e w12 ⟨v171, rfl, ho0, hb⟩
     refine ⟨_, rfl, ?_⟩
     have n0_ := Aside0.mk (Kd.R_elder' (by (with_reducible repeat (first | apply Z9 | apply Z10 | apply Z11)); exact HO169.out) (Kd.R_base ho0) hb)
     have n1_ := Aside0.mk (Z14 (by (with_reducible repeat (first | apply Z9 | apply Z10 | apply Z11)); exact HO175.out) hb)
     have n2_ := Aside0.mk (Kd.R_lower (Kd.R_new' ho0 (Z18 (by (with_reducible repeat (first | apply Z9 | apply Z10 | apply Z11)); exact HO169.out))) (Z7 (by repeat (first | (with_reducible first | exact HB.out | apply Z5 | apply Z3 | apply Z4 | refine Z6 ?_ GE165.out | refine Z6 ?_ GE166.out) | exact HB.out))))
     have n3_ := Aside0.mk (Z29 (g := gb165) (o := .cells #[.slice A0_0 l0_0.length c0_0, .slice A0_1 l0_1.length c0_1, .slice A0_2 l0_2.length c0_2, .slice A0_3 l0_3.length c0_3] 29 (0, 0)) (by (with_reducible repeat (first | refine Z26 ?_ _ | refine Z27 ?_ | refine Z28 ?_ _)); exact BK165.out) hb)
     have n4_ := Aside0.mk (Z29 (g := gb166) (o := .cells #[.slice none 0 0, .slice none 0 0, .slice none 0 0, .slice none 0 0] 29 (0, 0)) (by (with_reducible repeat (first | refine Z26 ?_ _ | refine Z27 ?_ | refine Z28 ?_ _)); exact BK166.out) hb)
     have n5_ := Aside0.mk (Z8 (by repeat (first | (with_reducible first | exact HB.out | apply Z5 | apply Z3 | apply Z4 | refine Z6 ?_ GE165.out | refine Z6 ?_ GE166.out) | exact HB.out)) hb)
     clear HO169
     clear HO175
     clear BK165
     clear BK166
     clear HB
     have HO169 := n0_
     have HO175 := n1_
     have HO172 := n2_
     have BK165 := n3_
     have BK166 := n4_
     have HB := n5_
     clear n0_ n1_ n2_ n3_ n4_ n5_
     (try clear hb)
     (try clear hb2)
     (try clear hk)
     (try clear hi)
     (try clear ho0)
     refine hK.out _ _ ⟨(Z24 BK165.out 0).trans rfl, (Z24 BK165.out 1).trans rfl, (Z24 BK165.out 2).trans rfl, (Z24 BK165.out 3).trans rfl⟩ (fun hHeld => ?_)
     clear hK K
     refine norm_ (a' := ?_) ?_ ?_
     rotate_left
     ·show Act.put _ (some 8) _ = _
      simp only [Act.put, Z0, Z1, Z2, i64_w, i32_w]
      rfl
     exact norm_ (by simp only [putAll, Act.put, Z0, Z1, Z2]) (hCont (v168, v171, v174) _ ⟨hHeld, (by (with_reducible repeat (first | apply Z9 | apply Z10 | apply Z11)); exact Z12 HO169.out (fun _ hk => hk.2)), (by (with_reducible repeat (first | apply Z9 | apply Z10 | apply Z11)); exact Z12 HO172.out (fun _ hk => hk.2)), (by (with_reducible repeat (first | apply Z9 | apply Z10 | apply Z11)); exact HO175.out), (by (with_reducible repeat (first | refine Z26 ?_ _ | refine Z27 ?_ | refine Z28 ?_ _)); exact BK165.out), (by (with_reducible repeat (first | refine Z26 ?_ _ | refine Z27 ?_ | refine Z28 ?_ _)); exact BK166.out), (by repeat (first | (with_reducible first | exact HB.out | apply Z5 | apply Z3 | apply Z4 | refine Z6 ?_ GE165.out | refine Z6 ?_ GE166.out) | exact HB.out))⟩)
   ·skip
    refine Kd.R_lit_step Kd.bool _ 4 ?hg (N := 9) ?hd (xs := ([] : List Bool)) (inner := []) (ok := fun _ => True) (okp := fun _ => True) ?hr ?hp (fun _ hk => hk) trivial (Below.refl _ _) (Nat.le_refl _) (by simp) ?_; (case hd => rfl); (case hg => rfl); (case hr => first | (go_simp; done) | (go_simp; rfl)); (case hp => exact (Reps.none _ _))
    intro v174 w9 ho10 hb hg_ hnew_
    clear hg_ hnew_
    (first | rw [← Ny173.out] at ho10 | (simp only [Int.reduceToNat] at ho10; rw [← Ny173.out] at ho10))
    have n0_ := Aside0.mk (Kd.R_lower ho10 (Z7 (by repeat (first | (with_reducible first | exact HB.out | apply Z5 | apply Z3 | apply Z4 | refine Z6 ?_ GE165.out | refine Z6 ?_ GE166.out) | exact HB.out))))
    have n1_ := Aside0.mk (Z29 (g := gb165) (o := .cells #[.slice A0_0 l0_0.length c0_0, .slice A0_1 l0_1.length c0_1, .slice A0_2 l0_2.length c0_2, .slice A0_3 l0_3.length c0_3] 29 (0, 0)) (by (with_reducible repeat (first | refine Z26 ?_ _ | refine Z27 ?_ | refine Z28 ?_ _)); exact BK165.out) hb)
    have n2_ := Aside0.mk (Z29 (g := gb166) (o := .cells #[.slice none 0 0, .slice none 0 0, .slice none 0 0, .slice none 0 0] 29 (0, 0)) (by (with_reducible repeat (first | refine Z26 ?_ _ | refine Z27 ?_ | refine Z28 ?_ _)); exact BK166.out) hb)
    have n3_ := Aside0.mk (Z8 (by repeat (first | (with_reducible first | exact HB.out | apply Z5 | apply Z3 | apply Z4 | refine Z6 ?_ GE165.out | refine Z6 ?_ GE166.out) | exact HB.out)) hb)
    clear BK165
    clear BK166
    clear HB
    have HO175 := n0_
    have BK165 := n1_
    have BK166 := n2_
    have HB := n3_
    clear n0_ n1_ n2_ n3_
    clear hb ho10
    refine hK.out _ _ ⟨(Z24 BK165.out 0).trans rfl, (Z24 BK165.out 1).trans rfl, (Z24 BK165.out 2).trans rfl, (Z24 BK165.out 3).trans rfl⟩ (fun hHeld => ?_)
    clear hK K
    refine norm_ (a' := ?_) ?_ ?_
    rotate_left
    ·show Act.put _ (some 9) _ = _
     simp only [Act.put, Z0, Z1, Z2, i64_w, i32_w]
     rfl
    refine one_ (i := 2) (N := some 5) #[true, true, true, true, true, false, true, true, true, false, true, true, false, false, false] rfl rfl (one_of HT_.out (by kernel_rfl)) (by decide) (fun K hK => ?_)
    refine goes_ Try.func95 (by kernel_rfl) rfl #[.slice A0_0 l0_0.length c0_0] (by rfl) rfl rfl (by (try simp only [Z34, Z35, Z36]); first | done | rfl | (simp only [Z32, Z33]; rfl)) ?_
    with_reducible refine (spec_l1Own.calls _ _ l0_0 t167 _ ?side1 ?side2 A2.out).mono ?_
    (case side1 => repeat (first | exact (Z23 HR0_0.out HB.out) | (with_reducible refine Z20 ?_ _) | (with_reducible refine Z21 ?_ _) | (with_reducible refine Z22 ?_)))
    (case side2 => exact HC0_0.out)
    rintro e w11 ⟨v168, rfl, ho0, hb⟩
    refine ⟨_, rfl, ?_⟩
    have n0_ := Aside0.mk (Z14 (by (with_reducible repeat (first | apply Z9 | apply Z10 | apply Z11)); exact HO175.out) hb)
    have n1_ := Aside0.mk (Kd.R_lower ho0 (Z7 (by repeat (first | (with_reducible first | exact HB.out | apply Z5 | apply Z3 | apply Z4 | refine Z6 ?_ GE165.out | refine Z6 ?_ GE166.out) | exact HB.out))))
    have n2_ := Aside0.mk (Z29 (g := gb165) (o := .cells #[.slice A0_0 l0_0.length c0_0, .slice A0_1 l0_1.length c0_1, .slice A0_2 l0_2.length c0_2, .slice A0_3 l0_3.length c0_3] 29 (0, 0)) (by (with_reducible repeat (first | refine Z26 ?_ _ | refine Z27 ?_ | refine Z28 ?_ _)); exact BK165.out) hb)
    have n3_ := Aside0.mk (Z29 (g := gb166) (o := .cells #[.slice none 0 0, .slice none 0 0, .slice none 0 0, .slice none 0 0] 29 (0, 0)) (by (with_reducible repeat (first | refine Z26 ?_ _ | refine Z27 ?_ | refine Z28 ?_ _)); exact BK166.out) hb)
    have n4_ := Aside0.mk (Z8 (by repeat (first | (with_reducible first | exact HB.out | apply Z5 | apply Z3 | apply Z4 | refine Z6 ?_ GE165.out | refine Z6 ?_ GE166.out) | exact HB.out)) hb)
    clear HO175
    clear BK165
    clear BK166
    clear HB
    have HO175 := n0_
    have HO169 := n1_
    have BK165 := n2_
    have BK166 := n3_
    have HB := n4_
    clear n0_ n1_ n2_ n3_ n4_
    (try clear hb)
    (try clear hb2)
    (try clear hk)
    (try clear hi)
    (try clear ho0)
    refine hK.out _ _ ⟨(Z24 BK165.out 0).trans rfl, (Z24 BK165.out 1).trans rfl, (Z24 BK165.out 2).trans rfl, (Z24 BK165.out 3).trans rfl⟩ (fun hHeld => ?_)
    clear hK K
    refine norm_ (a' := ?_) ?_ ?_
    rotate_left
    ·show Act.put _ (some 5) _ = _
     simp only [Act.put, Z0, Z1, Z2, i64_w, i32_w]
     rfl
    refine one_ (i := 5) (N := some 8) #[true, true, true, true, true, true, true, true, true, false, true, true, false, false, false] rfl rfl (one_of HT_.out (by kernel_rfl)) (by decide) (fun K hK => ?_)
    refine goes_ Try.func95 (by kernel_rfl) rfl #[.slice A0_1 l0_1.length c0_1] (by rfl) rfl rfl (by (try simp only [Z34, Z35, Z36]); first | done | rfl | (simp only [Z32, Z33]; rfl)) ?_
    with_reducible refine (spec_l1Own.calls _ _ l0_1 t170 _ ?side1 ?side2 A3.out).mono ?_
    (case side1 => repeat (first | exact (Z23 HR0_1.out HB.out) | (with_reducible refine Z20 ?_ _) | (with_reducible refine Z21 ?_ _) | (with_reducible refine Z22 ?_)))
    (case side2 => exact HC0_1.out)
    rintro e w12 ⟨v171, rfl, ho0, hb⟩
    refine ⟨_, rfl, ?_⟩
    have n0_ := Aside0.mk (Z14 (by (with_reducible repeat (first | apply Z9 | apply Z10 | apply Z11)); exact HO175.out) hb)
    have n1_ := Aside0.mk (Kd.R_elder' (by (with_reducible repeat (first | apply Z9 | apply Z10 | apply Z11)); exact HO169.out) (Kd.R_base ho0) hb)
    have n2_ := Aside0.mk (Kd.R_lower (Kd.R_new' ho0 (Z18 (by (with_reducible repeat (first | apply Z9 | apply Z10 | apply Z11)); exact HO169.out))) (Z7 (by repeat (first | (with_reducible first | exact HB.out | apply Z5 | apply Z3 | apply Z4 | refine Z6 ?_ GE165.out | refine Z6 ?_ GE166.out) | exact HB.out))))
    have n3_ := Aside0.mk (Z29 (g := gb165) (o := .cells #[.slice A0_0 l0_0.length c0_0, .slice A0_1 l0_1.length c0_1, .slice A0_2 l0_2.length c0_2, .slice A0_3 l0_3.length c0_3] 29 (0, 0)) (by (with_reducible repeat (first | refine Z26 ?_ _ | refine Z27 ?_ | refine Z28 ?_ _)); exact BK165.out) hb)
    have n4_ := Aside0.mk (Z29 (g := gb166) (o := .cells #[.slice none 0 0, .slice none 0 0, .slice none 0 0, .slice none 0 0] 29 (0, 0)) (by (with_reducible repeat (first | refine Z26 ?_ _ | refine Z27 ?_ | refine Z28 ?_ _)); exact BK166.out) hb)
    have n5_ := Aside0.mk (Z8 (by repeat (first | (with_reducible first | exact HB.out | apply Z5 | apply Z3 | apply Z4 | refine Z6 ?_ GE165.out | refine Z6 ?_ GE166.out) | exact HB.out)) hb)
    clear HO175
    clear HO169
    clear BK165
    clear BK166
    clear HB
    have HO175 := n0_
    have HO169 := n1_
    have HO172 := n2_
    have BK165 := n3_
    have BK166 := n4_
    have HB := n5_
    clear n0_ n1_ n2_ n3_ n4_ n5_
    (try clear hb)
    (try clear hb2)
    (try clear hk)
    (try clear hi)
    (try clear ho0)
    refine hK.out _ _ ⟨(Z24 BK165.out 0).trans rfl, (Z24 BK165.out 1).trans rfl, (Z24 BK165.out 2).trans rfl, (Z24 BK165.out 3).trans rfl⟩ (fun hHeld => ?_)
    clear hK K
    refine norm_ (a' := ?_) ?_ ?_
    rotate_left
    ·show Act.put _ (some 8) _ = _
     simp only [Act.put, Z0, Z1, Z2, i64_w, i32_w]
     rfl
    exact norm_ (by simp only [putAll, Act.put, Z0, Z1, Z2]) (hCont (v168, v171, v174) _ ⟨hHeld, (by (with_reducible repeat (first | apply Z9 | apply Z10 | apply Z11)); exact Z12 HO169.out (fun _ hk => hk.2)), (by (with_reducible repeat (first | apply Z9 | apply Z10 | apply Z11)); exact Z12 HO172.out (fun _ hk => hk.2)), (by (with_reducible repeat (first | apply Z9 | apply Z10 | apply Z11)); exact HO175.out), (by (with_reducible repeat (first | refine Z26 ?_ _ | refine Z27 ?_ | refine Z28 ?_ _)); exact BK165.out), (by (with_reducible repeat (first | refine Z26 ?_ _ | refine Z27 ?_ | refine Z28 ?_ _)); exact BK166.out), (by repeat (first | (with_reducible first | exact HB.out | apply Z5 | apply Z3 | apply Z4 | refine Z6 ?_ GE165.out | refine Z6 ?_ GE166.out) | exact HB.out))⟩)
  rintro ⟨v168, v171, v174⟩ w13 ⟨hS_, h0_, h1_, h2_, h3_, h4_, h5_⟩
  have n0_ : Aside0 (Kd.R (Kd.int .i64) 3 w13 w.heap.size (fun k_ => some k_ ≠ (v171 : Value).ownBlock) v168 t167) := ⟨h0_⟩
  have n1_ : Aside0 (Kd.R (Kd.int .i64) 3 w13 w.heap.size (fun k_ => some k_ ≠ (v168 : Value).ownBlock) v171 t170) := ⟨h1_⟩
  have n2_ : Aside0 (Kd.R Kd.bool 4 w13 w.heap.size (fun _ => True) v174 y173) := ⟨h2_⟩
  have n3_ : Aside0 (w13.heap[gb165]? = some (.cells #[.slice A0_0 l0_0.length c0_0, .slice A0_1 l0_1.length c0_1, .slice A0_2 l0_2.length c0_2, .slice A0_3 l0_3.length c0_3] 29 (0, 0))) := ⟨h3_⟩
  have n4_ : Aside0 (w13.heap[gb166]? = some (.cells #[.slice none 0 0, .slice none 0 0, .slice none 0 0, .slice none 0 0] 29 (0, 0))) := ⟨h4_⟩
  have n5_ : Aside0 (Below w.heap.size w w13) := ⟨h5_⟩
  clear BK165
  clear BK166
  clear HB
  clear h0_ h1_ h2_ h3_ h4_ h5_
  have HO169 := n0_
  have HO172 := n1_
  have HO175 := n2_
  have BK165 := n3_
  have BK166 := n4_
  have HB := n5_
  clear n0_ n1_ n2_ n3_ n4_ n5_
  have hHeld : w13.cell? ⟨gb165, 0, none⟩ = some (.slice A0_0 l0_0.length c0_0) ∧ w13.cell? ⟨gb165, 1, none⟩ = some (.slice A0_1 l0_1.length c0_1) ∧ w13.cell? ⟨gb165, 2, none⟩ = some (.slice A0_2 l0_2.length c0_2) ∧ w13.cell? ⟨gb165, 3, none⟩ = some (.slice A0_3 l0_3.length c0_3) := hS_
  refine norm_ (a' := ?_) ?_ ?_
  rotate_left
  ·simp only [putAll, Act.put, Z0, Z1, Z2]
   rfl
  refine one_ (i := 9) (N := some 12) #[true, true, true, true, true, true, true, true, true, true, true, true, false, false, false] rfl rfl (one_of HT_.out (by kernel_rfl)) (by decide) (fun K hK => ?_)
  refine Kd.R_append_rows_step Kd.bool (w0 := w) w.heap.size (by rfl) (.tmp 9) (.tmp 11) 23 4 (.bool false) 1 rfl Try.underlying23 info4 rfl (by decide) (by omega) v174 y173 l0_2 _ _ _ (fun _ => True) (fun _ => False) rfl rfl ?aO ?aR (fun _ _ h => h) (fun _ h => h.elim) ?aF ?aB ?aS ?aL ?_
  (case aR => repeat (first | exact (Z23 HR0_2.out HB.out) | (with_reducible refine Z20 ?_ _) | (with_reducible refine Z21 ?_ _) | (with_reducible refine Z22 ?_)))
  (case aB => exact (by repeat (first | (with_reducible first | exact HB.out | apply Z5 | apply Z3 | apply Z4 | refine Z6 ?_ GE165.out | refine Z6 ?_ GE166.out) | exact HB.out)))
  (case aF => exact (fun _ _ => trivial))
  (case aO => exact (by (with_reducible repeat (first | apply Z9 | apply Z10 | apply Z11)); exact HO175.out))
  (case aS => exact (Z7 (by repeat (first | (with_reducible first | exact HB.out | apply Z5 | apply Z3 | apply Z4 | refine Z6 ?_ GE165.out | refine Z6 ?_ GE166.out) | exact HB.out))))
  (case aL => have := LMc4.out; omega)
  intro v177 w14 ho hb hg hat
  rw [← Ny176.out] at ho
  have n0_ := Aside0.mk (blk_grown (g := gb165) (o := .cells #[.slice A0_0 l0_0.length c0_0, .slice A0_1 l0_1.length c0_1, .slice A0_2 l0_2.length c0_2, .slice A0_3 l0_3.length c0_3] 29 (0, 0)) (by (with_reducible repeat (first | refine Z26 ?_ _ | refine Z27 ?_ | refine Z28 ?_ _)); exact BK165.out) hg (Kd.R_ne HO175.out BK165.out (by decide)))
  have n1_ := Aside0.mk (blk_grown (g := gb166) (o := .cells #[.slice none 0 0, .slice none 0 0, .slice none 0 0, .slice none 0 0] 29 (0, 0)) (by (with_reducible repeat (first | refine Z26 ?_ _ | refine Z27 ?_ | refine Z28 ?_ _)); exact BK166.out) hg (Kd.R_ne HO175.out BK166.out (by decide)))
  have n2_ := Aside0.mk (Kd.R_over' (by (with_reducible repeat (first | apply Z9 | apply Z10 | apply Z11)); exact HO169.out) (Kd.R_typed (by (with_reducible repeat (first | apply Z9 | apply Z10 | apply Z11)); exact HO175.out)) (by decide) hg)
  have n3_ := Aside0.mk (Kd.R_over' (by (with_reducible repeat (first | apply Z9 | apply Z10 | apply Z11)); exact HO172.out) (Kd.R_typed (by (with_reducible repeat (first | apply Z9 | apply Z10 | apply Z11)); exact HO175.out)) (by decide) hg)
  have n4_ := Aside0.mk (hb)
  have n5_ := Aside0.mk (ho)
  clear BK165
  clear BK166
  clear HO169
  clear HO172
  clear HB
  clear HO175
  have BK165 := n0_
  have BK166 := n1_
  have HO169 := n2_
  have HO172 := n3_
  have HB := n4_
  have HO178 := n5_
  clear n0_ n1_ n2_ n3_ n4_ n5_
  clear ho hb hg hat
  refine hK.out _ _ ⟨(Z24 BK165.out 0).trans rfl, (Z24 BK165.out 1).trans rfl, (Z24 BK165.out 2).trans rfl, (Z24 BK165.out 3).trans rfl⟩ (fun hHeld => ?_)
  clear hK K
  refine norm_ (a' := ?_) ?_ ?_
  rotate_left
  ·show Act.put _ (some 12) _ = _
   simp only [Act.put, Z0, Z1, Z2, i64_w, i32_w]
   rfl
  refine one_ (i := 12) (N := some 15) #[true, true, true, true, true, true, true, true, true, true, true, true, true, false, false] rfl rfl (one_of HT_.out (by kernel_rfl)) (by decide) (fun K hK => ?_)
  refine goes_ Try.func95 (by kernel_rfl) rfl #[.slice A0_3 l0_3.length c0_3] (by rfl) rfl rfl (by (try simp only [Z34, Z35, Z36]); first | done | rfl | (simp only [Z32, Z33]; rfl)) ?_
  with_reducible refine (spec_l1Own.calls _ _ l0_3 t179 _ ?side1 ?side2 A5.out).mono ?_
  (case side1 => repeat (first | exact (Z23 HR0_3.out HB.out) | (with_reducible refine Z20 ?_ _) | (with_reducible refine Z21 ?_ _) | (with_reducible refine Z22 ?_)))
  (case side2 => exact HC0_3.out)
  rintro e w15 ⟨v180, rfl, ho0, hb⟩
  refine ⟨_, rfl, ?_⟩
  have n0_ := Aside0.mk (Kd.R_elder' (by (with_reducible repeat (first | apply Z9 | apply Z10 | apply Z11)); exact HO169.out) (Kd.R_base ho0) hb)
  have n1_ := Aside0.mk (Kd.R_elder' (by (with_reducible repeat (first | apply Z9 | apply Z10 | apply Z11)); exact HO172.out) (Kd.R_base ho0) hb)
  have n2_ := Aside0.mk (Z14 (by (with_reducible repeat (first | apply Z9 | apply Z10 | apply Z11)); exact HO178.out) hb)
  have n3_ := Aside0.mk (Kd.R_lower (Kd.R_new' (Kd.R_new' ho0 (Z18 (by (with_reducible repeat (first | apply Z9 | apply Z10 | apply Z11)); exact HO169.out))) (Z18 (by (with_reducible repeat (first | apply Z9 | apply Z10 | apply Z11)); exact HO172.out))) (Z7 (by repeat (first | (with_reducible first | exact HB.out | apply Z5 | apply Z3 | apply Z4 | refine Z6 ?_ GE165.out | refine Z6 ?_ GE166.out) | exact HB.out))))
  have n4_ := Aside0.mk (Z29 (g := gb165) (o := .cells #[.slice A0_0 l0_0.length c0_0, .slice A0_1 l0_1.length c0_1, .slice A0_2 l0_2.length c0_2, .slice A0_3 l0_3.length c0_3] 29 (0, 0)) (by (with_reducible repeat (first | refine Z26 ?_ _ | refine Z27 ?_ | refine Z28 ?_ _)); exact BK165.out) hb)
  have n5_ := Aside0.mk (Z29 (g := gb166) (o := .cells #[.slice none 0 0, .slice none 0 0, .slice none 0 0, .slice none 0 0] 29 (0, 0)) (by (with_reducible repeat (first | refine Z26 ?_ _ | refine Z27 ?_ | refine Z28 ?_ _)); exact BK166.out) hb)
  have n6_ := Aside0.mk (Z8 (by repeat (first | (with_reducible first | exact HB.out | apply Z5 | apply Z3 | apply Z4 | refine Z6 ?_ GE165.out | refine Z6 ?_ GE166.out) | exact HB.out)) hb)
  clear HO169
  clear HO172
  clear HO178
  clear BK165
  clear BK166
  clear HB
  have HO169 := n0_
  have HO172 := n1_
  have HO178 := n2_
  have HO181 := n3_
  have BK165 := n4_
  have BK166 := n5_
  have HB := n6_
  clear n0_ n1_ n2_ n3_ n4_ n5_ n6_
  (try clear hb)
  (try clear hb2)
  (try clear hk)
  (try clear hi)
  (try clear ho0)
  obtain ⟨Ao16, co16, eo16⟩ := Z19 HO181.out
  (first | subst eo16 | (injection eo16 with f1_ f2_ f3_; have f4_ := f1_.symm; have f5_ := f3_.symm; clear f1_ f2_ f3_; subst f4_; subst f5_))
  obtain ⟨Ao17, co17, eo17⟩ := Z19 HO178.out
  (first | subst eo17 | (injection eo17 with f1_ f2_ f3_; have f4_ := f1_.symm; have f5_ := f3_.symm; clear f1_ f2_ f3_; subst f4_; subst f5_))
  obtain ⟨Ao18, co18, eo18⟩ := Z19 HO172.out
  (first | subst eo18 | (injection eo18 with f1_ f2_ f3_; have f4_ := f1_.symm; have f5_ := f3_.symm; clear f1_ f2_ f3_; subst f4_; subst f5_))
  obtain ⟨Ao19, co19, eo19⟩ := Z19 HO169.out
  (first | subst eo19 | (injection eo19 with f1_ f2_ f3_; have f4_ := f1_.symm; have f5_ := f3_.symm; clear f1_ f2_ f3_; subst f4_; subst f5_))
  refine hK.out _ _ ⟨(Z24 BK165.out 0).trans rfl, (Z24 BK165.out 1).trans rfl, (Z24 BK165.out 2).trans rfl, (Z24 BK165.out 3).trans rfl⟩ (fun hHeld => ?_)
  clear hK K
  refine norm_ (a' := ?_) ?_ ?_
  rotate_left
  ·show Act.put _ (some 15) _ = _
   simp only [Act.put, Z0, Z1, Z2, i64_w, i32_w]
   rfl
  refine pure_ (i := 13) (N := some 16) (v := ?_) (a' := ?_) #[true, true, true, true, true, true, true, true, true, true, true, true, true, true, false] rfl rfl (any_of HT_.out (by kernel_rfl)) (fun _ _ _ h => h) (Or.inl ⟨by rfl, ?_⟩) ?_ ?_
  rotate_left
  ·intro w'
   go_simp
   with_reducible rfl
  rotate_left
  ·simp only [Act.put, Z0, Z1, Z2, i64_w, i32_w]
   rfl
  refine one_ (i := 14) (N := none) #[true, true, true, true, true, true, true, true, true, true, true, true, true, true, true] rfl rfl (one_of HT_.out (by kernel_rfl)) (by decide) (fun K hK => ?_)
  have hs20 : w15.cell? ⟨gb166, 0, none⟩ = some (.slice none 0 0) := (Z24 BK166.out 0).trans rfl
  have hfs20 := Z25 BK166.out 0
  have hns20_0 := NB165_166.out
  have hms20_0 := NB166_165.out
  have hs21 : w15.cell? ⟨gb166, 1, none⟩ = some (.slice none 0 0) := (Z24 BK166.out 1).trans rfl
  have hfs21 := Z25 BK166.out 1
  have hns21_0 := NB165_166.out
  have hms21_0 := NB166_165.out
  have hs22 : w15.cell? ⟨gb166, 2, none⟩ = some (.slice none 0 0) := (Z24 BK166.out 2).trans rfl
  have hfs22 := Z25 BK166.out 2
  have hns22_0 := NB165_166.out
  have hms22_0 := NB166_165.out
  have hs23 : w15.cell? ⟨gb166, 3, none⟩ = some (.slice none 0 0) := (Z24 BK166.out 3).trans rfl
  have hfs23 := Z25 BK166.out 3
  have hns23_0 := NB165_166.out
  have hms23_0 := NB166_165.out
  refine skip_ (w1 := ?_) (by rfl) rfl ?_ ?_
  rotate_left
  ·go_simp
   rfl
  refine hK.out _ _ ⟨((cell_far (p := ⟨gb166, _, none⟩) NB165_166.out _).trans (((cell_far (p := ⟨gb166, _, none⟩) NB165_166.out _).trans (((cell_far (p := ⟨gb166, _, none⟩) NB165_166.out _).trans (((cell_far (p := ⟨gb166, _, none⟩) NB165_166.out _).trans (hHeld.1)))))))), ((cell_far (p := ⟨gb166, _, none⟩) NB165_166.out _).trans (((cell_far (p := ⟨gb166, _, none⟩) NB165_166.out _).trans (((cell_far (p := ⟨gb166, _, none⟩) NB165_166.out _).trans (((cell_far (p := ⟨gb166, _, none⟩) NB165_166.out _).trans (hHeld.2.1)))))))), ((cell_far (p := ⟨gb166, _, none⟩) NB165_166.out _).trans (((cell_far (p := ⟨gb166, _, none⟩) NB165_166.out _).trans (((cell_far (p := ⟨gb166, _, none⟩) NB165_166.out _).trans (((cell_far (p := ⟨gb166, _, none⟩) NB165_166.out _).trans (hHeld.2.2.1)))))))), ((cell_far (p := ⟨gb166, _, none⟩) NB165_166.out _).trans (((cell_far (p := ⟨gb166, _, none⟩) NB165_166.out _).trans (((cell_far (p := ⟨gb166, _, none⟩) NB165_166.out _).trans (((cell_far (p := ⟨gb166, _, none⟩) NB165_166.out _).trans (hHeld.2.2.2))))))))⟩ (fun hHeld => ?_)
  clear hK K
  refine done_ (done_of HT_.out (by kernel_rfl)) ?_
  try go_wp2
  refine bodyPost_ret (results_cell_row rfl _ _ gb166 29 #[.slice Ao19 t167.length co19, .slice Ao18 t170.length co18, .slice Ao17 y176.length co17, .slice Ao16 t179.length co16] (0, 0) _ rfl (by (with_reducible repeat (first | refine Z26 ?_ _ | refine Z27 ?_ | refine Z28 ?_ _)); refine Z30 (cs := #[.slice Ao19 t167.length co19, .slice Ao18 t170.length co18, .slice Ao17 y176.length co17, .slice none 0 0]) ?_ 3 _ rfl; (with_reducible repeat (first | refine Z26 ?_ _ | refine Z27 ?_ | refine Z28 ?_ _)); refine Z30 (cs := #[.slice Ao19 t167.length co19, .slice Ao18 t170.length co18, .slice none 0 0, .slice none 0 0]) ?_ 2 _ rfl; (with_reducible repeat (first | refine Z26 ?_ _ | refine Z27 ?_ | refine Z28 ?_ _)); refine Z30 (cs := #[.slice Ao19 t167.length co19, .slice none 0 0, .slice none 0 0, .slice none 0 0]) ?_ 1 _ rfl; (with_reducible repeat (first | refine Z26 ?_ _ | refine Z27 ?_ | refine Z28 ?_ _)); refine Z30 (cs := #[.slice none 0 0, .slice none 0 0, .slice none 0 0, .slice none 0 0]) ?_ 0 _ rfl; (with_reducible repeat (first | refine Z26 ?_ _ | refine Z27 ?_ | refine Z28 ?_ _)); exact BK166.out) Try.underlying29 rfl (by kernel_rfl)) rfl ?_
  exact ⟨_, _, _, _, by first | rfl | (simp [errW_none, errW_some] <;> rfl) | (simp [*, errW_none, errW_some] <;> rfl), by (with_reducible repeat (first | apply Z9 | apply Z10 | apply Z11)); exact Z12 (Z13 (p := ⟨gb166, 3, none⟩) (Z13 (p := ⟨gb166, 2, none⟩) (Z13 (p := ⟨gb166, 1, none⟩) (Z13 (p := ⟨gb166, 0, none⟩) (Z15 HO169.out BK166.out (by decide)) (fun _ hk => hk.2) (.slice Ao19 t167.length co19)) (fun _ hk => hk.2) (.slice Ao18 t170.length co18)) (fun _ hk => hk.2) (.slice Ao17 y176.length co17)) (fun _ hk => hk.2) (.slice Ao16 t179.length co16)) (fun _ hk => ⟨hk.1.1, hk.1.2⟩), by (with_reducible repeat (first | apply Z9 | apply Z10 | apply Z11)); exact Z12 (Z13 (p := ⟨gb166, 3, none⟩) (Z13 (p := ⟨gb166, 2, none⟩) (Z13 (p := ⟨gb166, 1, none⟩) (Z13 (p := ⟨gb166, 0, none⟩) (Z15 HO172.out BK166.out (by decide)) (fun _ hk => hk.2) (.slice Ao19 t167.length co19)) (fun _ hk => hk.2) (.slice Ao18 t170.length co18)) (fun _ hk => hk.2) (.slice Ao17 y176.length co17)) (fun _ hk => hk.2) (.slice Ao16 t179.length co16)) (fun _ hk => ⟨hk.1.1, hk.1.2⟩), by (with_reducible repeat (first | apply Z9 | apply Z10 | apply Z11)); exact Z12 (Z13 (p := ⟨gb166, 3, none⟩) (Z13 (p := ⟨gb166, 2, none⟩) (Z13 (p := ⟨gb166, 1, none⟩) (Z13 (p := ⟨gb166, 0, none⟩) (Z15 HO178.out BK166.out (by decide)) (fun _ hk => hk.2) (.slice Ao19 t167.length co19)) (fun _ hk => hk.2) (.slice Ao18 t170.length co18)) (fun _ hk => hk.2) (.slice Ao17 y176.length co17)) (fun _ hk => hk.2) (.slice Ao16 t179.length co16)) (fun _ hk => trivial), by (with_reducible repeat (first | apply Z9 | apply Z10 | apply Z11)); exact Z12 (Z13 (p := ⟨gb166, 3, none⟩) (Z13 (p := ⟨gb166, 2, none⟩) (Z13 (p := ⟨gb166, 1, none⟩) (Z13 (p := ⟨gb166, 0, none⟩) (Z15 HO181.out BK166.out (by decide)) (fun _ hk => hk.2) (.slice Ao19 t167.length co19)) (fun _ hk => hk.2) (.slice Ao18 t170.length co18)) (fun _ hk => hk.2) (.slice Ao17 y176.length co17)) (fun _ hk => hk.2) (.slice Ao16 t179.length co16)) (fun _ hk => ⟨hk.1.1.2, hk.1.2⟩), by repeat (first | (with_reducible first | exact HB.out | apply Z5 | apply Z3 | apply Z4 | refine Z6 ?_ GE165.out | refine Z6 ?_ GE166.out) | exact HB.out)⟩
 ·rw [if_neg c4] at H
  exact absurd H (by simp)
end Go.Proofs.Ytedijkelbdpcdaa.MFnExactIsLastFocus
