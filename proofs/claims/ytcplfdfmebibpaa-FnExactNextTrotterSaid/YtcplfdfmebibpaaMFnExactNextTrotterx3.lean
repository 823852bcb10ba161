/- Functions of the program as Lean functions, each with the proof that its call comes to just that: laid for this claim by this session's own program. -/
import Derived.Test.YtcplfdfmebibpaaMFnExactNextTrotterx0
import Derived.Test.YtcplfdfmebibpaaMFnExactNextTrotterx1
import Derived.Test.YtcplfdfmebibpaaMFnExactNextTrotterx2
namespace Go.Proofs.Ytcplfdfmebibpaa.MFnExactNextTrotter
open Go.RowKit Go.Proofs.YtcplfdfmebibpaaW.PrintWords Go.Proofs.YtcplfdfmebibpaaW.PrintLast Go.Proofs.YtcplfdfmebibpaaW.PrintMore
attribute [local go_sem] max2_int min2_int max_two min_two max_three min_three max_four min_four   -- for this text's walks alone
set_option linter.unusedVariables false
set_option linter.unusedSimpArgs false

/-! ### spec_NextTrotter: function 45 -/
def spec_NextTrotter.j0 : Nat → List Int → Bool → Option (List Int × Int × Bool)
  | 0, _, _ => none
  | k + 1, x0, x17 => if x17 = true then (some (([] : List Int), 0, false)) else ((spec_moTrotterRank.f k x0).bind fun t178 => ((spec_moTrotter.f k (x0.length : Int) (wrap64 (t178 + 1))).bind fun t179 => ((spec_moFirst.f k x0 t179).bind fun t182 => (some (t179, t182, true)))))
def spec_NextTrotter.f (k : Nat) (l0 : List Int) : Option (List Int × Int × Bool) := (spec_raPermutation.f k l0).bind fun t175 => (if t175 = true then ((spec_moTrotterRank.f k l0).bind fun t176 => ((spec_raFactorial.f k (l0.length : Int)).bind fun t177 => (spec_NextTrotter.j0 k l0 ((wrap64 (t176 + 1)) == t177)))) else (spec_NextTrotter.j0 k l0 true))
theorem spec_NextTrotter.mono_l : ∀ k, (∀ y0 y1, LeO (spec_NextTrotter.j0 k y0 y1) (spec_NextTrotter.j0 (k + 1) y0 y1))
  | 0 => fun _ _ r h => by simp [spec_NextTrotter.j0] at h
  | k + 1 => by
    have ih0 := spec_NextTrotter.mono_l k
    · intro y0 y1
      unfold spec_NextTrotter.j0
      repeat' first
      | (with_reducible exact ih0 _ _)
      | (with_reducible exact spec_moFirst.mono _ _ _)
      | (with_reducible exact spec_moTrotter.mono _ _ _)
      | (with_reducible exact spec_moTrotterRank.mono _ _)
      | (with_reducible exact spec_raFactorial.mono _ _)
      | (with_reducible exact spec_raPermutation.mono _ _)
      | (with_reducible exact LeO.refl _)
      | (with_reducible exact LeO.none _)
      | (with_reducible refine LeO.ite ?_ ?_)
      | (with_reducible refine LeO.bind ?_ (fun _ => ?_))
      | exact ih0 _ _
      | exact spec_moFirst.mono _ _ _
      | exact spec_moTrotter.mono _ _ _
      | exact spec_moTrotterRank.mono _ _
      | exact spec_raFactorial.mono _ _
      | exact spec_raPermutation.mono _ _
      | exact LeO.none _
      | refine LeO.ite ?_ ?_
      | refine LeO.bind ?_ (fun _ => ?_)
theorem spec_NextTrotter.mono : ∀ a0 k, LeO (spec_NextTrotter.f k a0) (spec_NextTrotter.f (k + 1) a0) := by
  intro a0 k
  have ih0 := spec_NextTrotter.mono_l k
  unfold spec_NextTrotter.f
  repeat' first
      | (with_reducible exact ih0 _ _)
      | (with_reducible exact spec_moFirst.mono _ _ _)
      | (with_reducible exact spec_moTrotter.mono _ _ _)
      | (with_reducible exact spec_moTrotterRank.mono _ _)
      | (with_reducible exact spec_raFactorial.mono _ _)
      | (with_reducible exact spec_raPermutation.mono _ _)
      | (with_reducible exact LeO.refl _)
      | (with_reducible exact LeO.none _)
      | (with_reducible refine LeO.ite ?_ ?_)
      | (with_reducible refine LeO.bind ?_ (fun _ => ?_))
      | exact ih0 _ _
      | exact spec_moFirst.mono _ _ _
      | exact spec_moTrotter.mono _ _ _
      | exact spec_moTrotterRank.mono _ _
      | exact spec_raFactorial.mono _ _
      | exact spec_raPermutation.mono _ _
      | exact LeO.none _
      | refine LeO.ite ?_ ?_
      | refine LeO.bind ?_ (fun _ => ?_)
set_option maxHeartbeats 8000000 in
set_option maxRecDepth 100000 in
theorem spec_NextTrotter.calls (k : Nat) (A0 : Option Addr) (c0 : Nat) (l0 : List Int) (r1 : List Int) (r2 : Int) (r3 : Bool) (w : World) (hr0 : Kd.C (Kd.int .i64) w A0 l0.length l0) (hc0 : l0.length ≤ c0) (h : spec_NextTrotter.f k l0 = some (r1, r2, r3)) :
    Calls Try.prog 45 #[.slice A0 l0.length c0] w fun e w' => ∃ v0_ : Value, e = .returned (.tuple #[v0_, .int .i64 r2, .bool r3]) ∧ Kd.R (Kd.int .i64) 3 w' w.heap.size (fun _ => True) v0_ r1 ∧ Below w.heap.size w w' := by
  have HR0 := Aside0.mk hr0
  have HC0 := Aside0.mk hc0
  clear hr0 hc0
  have HB := Aside0.mk (Below.refl w.heap.size w)
  have H : ((spec_raPermutation.f k l0).bind fun t175 => (if t175 = true then ((spec_moTrotterRank.f k l0).bind fun t176 => ((spec_raFactorial.f k (l0.length : Int)).bind fun t177 => (spec_NextTrotter.j0 k l0 ((wrap64 (t176 + 1)) == t177)))) else (spec_NextTrotter.j0 k l0 true))) = some (r1, r2, r3) := h
  clear h
  have HC2 := Aside0.mk H
  clear H
  go_enter Try.func45, Try.ntmps45
  go_upto_region 1 with (fail)
  go_cut [17] (fun v17 wc => ∃ (kq : Nat) (x17_1 : Bool), v17 = .bool x17_1 ∧ Aside0 (spec_NextTrotter.j0 kq l0 x17_1 = some (r1, r2, r3)) ∧ Aside0 (kq ≤ k) ∧ Aside0 (Below w.heap.size w wc))
  case first =>
    have H := HC2.out
    clear HC2
    replace H := Option.bind_eq_some_iff.mp H
    obtain ⟨t175, A30, H⟩ := H
    replace H : (if t175 = true then ((spec_moTrotterRank.f k l0).bind fun t176 => ((spec_raFactorial.f k (l0.length : Int)).bind fun t177 => (spec_NextTrotter.j0 k l0 ((wrap64 (t176 + 1)) == t177)))) else (spec_NextTrotter.j0 k l0 true)) = some (r1, r2, r3) := H
    have A3 := Aside0.mk A30
    clear A30
    by_cases c4 : t175 = true
    · subst c4
      have H1 : ((spec_moTrotterRank.f k l0).bind fun t176 => ((spec_raFactorial.f k (l0.length : Int)).bind fun t177 => (spec_NextTrotter.j0 k l0 ((wrap64 (t176 + 1)) == t177)))) = some (r1, r2, r3) := by rw [if_pos rfl] at H; exact H
      clear H
      have H := H1
      clear H1
      replace H := Option.bind_eq_some_iff.mp H
      obtain ⟨t176, A50, H⟩ := H
      replace H : ((spec_raFactorial.f k (l0.length : Int)).bind fun t177 => (spec_NextTrotter.j0 k l0 ((wrap64 (t176 + 1)) == t177))) = some (r1, r2, r3) := H
      have A5 := Aside0.mk A50
      clear A50
      replace H := Option.bind_eq_some_iff.mp H
      obtain ⟨t177, A60, H⟩ := H
      replace H : (spec_NextTrotter.j0 k l0 ((wrap64 (t176 + 1)) == t177)) = some (r1, r2, r3) := H
      have A6 := Aside0.mk A60
      clear A60
      have H' := Aside0.mk H
      clear H
      go_wp2_with (first | ((with_reducible refine gate_callee (f := 81) rfl ?_); refine goesL_ (some 7) rfl rfl Try.func81 (by kernel_rfl) rfl #[.slice A0 l0.length c0] rfl (by (try simp only [List.map_toArray, List.map_cons, List.map_nil]); first | done | rfl | (simp only [List.length_drop, List.length_take]; rfl)) ?_; (with_reducible refine (spec_raPermutation.calls k _ _ l0 true _ ?side1 ?side2 A3.out).mono ?_); (case side1 => repeat (first | exact (Kd.C_below HR0.out HB.out) | (with_reducible refine Kd.C_alloc ?_ _) | (with_reducible refine Kd.C_drewN ?_ _) | (with_reducible refine Kd.C_drew ?_))); (case side2 => exact HC0.out); rintro e w' ⟨rfl, ⟨nd, rfl⟩⟩; refine ⟨_, rfl, ?_⟩) | (go_at_call 82; (with_reducible refine (spec_moTrotterRank.calls k _ _ l0 t176 _ ?side1 ?side2 A5.out).mono ?_); (case side1 => repeat (first | exact (Kd.C_below HR0.out (by repeat (first | (with_reducible first | exact HB.out | apply below_alloc | apply pw_below_drewN | apply below_drew1) | exact HB.out))) | (with_reducible refine Kd.C_alloc ?_ _) | (with_reducible refine Kd.C_drewN ?_ _) | (with_reducible refine Kd.C_drew ?_))); (case side2 => exact HC0.out); rintro e w7 ⟨rfl, hb⟩; have n0_ := Aside0.mk (below_step (by repeat (first | (with_reducible first | exact HB.out | apply below_alloc | apply pw_below_drewN | apply below_drew1) | exact HB.out)) hb); clear HB; have HB := n0_; clear n0_; (try clear hb); (try clear hb2); (try clear hk); (try clear hi)) | (go_at_call 55; (with_reducible refine (spec_raFactorial.calls k (l0.length : Int) t177 _ A6.out).mono ?_); rintro e w' ⟨rfl, ⟨nd, rfl⟩⟩))
      go_meet
      case rel => exact ⟨_, (((wrap64 (t176 + 1)) == t177)), (by first | rfl | (simp; done) | (simp [*]; done)), H', ⟨by first | omega | exact Nat.le_refl _⟩, ⟨by repeat (first | (with_reducible first | exact HB.out | apply below_alloc | apply pw_below_drewN | apply below_drew1) | exact HB.out)⟩⟩
    · replace c4 := Bool.eq_false_iff.mpr c4
      subst c4
      have H1 : (spec_NextTrotter.j0 k l0 true) = some (r1, r2, r3) := by rw [if_neg (show ¬ (false = true) by decide)] at H; exact H
      clear H
      have H := H1
      clear H1
      have H' := Aside0.mk H
      clear H
      go_wp2_with (first | ((with_reducible refine gate_callee (f := 81) rfl ?_); refine goesL_ (some 7) rfl rfl Try.func81 (by kernel_rfl) rfl #[.slice A0 l0.length c0] rfl (by (try simp only [List.map_toArray, List.map_cons, List.map_nil]); first | done | rfl | (simp only [List.length_drop, List.length_take]; rfl)) ?_; (with_reducible refine (spec_raPermutation.calls k _ _ l0 false _ ?side1 ?side2 A3.out).mono ?_); (case side1 => repeat (first | exact (Kd.C_below HR0.out HB.out) | (with_reducible refine Kd.C_alloc ?_ _) | (with_reducible refine Kd.C_drewN ?_ _) | (with_reducible refine Kd.C_drew ?_))); (case side2 => exact HC0.out); rintro e w' ⟨rfl, ⟨nd, rfl⟩⟩; refine ⟨_, rfl, ?_⟩))
      go_meet
      case rel => exact ⟨_, (true), (by first | rfl | (simp; done) | (simp [*]; done)), H', ⟨by first | omega | exact Nat.le_refl _⟩, ⟨by repeat (first | (with_reducible first | exact HB.out | apply below_alloc | apply pw_below_drewN | apply below_drew1) | exact HB.out)⟩⟩
  case rest =>
    clear HC2
    try clear p2
    try clear c4
    try clear p6
    obtain ⟨kq, x17_1, rfl, HA, HJ1, HB⟩ := hcut
    cases kq with
    | zero => exact absurd HA.out (by simp [spec_NextTrotter.j0])
    | succ kj1 =>
      have H := HA.out
      clear HA
      simp only [spec_NextTrotter.j0] at H
      by_cases c8 : x17_1 = true
      · subst c8
        have H1 : (some (([] : List Int), 0, false)) = some (r1, r2, r3) := by rw [if_pos rfl] at H; exact H
        clear H
        have H := H1
        clear H1
        simp only [Option.some.injEq, Prod.mk.injEq] at H
        obtain ⟨rfl, rfl, rfl⟩ := H
        go_wp2
        go_ret3
        exact ⟨_, by first | rfl | (simp [errW_none, errW_some] <;> rfl) | (simp [*, errW_none, errW_some] <;> rfl), by first | exact Kd.R_nil _ _ _ _ _ | exact Kd.N_nil _ _ _ _ _ | exact Kd.V_nil _ _ _ _ _ | exact Kd.Q_nil _ _ _ _ _ | exact Kd.S_nil _ _ _ _ _, by repeat (first | (with_reducible first | exact HB.out | apply below_alloc | apply pw_below_drewN | apply below_drew1) | exact HB.out)⟩
      · replace c8 := Bool.eq_false_iff.mpr c8
        subst c8
        have H1 : ((spec_moTrotterRank.f kj1 l0).bind fun t178 => ((spec_moTrotter.f kj1 (l0.length : Int) (wrap64 (t178 + 1))).bind fun t179 => ((spec_moFirst.f kj1 l0 t179).bind fun t182 => (some (t179, t182, true))))) = some (r1, r2, r3) := by rw [if_neg (show ¬ (false = true) by decide)] at H; exact H
        clear H
        have H := H1
        clear H1
        replace H := Option.bind_eq_some_iff.mp H
        obtain ⟨t178, A90, H⟩ := H
        replace H : ((spec_moTrotter.f kj1 (l0.length : Int) (wrap64 (t178 + 1))).bind fun t179 => ((spec_moFirst.f kj1 l0 t179).bind fun t182 => (some (t179, t182, true)))) = some (r1, r2, r3) := H
        have A9 := Aside0.mk A90
        clear A90
        replace H := Option.bind_eq_some_iff.mp H
        obtain ⟨t179, A100, H⟩ := H
        replace H : ((spec_moFirst.f kj1 l0 t179).bind fun t182 => (some (t179, t182, true))) = some (r1, r2, r3) := H
        have A10 := Aside0.mk A100
        clear A100
        replace H := Option.bind_eq_some_iff.mp H
        obtain ⟨t182, A110, H⟩ := H
        replace H : (some (t179, t182, true)) = some (r1, r2, r3) := H
        have A11 := Aside0.mk A110
        clear A110
        simp only [Option.some.injEq, Prod.mk.injEq] at H
        obtain ⟨rfl, rfl, rfl⟩ := H
        go_wp2_with (first | ((with_reducible refine gate_callee (f := 82) rfl ?_); refine goesL_ (some 21) rfl rfl Try.func82 (by kernel_rfl) rfl #[.slice A0 l0.length c0] rfl (by (try simp only [List.map_toArray, List.map_cons, List.map_nil]); first | done | rfl | (simp only [List.length_drop, List.length_take]; rfl)) ?_; (with_reducible refine (spec_moTrotterRank.calls kj1 _ _ l0 t178 _ ?side1 ?side2 A9.out).mono ?_); (case side1 => repeat (first | exact (Kd.C_below HR0.out HB.out) | (with_reducible refine Kd.C_alloc ?_ _) | (with_reducible refine Kd.C_drewN ?_ _) | (with_reducible refine Kd.C_drew ?_))); (case side2 => exact HC0.out); rintro e w12 ⟨rfl, hb⟩; refine ⟨_, rfl, ?_⟩; have n0_ := Aside0.mk (below_step (by repeat (first | (with_reducible first | exact HB.out | apply below_alloc | apply pw_below_drewN | apply below_drew1) | exact HB.out)) hb); clear HB; have HB := n0_; clear n0_; (try clear hb); (try clear hb2); (try clear hk); (try clear hi)) | ((with_reducible refine gate_callee (f := 56) rfl ?_); refine goesL_ (some 23) rfl rfl Try.func56 (by kernel_rfl) rfl #[.int .i64 (l0.length : Int), .int .i64 (wrap64 (t178 + 1))] rfl (by (try simp only [List.map_toArray, List.map_cons, List.map_nil]); first | done | rfl | (simp only [List.length_drop, List.length_take]; rfl)) ?_; (with_reducible refine (spec_moTrotter.calls kj1 (l0.length : Int) (wrap64 (t178 + 1)) t179 _ A10.out).mono ?_); rintro e w13 ⟨v180, rfl, ho0, hb⟩; refine ⟨_, rfl, ?_⟩; have n0_ := Aside0.mk (Kd.R_lower ho0 (below_size (by repeat (first | (with_reducible first | exact HB.out | apply below_alloc | apply pw_below_drewN | apply below_drew1) | exact HB.out)))); have n1_ := Aside0.mk (below_step (by repeat (first | (with_reducible first | exact HB.out | apply below_alloc | apply pw_below_drewN | apply below_drew1) | exact HB.out)) hb); clear HB; have HO181 := n0_; have HB := n1_; clear n0_ n1_; (try clear hb); (try clear hb2); (try clear hk); (try clear hi); (try clear ho0); obtain ⟨Ao14, co14, eo14⟩ := Kd.R_slice HO181.out; subst eo14) | ((with_reducible refine gate_callee (f := 87) rfl ?_); refine goesL_ (some 27) rfl rfl Try.func87 (by kernel_rfl) rfl #[.slice A0 l0.length c0, .slice Ao14 t179.length co14] rfl (by (try simp only [List.map_toArray, List.map_cons, List.map_nil]); first | done | rfl | (simp only [List.length_drop, List.length_take]; rfl)) ?_; (with_reducible refine (spec_moFirst.calls kj1 _ _ l0 _ _ t179 t182 _ ?side1 ?side2 ?side3 ?side4 A11.out).mono ?_); (case side1 => repeat (first | exact (Kd.C_below HR0.out HB.out) | (with_reducible refine Kd.C_alloc ?_ _) | (with_reducible refine Kd.C_drewN ?_ _) | (with_reducible refine Kd.C_drew ?_))); (case side2 => exact HC0.out); (case side3 => repeat (first | exact (Kd.R_reads' HO181.out).2.2 | (with_reducible refine Kd.C_alloc ?_ _) | (with_reducible refine Kd.C_drewN ?_ _) | (with_reducible refine Kd.C_drew ?_))); (case side4 => exact (Kd.R_reads' HO181.out).2.1); rintro e w' ⟨rfl, ⟨nd, rfl⟩⟩; refine ⟨_, rfl, ?_⟩))
        go_ret3
        exact ⟨_, by first | rfl | (simp [errW_none, errW_some] <;> rfl) | (simp [*, errW_none, errW_some] <;> rfl), by (with_reducible repeat (first | apply Kd.R_alloc | apply Kd.R_drewN | apply Kd.R_drew)); exact HO181.out, by repeat (first | (with_reducible first | exact HB.out | apply below_alloc | apply pw_below_drewN | apply below_drew1) | exact HB.out)⟩

/-! ### impl_within: function 57 -/
def impl_within.f (a0 : Int) (a1 : Int) (a2 : Int) : Option (Bool) := if a0 ≥ a1 then (some (decide (a0 ≤ a2))) else (some false)
set_option maxHeartbeats 8000000 in
set_option maxRecDepth 100000 in
theorem impl_within.calls (a0 : Int) (a1 : Int) (a2 : Int) (r : Bool) (w : World) (h : impl_within.f a0 a1 a2 = some r) :
    Calls Try.prog 57 #[.int .i64 a0, .int .i64 a1, .int .i64 a2] w fun e w' => e = .returned (.bool r) ∧ Drawn0 w w' := by
  have H : (if a0 ≥ a1 then (some (decide (a0 ≤ a2))) else (some false)) = some r := h
  clear h
  by_cases c4 : a0 ≥ a1
  · rw [if_pos c4] at H
    have c4b0 : decide (a1 ≤ a0) = true := decide_eq_true c4
    clear c4
    obtain rfl := Option.some.inj H
    go_enter Try.func57, Try.ntmps57
    go_wp2
    go_ret
    exact ⟨by first | rfl | (simp; done) | (simp [*]; done), by repeat (first | exact Drawn0.refl _ | apply Drawn0.step)⟩
  · rw [if_neg c4] at H
    have c4b0 : decide (a1 ≤ a0) = false := decide_eq_false c4
    clear c4
    obtain rfl := Option.some.inj H
    go_enter Try.func57, Try.ntmps57
    go_wp2
    go_ret
    exact ⟨by first | rfl | (simp; done) | (simp [*]; done), by repeat (first | exact Drawn0.refl _ | apply Drawn0.step)⟩

/-! ### impl_factorial: function 58 -/
def impl_factorial.l0 : Nat → Int → Int → Int → Option (Int)
  | 0, _, _, _ => none
  | k + 1, x0, x3, x4 => if x4 ≤ x0 then (impl_factorial.l0 k x0 (wrap64 (x3 * x4)) (wrap64 (x4 + 1))) else (some x3)
def impl_factorial.f (k : Nat) (a0 : Int) : Option (Int) := impl_factorial.l0 k a0 1 2
theorem impl_factorial.mono_l : ∀ k, (∀ y0 y1 y2, LeO (impl_factorial.l0 k y0 y1 y2) (impl_factorial.l0 (k + 1) y0 y1 y2))
  | 0 => fun _ _ _ r h => by simp [impl_factorial.l0] at h
  | k + 1 => by
    have ih0 := impl_factorial.mono_l k
    · intro y0 y1 y2
      unfold impl_factorial.l0
      repeat' first
      | (with_reducible exact ih0 _ _ _)
      | (with_reducible exact LeO.refl _)
      | (with_reducible exact LeO.none _)
      | (with_reducible refine LeO.ite ?_ ?_)
      | (with_reducible refine LeO.bind ?_ (fun _ => ?_))
      | exact ih0 _ _ _
      | exact LeO.none _
      | refine LeO.ite ?_ ?_
      | refine LeO.bind ?_ (fun _ => ?_)
theorem impl_factorial.mono : ∀ a0 k, LeO (impl_factorial.f k a0) (impl_factorial.f (k + 1) a0) := by
  intro a0 k
  have ih0 := impl_factorial.mono_l k
  unfold impl_factorial.f
  repeat' first
      | (with_reducible exact ih0 _ _ _)
      | (with_reducible exact LeO.refl _)
      | (with_reducible exact LeO.none _)
      | (with_reducible refine LeO.ite ?_ ?_)
      | (with_reducible refine LeO.bind ?_ (fun _ => ?_))
      | exact ih0 _ _ _
      | exact LeO.none _
      | refine LeO.ite ?_ ?_
      | refine LeO.bind ?_ (fun _ => ?_)
set_option maxHeartbeats 8000000 in
set_option maxRecDepth 100000 in
theorem impl_factorial.calls (k : Nat) (a0 : Int) (r : Int) (w : World) (h : impl_factorial.f k a0 = some r) :
    Calls Try.prog 58 #[.int .i64 a0] w fun e w' => e = .returned (.int .i64 r) ∧ Drawn0 w w' := by
  have H : (impl_factorial.l0 k a0 1 2) = some r := h
  clear h
  have H' := Aside0.mk H
  clear H
  go_enter Try.func58, Try.ntmps58
  go_wp2
  go_loopg [3, 4] k (fun kq v3 v4 w' => ∃ (x3_1 : Int) (x4_1 : Int), v3 = .int .i64 x3_1 ∧ v4 = .int .i64 x4_1 ∧ Aside0 (impl_factorial.l0 kq a0 x3_1 x4_1 = some r) ∧ Aside0 (kq ≤ k) ∧ Drawn0 w w')
  case atStart => exact ⟨(1), (2), (by first | rfl | (simp; done) | (simp [*]; done)), (by first | rfl | (simp; done) | (simp [*]; done)), H', ⟨Nat.le_refl _⟩, by repeat (first | exact Drawn0.refl _ | apply Drawn0.step)⟩
  case round =>
    clear H'
    obtain ⟨x3_1, x4_1, rfl, rfl, HA, HK1, ⟨m1, rfl⟩⟩ := hrel
    cases gk with
    | zero => exact absurd HA.out (by simp [impl_factorial.l0])
    | succ k1 =>
      have H := HA.out
      clear HA
      simp only [impl_factorial.l0] at H
      by_cases c2 : x4_1 ≤ a0
      · rw [if_pos c2] at H
        have c2b0 : decide (x4_1 ≤ a0) = true := decide_eq_true c2
        clear c2
        have H' := Aside0.mk H
        clear H
        go_wp2
        go_roundg k1
        case measure => have := HK1.out; omega
        case rel => exact ⟨(wrap64 (x3_1 * x4_1)), (wrap64 (x4_1 + 1)), (by first | rfl | (simp; done) | (simp [*]; done)), (by first | rfl | (simp; done) | (simp [*]; done)), H', ⟨by have := HK1.out; omega⟩, by repeat (first | exact Drawn0.refl _ | apply Drawn0.step)⟩
      · rw [if_neg c2] at H
        have c2b0 : decide (x4_1 ≤ a0) = false := decide_eq_false c2
        clear c2
        obtain rfl := Option.some.inj H
        go_wp2
        go_ret
        exact ⟨by first | rfl | (simp; done) | (simp [*]; done), by repeat (first | exact Drawn0.refl _ | apply Drawn0.step)⟩

-- NOT PRINTED: function 113 (slices_overlaps_int)

/-! ### slices_Reverse_int_int: function 99 -/
def slices_Reverse_int_int.l0 : Nat → List Int → Int → Int → Option (List Int)
  | 0, _, _, _ => none
  | k + 1, x0, x2, x3 => if x2 < x3 then (if 0 ≤ x3 then (if x3 < (x0.length : Int) then (if 0 ≤ x2 then (if x2 < (x0.length : Int) then (slices_Reverse_int_int.l0 k ((x0.set (x2 : Int).toNat (rd x0 x3)).set (x3 : Int).toNat (rd x0 x2)) (wrap64 (x2 + 1)) (wrap64 (x3 - 1))) else (none)) else (none)) else (none)) else (none)) else (some x0)
def slices_Reverse_int_int.f (k : Nat) (l0 : List Int) : Option (List Int) := slices_Reverse_int_int.l0 k l0 0 (wrap64 ((l0.length : Int) - 1))
theorem slices_Reverse_int_int.mono_l : ∀ k, (∀ y0 y1 y2, LeO (slices_Reverse_int_int.l0 k y0 y1 y2) (slices_Reverse_int_int.l0 (k + 1) y0 y1 y2))
  | 0 => fun _ _ _ r h => by simp [slices_Reverse_int_int.l0] at h
  | k + 1 => by
    have ih0 := slices_Reverse_int_int.mono_l k
    · intro y0 y1 y2
      unfold slices_Reverse_int_int.l0
      repeat' first
      | (with_reducible exact ih0 _ _ _)
      | (with_reducible exact LeO.refl _)
      | (with_reducible exact LeO.none _)
      | (with_reducible refine LeO.ite ?_ ?_)
      | (with_reducible refine LeO.bind ?_ (fun _ => ?_))
      | exact ih0 _ _ _
      | exact LeO.none _
      | refine LeO.ite ?_ ?_
      | refine LeO.bind ?_ (fun _ => ?_)
theorem slices_Reverse_int_int.mono : ∀ a0 k, LeO (slices_Reverse_int_int.f k a0) (slices_Reverse_int_int.f (k + 1) a0) := by
  intro a0 k
  have ih0 := slices_Reverse_int_int.mono_l k
  unfold slices_Reverse_int_int.f
  repeat' first
      | (with_reducible exact ih0 _ _ _)
      | (with_reducible exact LeO.refl _)
      | (with_reducible exact LeO.none _)
      | (with_reducible refine LeO.ite ?_ ?_)
      | (with_reducible refine LeO.bind ?_ (fun _ => ?_))
      | exact ih0 _ _ _
      | exact LeO.none _
      | refine LeO.ite ?_ ?_
      | refine LeO.bind ?_ (fun _ => ?_)
def slices_Reverse_int_int.T3 : Bool × List (List Nat × List Nat) := (true, [([], []), ([], []), ([], []), ([], []), ([], []), ([], []), ([4, 5], [4, 5]), ([6], [6]), ([], []), ([], []), ([8, 9], [8, 9]), ([10], [10]), ([0, 1, 0, 1, 4, 5, 6, 7, 11], [0, 1]), ([12, 7, 0, 1, 4, 5, 6, 7, 11], [7, 12]), ([2, 3, 0, 1, 2, 3, 4, 5, 6, 7, 8, 9, 10, 11, 12, 13], [2, 3]), ([14, 11, 13, 0, 1, 2, 3, 4, 5, 6, 7, 8, 9, 10, 11, 12, 13], [11, 14])])
def slices_Reverse_int_int.B3 : List Nat := [0, 0, 0, 0, 0, 0, 48, 112, 0, 0, 768, 1792, 4083, 8179, 16383, 32767]
theorem slices_Reverse_int_int.tab3 : rtab .any (opsOf Try.f99 3) = slices_Reverse_int_int.T3 := by kernel_rfl
theorem slices_Reverse_int_int.bits3 : waitsOk slices_Reverse_int_int.T3.2 slices_Reverse_int_int.B3 = true := by kernel_rfl
set_option maxHeartbeats 8000000 in
set_option maxRecDepth 100000 in
theorem slices_Reverse_int_int.calls (k : Nat) (P0_ : Nat → Prop) (u9000_ : Value) (l0 : List Int) (r : List Int) (w0 w : World) (hB : Below w0.heap.size w0 w) (ho0 : Kd.R (Kd.int .i64) 3 w w0.heap.size P0_ u9000_ l0) (h : slices_Reverse_int_int.f k l0 = some r) :
    Calls Try.prog 99 #[u9000_] w fun e w' => e = .returned (.tuple #[]) ∧ Kd.R (Kd.int .i64) 3 w' w0.heap.size (fun k_ => (P0_ k_ ∨ w.heap.size ≤ k_)) u9000_ r ∧ Below w0.heap.size w0 w' ∧ Kept w w' (fun k_ => P0_ k_) := by
  have HO0 := Aside0.mk (show Kd.R (Kd.int .i64) 3 w w0.heap.size (fun k_ => (P0_ k_ ∨ w.heap.size ≤ k_)) u9000_ l0 from Kd.R_mono ho0 (fun k_ hk => (.inl hk)))
  have HK := Aside0.mk (Kept.refl w (fun k_ => P0_ k_))
  have HW0 := Aside0.mk hB.size
  have HB := Aside0.mk hB
  clear hB
  have H : (slices_Reverse_int_int.l0 k l0 0 (wrap64 ((l0.length : Int) - 1))) = some r := h
  clear h
  have H' := Aside0.mk H
  clear H
  obtain ⟨Ao2, co2, eo2⟩ := Kd.R_slice HO0.out
  subst eo2
  go_enter Try.func99, Try.ntmps99
  go_wp2
  go_loopg [2, 3] k (fun kq v2 v3 w' => ∃ (x0_1 : List Int) (x2_1 : Int) (x3_1 : Int), v2 = .int .i64 x2_1 ∧ v3 = .int .i64 x3_1 ∧ Aside0 (slices_Reverse_int_int.l0 kq x0_1 x2_1 x3_1 = some r) ∧ Aside0 (kq ≤ k) ∧ Aside0 (Kd.R (Kd.int .i64) 3 w' w0.heap.size (fun k_ => (P0_ k_ ∨ w.heap.size ≤ k_)) (.slice Ao2 l0.length co2) x0_1) ∧ Aside0 (Kept w w' (fun k_ => P0_ k_)) ∧ Aside0 (Below w0.heap.size w0 w'))
  case atStart => exact ⟨(l0), (0), (wrap64 ((l0.length : Int) - 1)), (by first | rfl | (simp; done) | (simp [*]; done)), (by first | rfl | (simp; done) | (simp [*]; done)), H', ⟨Nat.le_refl _⟩, ⟨by (with_reducible repeat (first | apply Kd.R_alloc | apply Kd.R_drewN | apply Kd.R_drew)); exact HO0.out⟩, ⟨by repeat (first | (with_reducible first | exact HK.out | apply Kept.alloc | apply Kept.drewN | apply Kept.drew) | exact HK.out)⟩, ⟨by repeat (first | (with_reducible first | exact HB.out | apply below_alloc | apply pw_below_drewN | apply below_drew1) | exact HB.out)⟩⟩
  case round =>
    clear H'
    try clear p2
    obtain ⟨x0_1, x2_1, x3_1, rfl, rfl, HA, HK1, HO_0, HK, HB⟩ := hrel
    have hl0_1 := (Kd.R_reads' HO_0.out).1
    rw [hl0_1] at HO_0
    (try simp only [hl0_1])
    cases gk with
    | zero => exact absurd HA.out (by simp [slices_Reverse_int_int.l0])
    | succ k1 =>
      have H := HA.out
      clear HA
      simp only [slices_Reverse_int_int.l0] at H
      by_cases c3 : x2_1 < x3_1
      · rw [if_pos c3] at H
        have c3b0 : decide (x2_1 < x3_1) = true := decide_eq_true c3
        clear c3
        by_cases c4 : 0 ≤ x3_1
        · rw [if_pos c4] at H
          have c4b0 : decide (0 ≤ x3_1) = true := decide_eq_true c4
          clear c4
          by_cases c5 : x3_1 < (x0_1.length : Int)
          · rw [if_pos c5] at H
            have c5b0 : decide (x3_1 < (x0_1.length : Int)) = true := decide_eq_true c5
            clear c5
            by_cases c6 : 0 ≤ x2_1
            · rw [if_pos c6] at H
              have c6b0 : decide (0 ≤ x2_1) = true := decide_eq_true c6
              clear c6
              by_cases c7 : x2_1 < (x0_1.length : Int)
              · rw [if_pos c7] at H
                have c7b0 : decide (x2_1 < (x0_1.length : Int)) = true := decide_eq_true c7
                clear c7
                obtain ⟨y185, hy185⟩ : ∃ y_ : List Int, y_ = (x0_1.set (x2_1 : Int).toNat (rd x0_1 x3_1)) := ⟨_, rfl⟩
                replace H : (slices_Reverse_int_int.l0 k1 (y185.set (x3_1 : Int).toNat (rd x0_1 x2_1)) (wrap64 (x2_1 + 1)) (wrap64 (x3_1 - 1))) = some r := by first | (rw [hy185]; with_reducible exact H) | (have H2_ := (Option.bind_some _ _).symm.trans H; rw [hy185]; with_reducible exact H2_) | (have H2_ := (Option.bind_some _ _).symm.trans H; with_reducible exact H2_) | with_reducible exact H | (rw [hy185]; exact H) | exact H
                have Ny185 := Aside0.mk hy185
                clear hy185
                obtain ⟨y186, hy186⟩ : ∃ y_ : List Int, y_ = (y185.set (x3_1 : Int).toNat (rd x0_1 x2_1)) := ⟨_, rfl⟩
                replace H : (slices_Reverse_int_int.l0 k1 y186 (wrap64 (x2_1 + 1)) (wrap64 (x3_1 - 1))) = some r := by first | (rw [hy186]; with_reducible exact H) | (have H2_ := (Option.bind_some _ _).symm.trans H; rw [hy186]; with_reducible exact H2_) | (have H2_ := (Option.bind_some _ _).symm.trans H; with_reducible exact H2_) | with_reducible exact H | (rw [hy186]; exact H) | exact H
                have Ny186 := Aside0.mk hy186
                clear hy186
                have H' := Aside0.mk H
                clear H
                try go_wp2
                have n0_ := Aside0.mk (Kd.R_drew HO_0.out)
                have n1_ := Aside0.mk (Kept.drew HK.out)
                have n2_ := Aside0.mk (below_drew1 HB.out)
                clear HO_0
                clear HK
                clear HB
                have HO_0 := n0_
                have HK := n1_
                have HB := n2_
                clear n0_ n1_ n2_
                have p183 : 0 ≤ (x3_1 : Int) := of_decide_eq_true (by first | (with_reducible assumption) | assumption)
                have q183 : x3_1 < (x0_1.length : Int) := of_decide_eq_true (by first | (with_reducible assumption) | assumption)
                obtain ⟨ad183, e183, hx183_0⟩ := Kd.at_int (Kd.R_reads' HO_0.out).2.2 x3_1 p183 q183
                cases e183
                replace p183 := eq_true p183
                replace q183 := eq_true q183
                have p184 : 0 ≤ (x2_1 : Int) := of_decide_eq_true (by first | (with_reducible assumption) | assumption)
                have q184 : x2_1 < (x0_1.length : Int) := of_decide_eq_true (by first | (with_reducible assumption) | assumption)
                obtain ⟨ad184, e184, hx184_0⟩ := Kd.at_int (Kd.R_reads' HO_0.out).2.2 x2_1 p184 q184
                obtain rfl : ad183 = ad184 := (by injection e184)
                replace p184 := eq_true p184
                replace q184 := eq_true q184
                have p8 : 0 ≤ (x2_1 : Int) := of_decide_eq_true (by first | (with_reducible assumption) | assumption)
                have q8 : (x2_1 : Int) < ((x0_1.length : Int) : Int) := of_decide_eq_true (by first | (with_reducible assumption) | assumption)
                obtain ⟨go8, co8, eo8, gb8, gl8, cl8, HG8⟩ := Kd.R_form HO_0.out (by omega)
                (first | cases eo8 | (injection eo8 with ea_ en_ ec_; (first | subst ea_ | (injection ea_ with ea_; subst ea_)); subst ec_; clear en_))
                have GB8 := Aside0.mk gb8
                have GG8 := Aside0.mk HG8
                clear gb8 gl8 HG8
                have HMgo8 := Aside0.mk (show (P0_ go8 ∨ w.heap.size ≤ go8) from (HO_0.out.1 _ rfl))
                (first | simp only [add_plain] at hx183_0 | skip)
                (first | simp only [add_plain] at hx184_0 | skip)
                obtain ⟨hx8_0, hf8_0⟩ := Kd.R_celln 0 HO_0.out (x2_1 : Int) p8 q8
                replace p8 := eq_true p8
                replace q8 := eq_true q8
                have HP11 := Kd.R_putn HO_0.out (x2_1 : Int) (rd x0_1 x3_1)
                rw [← Ny185.out] at HP11
                have HQ11 := Aside0.mk HP11
                clear HP11
                have p9 : 0 ≤ (x3_1 : Int) := of_decide_eq_true (by first | (with_reducible assumption) | assumption)
                have q9 : (x3_1 : Int) < ((x0_1.length : Int) : Int) := of_decide_eq_true (by first | (with_reducible assumption) | assumption)
                obtain ⟨hx9_0, hf9_0⟩ := Kd.R_celln 0 HQ11.out (x3_1 : Int) p9 q9
                replace p9 := eq_true p9
                replace q9 := eq_true q9
                have HP12 := Kd.R_putn HQ11.out (x3_1 : Int) (rd x0_1 x2_1)
                rw [← Ny186.out] at HP12
                have HQ12 := Aside0.mk HP12
                clear HP12
                refine start_ (n := 16) (S := fun w' => w'.cell? ⟨go8, (x3_1).toNat, none⟩ = some (.int .i64 (rd x0_1 x3_1)) ∧ w'.cell? ⟨go8, (x2_1).toNat, none⟩ = some (.int .i64 (rd x0_1 x2_1))) (ds := [13, 15]) #[false, false, false, false, false, false, false, false, false, false, false, false, false, false, false, false] (by kernel_rfl) rfl rfl ⟨hx183_0, hx184_0⟩ (fun hHeld => ?_); refine with_tabW slices_Reverse_int_int.tab3 slices_Reverse_int_int.bits3 (fun HT_ HW_ => ?_)
                generalize wr.drew = w10 at HO_0 HK HB GG8 HQ11 HQ12 hf8_0 hf9_0 hx183_0 hx184_0 hx8_0 hx9_0 hHeld ⊢
                refine pure_ (i := 0) (N := some 14) (v := ?_) (a' := ?_) #[true, false, false, false, false, false, false, false, false, false, false, false, false, false, false, false] rfl rfl (any_of HT_.out (by kernel_rfl)) (fun _ _ _ h => h) (Or.inl ⟨by rfl, ?_⟩) ?_ ?_
                rotate_left
                · intro w'
                  go_simp
                  with_reducible rfl
                rotate_left
                · simp only [Act.put, List.setIfInBounds_toArray, List.set_cons_zero, List.set_cons_succ, i64_w, i32_w]
                  rfl
                refine pure_ (i := 1) (N := some 15) (v := ?_) (a' := ?_) #[true, true, false, false, false, false, false, false, false, false, false, false, false, false, false, false] rfl rfl (any_of HT_.out (by kernel_rfl)) (fun _ _ _ h => h) (Or.inl ⟨by rfl, ?_⟩) ?_ ?_
                rotate_left
                · intro w'
                  go_simp
                  with_reducible rfl
                rotate_left
                · simp only [Act.put, List.setIfInBounds_toArray, List.set_cons_zero, List.set_cons_succ, i64_w, i32_w]
                  rfl
                refine pure_ (i := 2) (N := some 16) (v := ?_) (a' := ?_) #[true, true, true, false, false, false, false, false, false, false, false, false, false, false, false, false] rfl rfl (any_of HT_.out (by kernel_rfl)) (fun _ _ _ h => h) (Or.inl ⟨by rfl, ?_⟩) ?_ ?_
                rotate_left
                · intro w'
                  go_simp
                  with_reducible rfl
                rotate_left
                · simp only [Act.put, List.setIfInBounds_toArray, List.set_cons_zero, List.set_cons_succ, i64_w, i32_w]
                  rfl
                refine pure_ (i := 3) (N := some 17) (v := ?_) (a' := ?_) #[true, true, true, true, false, false, false, false, false, false, false, false, false, false, false, false] rfl rfl (any_of HT_.out (by kernel_rfl)) (fun _ _ _ h => h) (Or.inl ⟨by rfl, ?_⟩) ?_ ?_
                rotate_left
                · intro w'
                  go_simp
                  with_reducible rfl
                rotate_left
                · simp only [Act.put, List.setIfInBounds_toArray, List.set_cons_zero, List.set_cons_succ, i64_w, i32_w]
                  rfl
                refine pure_ (i := 4) (N := some 18) (v := ?_) (a' := ?_) #[true, true, true, true, true, false, false, false, false, false, false, false, false, false, false, false] rfl rfl (any_of HT_.out (by kernel_rfl)) (fun _ _ _ h => h) (Or.inl ⟨by rfl, ?_⟩) ?_ ?_
                rotate_left
                · intro w'
                  go_simp
                  with_reducible rfl
                rotate_left
                · simp only [Act.put, List.setIfInBounds_toArray, List.set_cons_zero, List.set_cons_succ, i64_w, i32_w]
                  rfl
                refine pure_ (i := 5) (N := some 19) (v := ?_) (a' := ?_) #[true, true, true, true, true, true, false, false, false, false, false, false, false, false, false, false] rfl rfl (any_of HT_.out (by kernel_rfl)) (fun _ _ _ h => h) (Or.inl ⟨by rfl, ?_⟩) ?_ ?_
                rotate_left
                · intro w'
                  go_simp
                  with_reducible rfl
                rotate_left
                · simp only [Act.put, List.setIfInBounds_toArray, List.set_cons_zero, List.set_cons_succ, i64_w, i32_w]
                  rfl
                refine pure_ (i := 6) (N := some 20) (v := ?_) (a' := ?_) #[true, true, true, true, true, true, true, false, false, false, false, false, false, false, false, false] rfl rfl (any_of HT_.out (by kernel_rfl)) (fun _ _ _ h => h) (Or.inl ⟨by rfl, ?_⟩) ?_ ?_
                rotate_left
                · intro w'
                  go_simp
                  with_reducible rfl
                rotate_left
                · simp only [Act.put, List.setIfInBounds_toArray, List.set_cons_zero, List.set_cons_succ, i64_w, i32_w]
                  rfl
                refine pure_ (i := 8) (N := some 22) (v := ?_) (a' := ?_) #[true, true, true, true, true, true, true, false, true, false, false, false, false, false, false, false] rfl rfl (any_of HT_.out (by kernel_rfl)) (fun _ _ _ h => h) (Or.inl ⟨by rfl, ?_⟩) ?_ ?_
                rotate_left
                · intro w'
                  go_simp
                  with_reducible rfl
                rotate_left
                · simp only [Act.put, List.setIfInBounds_toArray, List.set_cons_zero, List.set_cons_succ, i64_w, i32_w]
                  rfl
                refine pure_ (i := 9) (N := some 23) (v := ?_) (a' := ?_) #[true, true, true, true, true, true, true, false, true, true, false, false, false, false, false, false] rfl rfl (any_of HT_.out (by kernel_rfl)) (fun _ _ _ h => h) (Or.inl ⟨by rfl, ?_⟩) ?_ ?_
                rotate_left
                · intro w'
                  go_simp
                  with_reducible rfl
                rotate_left
                · simp only [Act.put, List.setIfInBounds_toArray, List.set_cons_zero, List.set_cons_succ, i64_w, i32_w]
                  rfl
                refine pure_ (i := 10) (N := some 24) (v := ?_) (a' := ?_) #[true, true, true, true, true, true, true, false, true, true, true, false, false, false, false, false] rfl rfl (any_of HT_.out (by kernel_rfl)) (fun _ _ _ h => h) (Or.inl ⟨by rfl, ?_⟩) ?_ ?_
                rotate_left
                · intro w'
                  go_simp
                  with_reducible rfl
                rotate_left
                · simp only [Act.put, List.setIfInBounds_toArray, List.set_cons_zero, List.set_cons_succ, i64_w, i32_w]
                  rfl
                refine take_ (i := 7) (N := some 21) (v := ?_) (a' := ?_) #[true, true, true, true, true, true, true, true, true, true, true, false, false, false, false, false] rfl rfl (take_ofW HT_.out HW_.out (by kernel_rfl)) (fun _ _ _ h => h) (Or.inl ⟨by rfl, ?_⟩) hHeld ?_ ?_
                rotate_left
                · rintro w' ⟨s0, s1⟩
                  go_simp
                  with_reducible rfl
                rotate_left
                · simp only [Act.put, List.setIfInBounds_toArray, List.set_cons_zero, List.set_cons_succ, i64_w, i32_w]
                  rfl
                refine take_ (i := 11) (N := some 25) (v := ?_) (a' := ?_) #[true, true, true, true, true, true, true, true, true, true, true, true, false, false, false, false] rfl rfl (take_ofW HT_.out HW_.out (by kernel_rfl)) (fun _ _ _ h => h) (Or.inl ⟨by rfl, ?_⟩) hHeld ?_ ?_
                rotate_left
                · rintro w' ⟨s0, s1⟩
                  go_simp
                  with_reducible rfl
                rotate_left
                · simp only [Act.put, List.setIfInBounds_toArray, List.set_cons_zero, List.set_cons_succ, i64_w, i32_w]
                  rfl
                refine pure_ (i := 12) (N := some 26) (v := ?_) (a' := ?_) #[true, true, true, true, true, true, true, true, true, true, true, true, true, false, false, false] rfl rfl (any_of HT_.out (by kernel_rfl)) (fun _ _ _ h => h) (Or.inl ⟨by rfl, ?_⟩) ?_ ?_
                rotate_left
                · intro w'
                  go_simp
                  with_reducible rfl
                rotate_left
                · simp only [Act.put, List.setIfInBounds_toArray, List.set_cons_zero, List.set_cons_succ, i64_w, i32_w]
                  rfl
                refine last_ (i := 13) (N := none) #[true, true, true, true, true, true, true, true, true, true, true, true, true, true, false, false] rfl rfl (one_of HT_.out (by kernel_rfl)) (by decide) (fun K hK => ?_)
                refine skip_ (w1 := ?_) (by rfl) rfl ?_ ?_
                rotate_left
                · go_simp
                  rfl
                refine hK.out _ _ ?_
                clear hK K
                refine pure_ (i := 14) (N := some 27) (v := ?_) (a' := ?_) #[true, true, true, true, true, true, true, true, true, true, true, true, true, true, true, false] rfl rfl (any_of HT_.out (by kernel_rfl)) (fun _ _ _ h => h) (Or.inl ⟨by rfl, ?_⟩) ?_ ?_
                rotate_left
                · intro w'
                  go_simp
                  with_reducible rfl
                rotate_left
                · simp only [Act.put, List.setIfInBounds_toArray, List.set_cons_zero, List.set_cons_succ, i64_w, i32_w]
                  rfl
                refine last_ (i := 15) (N := none) #[true, true, true, true, true, true, true, true, true, true, true, true, true, true, true, true] rfl rfl (one_of HT_.out (by kernel_rfl)) (by decide) (fun K hK => ?_)
                refine skip_ (w1 := ?_) (by rfl) rfl ?_ ?_
                rotate_left
                · go_simp
                  rfl
                refine hK.out _ _ ?_
                clear hK K
                refine done_ (done_of HT_.out (by kernel_rfl)) ?_
                try go_wp2
                (try simp only [← hl0_1])
                go_roundg k1
                case measure => have := HK1.out; omega
                case rel => exact ⟨(y186), (wrap64 (x2_1 + 1)), (wrap64 (x3_1 - 1)), (by first | rfl | (simp; done) | (simp [*]; done)), (by first | rfl | (simp; done) | (simp [*]; done)), H', ⟨by have := HK1.out; omega⟩, ⟨by (try simp only [hl0_1]); (with_reducible repeat (first | apply Kd.R_alloc | apply Kd.R_drewN | apply Kd.R_drew)); exact HQ12.out⟩, ⟨by repeat (first | (with_reducible first | exact HK.out | apply Kept.alloc | apply Kept.drewN | apply Kept.drew | refine Kept.setCell ?_ HMgo8.out _ | refine Kept.setCell ?_ HMgo8.out _) | exact HK.out)⟩, ⟨by repeat (first | (with_reducible first | exact HB.out | apply below_alloc | apply pw_below_drewN | apply below_drew1 | refine below_set ?_ GB8.out | refine below_set ?_ GB8.out) | exact HB.out)⟩⟩
              · rw [if_neg c7] at H
                exact absurd H (by simp)
            · rw [if_neg c6] at H
              exact absurd H (by simp)
          · rw [if_neg c5] at H
            exact absurd H (by simp)
        · rw [if_neg c4] at H
          exact absurd H (by simp)
      · rw [if_neg c3] at H
        have c3b0 : decide (x2_1 < x3_1) = false := decide_eq_false c3
        clear c3
        obtain rfl := Option.some.inj H
        go_wp2
        first | go_end0 | ((try simp only [Exit.inBlock, Exit.then]); refine bodyPost_ret (results_none rfl _ _ _) rfl ?_)
        exact ⟨by first | rfl | (simp [errW_none, errW_some] <;> rfl) | (simp [*, errW_none, errW_some] <;> rfl), (by first | exact (by (with_reducible repeat (first | apply Kd.R_alloc | apply Kd.R_drewN | apply Kd.R_drew)); exact HO_0.out) | (simp only [hl0_1]; exact (by (with_reducible repeat (first | apply Kd.R_alloc | apply Kd.R_drewN | apply Kd.R_drew)); exact HO_0.out))), by repeat (first | (with_reducible first | exact HB.out | apply below_alloc | apply pw_below_drewN | apply below_drew1) | exact HB.out), by repeat (first | (with_reducible first | exact HK.out | apply Kept.alloc | apply Kept.drewN | apply Kept.drew) | exact HK.out)⟩

-- NOT PRINTED: function 120 (slices_rotateLeft_int)

-- NOT PRINTED: function 114 (slices_rotateRight_int)

/-! ### slices_Insert_int_int: function 95 -/
/-- slices.Insert at whole numbers, one value, into a row of the call's own. -/
def slices_Insert_int_int.f (l : List Int) (i x : Int) : Option (List Int) := if 0 ≤ i then (if i ≤ (l.length : Int) then (if l.length < 4398046511104 then some (l.insertIdx i.toNat x) else none) else none) else none
open Go.Shelf in
shelf_lay Lays2.n21 Nm2 21 at Try as Try.laysIns
theorem slices_Insert_int_int.own_of {w : World} {base g e n cap : Nat} {f : Nat → Value} {xs : List Value} (h : w.rowIs g e cap f) (hb : base ≤ g) (hn : n ≤ cap) (hm : cap ≤ maxLen) (hx : xs.length = n)
    (hf : ∀ j, j < n → xs[j]? = some (f j)) : w.ownsRow base e 1 (.slice (some ⟨g, 0, none⟩) n cap) n xs := by
  obtain ⟨c, hc, hs, hi⟩ := h
  refine ⟨by simpa using hx, .inr ⟨g, cap, c, rfl, hb, hc, hn, hm, by simpa using hs, ?_⟩⟩
  apply List.ext_getElem?
  intro j
  rw [List.getElem?_take, Array.getElem?_toList]
  by_cases hj : j < n
  · rw [if_pos (by omega), hi j (by omega), hf j hj]
  · rw [if_neg (by omega), List.getElem?_eq_none (by omega)]
theorem slices_Insert_int_int.of_own {w : World} {base g e n cap : Nat} {xs : List Value} (h : w.ownsRow base e 1 (.slice (some ⟨g, 0, none⟩) n cap) n xs) :
    base ≤ g ∧ g < w.heap.size ∧ n ≤ cap ∧ cap ≤ maxLen ∧ ∃ c : Array Value, w.heap[g]? = some (.cells c e (0, 0)) ∧ c.size = cap ∧ ∀ j, j < n → xs[j]? = c[j]? := by
  rcases h.2 with ⟨e0, _⟩ | ⟨g', cap', cur, e0, hb, hg, hn, hm, hs, ht⟩
  · cases e0
  · injection e0 with e1 _ e3
    injection e1 with e1
    injection e1 with e1
    subst e1; subst e3
    refine ⟨hb, own_lt h g rfl, hn, hm, cur, hg, by simpa using hs, fun j hj => ?_⟩
    rw [← ht, List.getElem?_take, if_pos (by omega), Array.getElem?_toList]
theorem slices_Insert_int_int.row {w : World} {g e : Nat} {c : Array Value} (h : w.heap[g]? = some (.cells c e (0, 0))) : w.rowIs g e c.size (fun j => c[j]?.getD default) :=
  ⟨c, h, rfl, fun i hi => by simp [hi]⟩
theorem slices_Insert_int_int.alloc_row (w : World) (c : Array Value) (cap : Nat) (hs : c.size = cap) : (w.alloc (.cells c 3)).rowIs w.heap.size 3 cap (fun j => c[j]?.getD default) := by
  subst hs
  exact World.rowIs_alloc w c 3 _ (fun i hi => by simp [hi])
theorem slices_Insert_int_int.ins (l : List Int) (i : Nat) (x : Int) (hi : i ≤ l.length) (j : Nat) (hj : j < l.length + 1) :
    (encs (Value.int .i64) (l.insertIdx i x))[j]? = some (if j < i then (Value.int .i64 (l.getD j 0)) else if j = i then (Value.int .i64 x) else (Value.int .i64 (l.getD (j - 1) 0))) := by
  simp only [encs, List.getElem?_map, List.getElem?_insertIdx]
  by_cases h1 : j < i
  · simp only [if_pos h1, List.getD_eq_getElem?_getD, List.getElem?_eq_getElem (show j < l.length by omega), Option.map_some, Option.getD_some]
  · by_cases h2 : j = i
    · simp [h2, hi]
    · simp only [if_neg h1, if_neg h2, List.getD_eq_getElem?_getD, List.getElem?_eq_getElem (show j - 1 < l.length by omega), Option.map_some, Option.getD_some]
set_option maxHeartbeats 8000000 in
set_option maxRecDepth 100000 in
theorem slices_Insert_int_int.calls (l l2 : List Int) (i x : Int) (A : Option Addr) (c vb vc base b2 : Nat) (ok ok2 : Nat → Prop) (w : World) (hR : Kd.R (Kd.int .i64) 3 w base ok (.slice A l.length c) l)
    (hX : Kd.R (Kd.int .i64) 3 w b2 ok2 (.slice (some ⟨vb, 0, none⟩) 1 vc) [x]) (hne : ∀ a, A = some a → vb ≠ a.block) (h : slices_Insert_int_int.f l i x = some l2) (hbase : base ≤ w.heap.size) :
    Calls Try.prog 95 #[.slice A l.length c, .int .i64 i, .slice (some ⟨vb, 0, none⟩) 1 vc] w fun e w' => ∃ v, e = .returned v ∧ Kd.R (Kd.int .i64) 3 w' base (fun _ => True) v l2 ∧ Below base w w' := by
  unfold slices_Insert_int_int.f at h
  by_cases h0 : 0 ≤ i
  · rw [if_pos h0] at h
    by_cases h1 : i ≤ (l.length : Int)
    · rw [if_pos h1] at h
      by_cases h2 : l.length < 4398046511104
      · rw [if_pos h2] at h
        obtain rfl := Option.some.inj h
        clear h
        have ho := Kd.own_of_R hR
        have hox := Kd.own_of_R hX
        obtain ⟨hbx, hltx, hnx, hmx, cx, hhx, hsx, hix⟩ := slices_Insert_int_int.of_own hox
        obtain ⟨k, rfl⟩ : ∃ k : Nat, i = (k : Int) := ⟨i.toNat, by omega⟩
        simp only [Int.toNat_natCast] at *
        have hk : k ≤ l.length := by omega
        have hvs : ∀ (j : Nat) (u : Value), (encs (Value.int .i64) [x])[j]? = some u → w.cell? ⟨vb, 0 + j, none⟩ = some u := by
          intro j u hj
          have hj1 : j < 1 := by
            rcases Nat.lt_or_ge j 1 with h' | h'
            · exact h'
            · rw [List.getElem?_eq_none (by simpa [encs] using h')] at hj; cases hj
          simp only [World.cell?, hhx, Nat.zero_add, Option.isSome_none, Bool.false_eq_true, if_false]
          rw [← hix j hj1, hj]
        have h1v : ∀ v ∈ encs (Value.int .i64) [x], v.oneCell' = true := by
          intro v hv
          simp only [encs, List.map_cons, List.map_nil, List.mem_singleton] at hv
          subst hv; rfl
        have h1c : ∀ v ∈ encs (Value.int .i64) l, v.oneCell' = true := by
          intro v hv
          obtain ⟨z, _, rfl⟩ := List.mem_map.1 hv
          rfl
        have hcl : (encs (Value.int .i64) l).length = l.length := by simp [encs]
        have hvl : (encs (Value.int .i64) [x]).length = 1 := rfl
        have hl2 : (l.insertIdx k x).length = l.length + 1 := List.length_insertIdx_of_le_length hk x
        have hmx2 : maxLen = 9223372036854775807 := rfl
        have hgl : ∀ j, j < l.length → (encs (Value.int .i64) l)[j]? = some (Value.int .i64 (l.getD j 0)) := by
          intro j hj
          simp [encs, List.getElem?_map, List.getElem?_eq_getElem hj, List.getD_eq_getElem?_getD]
        have fin : ∀ (w' : World) (g cap : Nat) (f : Nat → Value), w'.rowIs g 3 cap f → base ≤ g → l.length + 1 ≤ cap → cap ≤ maxLen →
            (∀ j, j < l.length + 1 → f j = if j < k then (Value.int .i64 (l.getD j 0)) else if j = k then (Value.int .i64 x) else (Value.int .i64 (l.getD (j - 1) 0))) →
            Kd.R (Kd.int .i64) 3 w' base (fun _ => True) (.slice (some ⟨g, 0, none⟩) (l.length + 1) cap) (l.insertIdx k x) := by
          intro w' g cap f hr hg hn hm hf
          refine Kd.R_of_own ?_ (fun _ _ => trivial)
          rw [hl2]
          exact slices_Insert_int_int.own_of hr hg hn hm (by simp [encs, hl2]) (fun j hj => by rw [slices_Insert_int_int.ins l k x hk j hj, hf j hj])
        have hzc : ∀ q, (Builtin.zeroCells (Value.int .i64 0).cells q).size = q := by
          intro q
          have h1 : (Value.int .i64 0).cells.size = 1 := rfl
          simp [Builtin.zeroCells, h1]
        have hgrow : ∀ (wv : World) (cap : Nat), l.length + 1 ≤ cap → (wv.alloc (.cells ((encs (Value.int .i64) l ++ encs (Value.int .i64) [x]).toArray ++ Builtin.zeroCells (Value.int .i64 0).cells (cap - (l.length + 1))) 3)).rowIs wv.heap.size 3 cap
            (fun j => ((encs (Value.int .i64) l ++ encs (Value.int .i64) [x]).toArray ++ Builtin.zeroCells (Value.int .i64 0).cells (cap - (l.length + 1)))[j]?.getD default) := by
          intro wv cap hcap
          refine slices_Insert_int_int.alloc_row wv _ cap ?_
          rw [Array.size_append, hzc]; simp [encs]; omega
        have hend : ∀ (cap : Nat) (j : Nat), j < l.length + 1 → (((encs (Value.int .i64) l ++ encs (Value.int .i64) [x]).toArray ++ Builtin.zeroCells (Value.int .i64 0).cells (cap - (l.length + 1)))[j]?.getD default) =
            if j < l.length then (Value.int .i64 (l.getD j 0)) else if j = l.length then (Value.int .i64 x) else (Value.int .i64 (l.getD (j - 1) 0)) := by
          intro cap j hj
          rw [Array.getElem?_append_left (by simp [encs]; omega)]
          simp only [List.getElem?_toArray]
          by_cases h1 : j < l.length
          · rw [List.getElem?_append_left (by omega), hgl j h1, if_pos h1]; rfl
          · have : j = l.length := by omega
            subst this
            rw [List.getElem?_append_right (by omega), hcl, Nat.sub_self, if_neg h1, if_pos rfl]; rfl
        have hnew : ∀ (cap : Nat), l.length + 1 ≤ cap → (w.alloc (.cells (((encs (Value.int .i64) l).take k).toArray ++ Builtin.zeroCells (Value.int .i64 0).cells (l.length + 1 - k) ++ Builtin.zeroCells (Value.int .i64 0).cells (cap - (l.length + 1))) 3)).rowIs w.heap.size 3 cap
            (fun j => (((encs (Value.int .i64) l).take k).toArray ++ Builtin.zeroCells (Value.int .i64 0).cells (l.length + 1 - k) ++ Builtin.zeroCells (Value.int .i64 0).cells (cap - (l.length + 1)))[j]?.getD default) := by
          intro cap hcap
          refine slices_Insert_int_int.alloc_row w _ cap ?_
          rw [Array.size_append, Array.size_append, hzc, hzc]; simp [encs]; omega
        have hmid : ∀ (f0 : Nat → Value), (∀ j, j < k → f0 j = Value.int .i64 (l.getD j 0)) → ∀ j, j < l.length + 1 →
            (if k + 1 ≤ j ∧ j < k + 1 + ((encs (Value.int .i64) l).drop k).length then ((encs (Value.int .i64) l).drop k)[j - (k + 1)]?.getD default else if k ≤ j ∧ j < k + 1 then (encs (Value.int .i64) [x])[j - k]?.getD default else f0 j) =
            if j < k then (Value.int .i64 (l.getD j 0)) else if j = k then (Value.int .i64 x) else (Value.int .i64 (l.getD (j - 1) 0)) := by
          intro f0 hf0 j hj
          have hdl : ((encs (Value.int .i64) l).drop k).length = l.length - k := by rw [List.length_drop, hcl]
          by_cases h1 : j < k
          · rw [if_neg (by omega), if_neg (by omega), if_pos h1, hf0 j h1]
          · by_cases h2 : j = k
            · subst h2
              rw [if_neg (by omega), if_pos (by omega), if_neg h1, if_pos rfl, Nat.sub_self]; rfl
            · rw [if_pos (by omega), if_neg h1, if_neg h2, List.getElem?_drop, show k + (j - (k + 1)) = j - 1 by omega, hgl (j - 1) (by omega)]; rfl
        rcases A with _ | ⟨g, o, sp⟩
        · -- nil
          have hc0 : c = 0 ∧ l.length = 0 := by
            rcases ho.2 with ⟨e0, e1⟩ | ⟨_, _, _, e0, _⟩
            · injection e0 with _ e2 e3; exact ⟨e3, e1⟩
            · injection e0 with e1; cases e1
          obtain ⟨rfl, hl0⟩ := hc0
          have hk0 : k = l.length := by omega
          subst hk0
          refine (Any2.slices_Insert_int_end_grow Try.laysIns none l.length 0 vb 0 1 vc (encs (Value.int .i64) l) (encs (Value.int .i64) [x]) w (by omega) (by omega) (by omega) (by omega) hcl hvl (fun _ => hl0) (fun a ha => by cases ha) hvs h1v).mono ?_
          rintro e w' ⟨rfl, rfl⟩
          exact ⟨_, rfl, fin _ _ _ _ (hgrow _ _ (grownCap_ge _ _ _ _)) hbase (grownCap_ge _ _ _ _) (grownCap_le_maxLen _ _ _ _ (by omega)) (hend _), (below_alloc (below_drew (Below.refl _ _)) _).mono hbase⟩
        · have hA : sp = none ∧ o = 0 := by
            rcases ho.2 with ⟨e0, _⟩ | ⟨_, _, _, e0, _⟩
            · injection e0 with e1; cases e1
            · injection e0 with e1; injection e1 with e1; injection e1 with e1 e2 e3; exact ⟨e3, e2⟩
          obtain ⟨rfl, rfl⟩ := hA
          obtain ⟨hbg, hltg, hn, hm, cg, hhg, hsg, hig⟩ := slices_Insert_int_int.of_own ho
          have hnb : vb ≠ g := hne _ rfl
          have hrow : w.rowIs g 3 c (fun j => cg[j]?.getD default) := by rw [← hsg]; exact slices_Insert_int_int.row hhg
          have hcs : ∀ (j : Nat) (u : Value), (encs (Value.int .i64) l)[j]? = some u → w.cell? ⟨g, 0 + j, none⟩ = some u := by
            intro j u hj
            have hj1 : j < l.length := by
              rcases Nat.lt_or_ge j l.length with h' | h'
              · exact h'
              · rw [List.getElem?_eq_none (by omega)] at hj; cases hj
            simp only [World.cell?, hhg, Nat.zero_add, Option.isSome_none, Bool.false_eq_true, if_false]
            rw [← hig j hj1, hj]
          have hfr : ∀ j, w.frozen? ⟨g, j, none⟩ = false := by
            intro j; simp [World.frozen?, hhg]
          have hsp : ∀ j, j < c → (w.cell? ⟨g, j, none⟩).isSome = true := by
            intro j hj
            simp only [World.cell?, hhg, Option.isSome_none, Bool.false_eq_true, if_false]
            rw [Array.getElem?_eq_getElem (by omega)]; rfl
          have hcg : ∀ j, j < l.length → (cg[j]?.getD default) = Value.int .i64 (l.getD j 0) := by
            intro j hj
            rw [← hig j hj, hgl j hj]; rfl
          by_cases hroom : l.length + 1 ≤ c
          · by_cases hend2 : k = l.length
            · subst hend2
              refine (Any2.slices_Insert_int_end_room Try.laysIns g 0 l.length c vb 0 1 vc (encs (Value.int .i64) [x]) w (by omega) hroom (by omega) hvl (fun j hj => hsp _ (by omega)) (fun j _ => hfr _) hvs h1v).mono ?_
              rintro e w' ⟨rfl, rfl⟩
              refine ⟨_, rfl, fin _ _ _ _ (Go.rowIs_setCells _ _ _ _ hrow) hbg hroom hm ?_, (Go.below_setCells hbg _ _ _ (Below.refl _ _))⟩
              intro j hj
              simp only [Nat.zero_add, hvl]
              by_cases h1 : j < l.length
              · rw [if_neg (by omega), if_pos h1, hcg j h1]
              · have : j = l.length := by omega
                subst this
                rw [if_pos (by omega), if_neg (by omega), if_pos rfl, Nat.sub_self]; rfl
            · refine (Any2.slices_Insert_int_shift Try.laysIns g 0 l.length c k vb 0 1 vc (encs (Value.int .i64) l) (encs (Value.int .i64) [x]) w (by omega) (by omega) hroom (by omega) hnb hcl hvl hcs (fun j hj => hsp _ (by omega)) (fun j _ => hfr _) hvs h1c h1v
                3 3 cx.size cg.size (by simp [World.shape?, hhx]) (by simp [World.shape?, hhg]) (by omega) (by simp [World.frozen?, hhx]) (by simp [World.frozen?, hhx])).mono ?_
              rintro e w' ⟨rfl, rfl⟩
              refine ⟨_, rfl, fin _ _ _ _ (Go.rowIs_setCells _ _ _ _ (Go.rowIs_setCells _ _ _ _ hrow.drew)) hbg hroom hm ?_, (Go.below_setCells hbg _ _ _ (Go.below_setCells hbg _ _ _ (below_drew (Below.refl _ _))))⟩
              intro j hj
              simp only [Nat.zero_add, hvl]
              have hdl : ((encs (Value.int .i64) l).drop k).length = l.length - k := by rw [List.length_drop, hcl]
              have hm2 := hmid (fun j => cg[j]?.getD default) (fun j hj => hcg j (by omega)) j hj
              rw [← hm2]
              by_cases h1 : k ≤ j ∧ j < k + 1
              · rw [if_pos h1, if_neg (by omega), if_pos h1]
              · rw [if_neg h1]
                by_cases h2 : k + 1 ≤ j ∧ j < k + 1 + ((encs (Value.int .i64) l).drop k).length
                · rw [if_pos h2, if_pos h2]
                · rw [if_neg h2, if_neg h2, if_neg h1]
          · by_cases hend2 : k = l.length
            · subst hend2
              refine (Any2.slices_Insert_int_end_grow Try.laysIns (some ⟨g, 0, none⟩) l.length c vb 0 1 vc (encs (Value.int .i64) l) (encs (Value.int .i64) [x]) w (by omega) hn (by omega) (by omega) hcl hvl (fun e => by cases e) (fun a ha j v hv => by cases ha; rw [Addr.add_lit]; exact hcs j v hv) hvs h1v).mono ?_
              rintro e w' ⟨rfl, rfl⟩
              exact ⟨_, rfl, fin _ _ _ _ (hgrow _ _ (grownCap_ge _ _ _ _)) hbase (grownCap_ge _ _ _ _) (grownCap_le_maxLen _ _ _ _ (by omega)) (hend _), (below_alloc (below_drew (Below.refl _ _)) _).mono hbase⟩
            · refine (Any2.slices_Insert_int_grow Try.laysIns g 0 l.length c k vb 0 1 vc (encs (Value.int .i64) l) (encs (Value.int .i64) [x]) w (by omega) (by omega) hn (by omega) (by omega) hcl hvl hcs hvs h1c h1v).mono ?_
              rintro e w' ⟨rfl, rfl⟩
              refine ⟨_, rfl, fin _ _ _ _ (Go.rowIs_setCells _ _ _ _ (Go.rowIs_setCells _ _ _ _ (hnew _ (grownCap_ge _ _ _ _)).drew).drew) hbase (grownCap_ge _ _ _ _) (grownCap_le_maxLen _ _ _ _ (by omega)) ?_,
                (Go.below_setCells hbase _ _ _ (below_drew (Go.below_setCells hbase _ _ _ (below_drew ((below_alloc (Below.refl _ _) _).mono hbase)))))⟩
              intro j hj
              simp only [hvl]
              refine hmid (fun j => (((encs (Value.int .i64) l).take k).toArray ++ Builtin.zeroCells (Value.int .i64 0).cells (l.length + 1 - k) ++ Builtin.zeroCells (Value.int .i64 0).cells (grownCap w (l.length + 1) c (Try.laysIns_ren.t 3) - (l.length + 1)))[j]?.getD default) (fun j hj => ?_) j hj
              show (((encs (Value.int .i64) l).take k).toArray ++ Builtin.zeroCells (Value.int .i64 0).cells (l.length + 1 - k) ++ Builtin.zeroCells (Value.int .i64 0).cells (grownCap w (l.length + 1) c (Try.laysIns_ren.t 3) - (l.length + 1)))[j]?.getD default = _
              rw [Array.getElem?_append_left (by simp [hzc]; omega), Array.getElem?_append_left (by simp; omega)]
              simp only [List.getElem?_toArray]
              rw [List.getElem?_take, if_pos hj, hgl j (by omega)]; rfl
      · rw [if_neg h2] at h; cases h
    · rw [if_neg h1] at h; cases h
  · rw [if_neg h0] at h; cases h

/-! ### impl_trotterAt: function 59 -/
/-- Trotter's permutation of a rank. -/
def impl_trotterAt.f : Nat → Int → Int → Option (List Int)
  | 0, _, _ => none
  | k + 1, a0, a1 => if a0 = 0 then (some ([] : List Int)) else ((impl_trotterAt.f k (wrap64 (a0 - 1)) (wrap64 (Int.tdiv a1 a0))).bind fun l => (if (Int.tmod (wrap64 (Int.tdiv a1 a0)) 2) = 0 then slices_Insert_int_int.f l (wrap64 (wrap64 (a0 - 1) - Int.tmod a1 a0)) (wrap64 (a0 - 1)) else slices_Insert_int_int.f l (Int.tmod a1 a0) (wrap64 (a0 - 1))))
theorem impl_trotterAt.mono_l : ∀ k, (∀ y0 y1, LeO (impl_trotterAt.f k y0 y1) (impl_trotterAt.f (k + 1) y0 y1))
  | 0 => fun _ _ r h => by simp [impl_trotterAt.f] at h
  | k + 1 => by
    have ih0 := impl_trotterAt.mono_l k
    · intro y0 y1
      unfold impl_trotterAt.f
      repeat' first
      | (with_reducible exact ih0 _ _)
      | (with_reducible exact LeO.refl _)
      | (with_reducible exact LeO.none _)
      | (with_reducible refine LeO.ite ?_ ?_)
      | (with_reducible refine LeO.bind ?_ (fun _ => ?_))
theorem impl_trotterAt.mono : ∀ a0 a1 k, LeO (impl_trotterAt.f k a0 a1) (impl_trotterAt.f (k + 1) a0 a1) := by
  intro a0 a1 k
  have ih0 := impl_trotterAt.mono_l k
  exact ih0 a0 a1
set_option maxHeartbeats 8000000 in
set_option maxRecDepth 100000 in
theorem impl_trotterAt.calls (k : Nat) : ∀ (a0 : Int) (a1 : Int) (r : List Int) (w : World) (h : impl_trotterAt.f k a0 a1 = some r),
    Calls Try.prog 59 #[.int .i64 a0, .int .i64 a1] w fun e w' => ∃ v0_ : Value, e = .returned (v0_) ∧ Kd.R (Kd.int .i64) 3 w' w.heap.size (fun _ => True) v0_ r ∧ Below w.heap.size w w' := by
  induction k with
  | zero => intro a0 a1 r w h; exact absurd h (by simp [impl_trotterAt.f])
  | succ k ih =>
    intro a0 a1 r w h
    simp only [impl_trotterAt.f] at h
    by_cases c : a0 = 0
    · rw [if_pos c] at h
      have c3b0 : (a0 == 0) = true := beq_iff_eq.mpr c
      obtain rfl := Option.some.inj h
      clear h c
      go_enter Try.func59, Try.ntmps59
      go_wp2
      go_ret
      exact ⟨_, rfl, Kd.R_of_own (World.ownsRow_made w #[] 0 (Nat.le_refl _) (by decide) rfl) (fun _ _ => trivial), below_alloc (Below.refl _ _) _⟩
    · rw [if_neg c] at h
      have c3b0 : (a0 == 0) = false := beq_eq_false_iff_ne.mpr c
      obtain ⟨l, hl, h⟩ := Option.bind_eq_some_iff.mp h
      have HL := Aside0.mk hl
      clear hl
      by_cases c5 : Int.tmod (wrap64 (Int.tdiv a1 a0)) 2 = 0
      · rw [if_pos c5] at h
        have c5b0 : ((Int.tmod (wrap64 (Int.tdiv a1 a0)) 2) == 0) = true := beq_iff_eq.mpr c5
        have H := Aside0.mk h
        clear h c5
        go_enter Try.func59, Try.ntmps59
        go_wp2_with fail
        go_region
        all_goals
          go_wp2_with fail
          refine (ih _ _ l _ HL.out).mono ?_
          rintro e w1 ⟨v1, rfl, ho1, hb1⟩
          obtain ⟨A1, c1, rfl⟩ := Kd.R_slice ho1
          have HO1 := Aside0.mk (Kd.R_lower ho1 (Nat.le_refl w.heap.size))
          have HB1 := Aside0.mk (show Below w.heap.size w w1 from (below_drew (Below.refl _ _)).trans hb1)
          clear ho1 hb1
          go_wp2_with fail
          refine (slices_Insert_int_int.calls l r (wrap64 (wrap64 (a0 - 1) - Int.tmod a1 a0)) (wrap64 (a0 - 1)) A1 c1 w1.heap.size 1 w.heap.size w.heap.size (fun _ => True) (fun _ => True) _ (Kd.R_alloc HO1.out _) (Kd.R_of_own (World.ownsRow_lit w1 #[.int .i64 (wrap64 (a0 - 1))] 1 HB1.out.size (by decide) rfl) (fun _ _ => trivial)) ?_ H.out (below_alloc HB1.out _).size).mono ?_
          · intro a ha
            subst ha
            have := Kd.R_lt HO1.out a.block rfl
            omega
          · rintro e w2 ⟨v2, rfl, ho2, hb2⟩
            have HO2 := Aside0.mk ho2
            have HB2 := Aside0.mk ((below_alloc HB1.out _).trans hb2)
            clear ho2 hb2
            go_wp2
            go_ret
            exact ⟨_, rfl, HO2.out, HB2.out⟩
      · rw [if_neg c5] at h
        have c5b0 : ((Int.tmod (wrap64 (Int.tdiv a1 a0)) 2) == 0) = false := beq_eq_false_iff_ne.mpr c5
        have H := Aside0.mk h
        clear h c5
        go_enter Try.func59, Try.ntmps59
        go_wp2_with fail
        go_region
        all_goals
          go_wp2_with fail
          refine (ih _ _ l _ HL.out).mono ?_
          rintro e w1 ⟨v1, rfl, ho1, hb1⟩
          obtain ⟨A1, c1, rfl⟩ := Kd.R_slice ho1
          have HO1 := Aside0.mk (Kd.R_lower ho1 (Nat.le_refl w.heap.size))
          have HB1 := Aside0.mk (show Below w.heap.size w w1 from (below_drew (Below.refl _ _)).trans hb1)
          clear ho1 hb1
          go_wp2_with fail
          refine (slices_Insert_int_int.calls l r (Int.tmod a1 a0) (wrap64 (a0 - 1)) A1 c1 w1.heap.size 1 w.heap.size w.heap.size (fun _ => True) (fun _ => True) _ (Kd.R_alloc HO1.out _) (Kd.R_of_own (World.ownsRow_lit w1 #[.int .i64 (wrap64 (a0 - 1))] 1 HB1.out.size (by decide) rfl) (fun _ _ => trivial)) ?_ H.out (below_alloc HB1.out _).size).mono ?_
          · intro a ha
            subst ha
            have := Kd.R_lt HO1.out a.block rfl
            omega
          · rintro e w2 ⟨v2, rfl, ho2, hb2⟩
            have HO2 := Aside0.mk ho2
            have HB2 := Aside0.mk ((below_alloc HB1.out _).trans hb2)
            clear ho2 hb2
            go_wp2
            go_ret
            exact ⟨_, rfl, HO2.out, HB2.out⟩

end Go.Proofs.Ytcplfdfmebibpaa.MFnExactNextTrotter
