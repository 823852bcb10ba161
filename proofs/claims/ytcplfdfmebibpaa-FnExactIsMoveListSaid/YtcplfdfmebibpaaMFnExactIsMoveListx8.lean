/- Functions of the program as Lean functions, each with the proof that its call comes to just that: laid for this claim by this session's own program. -/
import Derived.Test.YtcplfdfmebibpaaMFnExactIsMoveListx0
import Derived.Test.YtcplfdfmebibpaaMFnExactIsMoveListx7
namespace Go.Proofs.Ytcplfdfmebibpaa.MFnExactIsMoveList
open Go.RowKit Go.Proofs.YtcplfdfmebibpaaW.PrintWords Go.Proofs.YtcplfdfmebibpaaW.PrintLast Go.Proofs.YtcplfdfmebibpaaW.PrintMore
attribute [local go_sem] max2_int min2_int max_two min_two max_three min_three max_four min_four   -- for this text's walks alone
set_option linter.unusedVariables false
set_option linter.unusedSimpArgs false

/-! ### impl_arePermutations: function 91 -/
def impl_arePermutations.l0 : Nat → Int → List (List Int) → List (List Int) → Int → Int → Option (Bool)
  | 0, _, _, _, _, _ => none
  | k + 1, x0, x1, x7, x8, x9 => if x9 < x8 then (if 0 ≤ x9 then (if x9 < (x7.length : Int) then (if ((rd_L3 x7 x9).length : Int) = x0 then ((impl_IsPermutation.f k (rd_L3 x7 x9)).bind fun t214 => (if t214 = true then (impl_arePermutations.l0 k x0 x1 x7 x8 (wrap64 (x9 + 1))) else (some false))) else (some false)) else (none)) else (none)) else (some (decide ((x1.length : Int) ≤ 1100)))
def impl_arePermutations.f (k : Nat) (a0 : Int) (l1 : List (List Int)) : Option (Bool) := impl_arePermutations.l0 k a0 l1 l1 (l1.length : Int) 0
theorem impl_arePermutations.mono_l : ∀ k, (∀ y0 y1 y2 y3 y4, LeO (impl_arePermutations.l0 k y0 y1 y2 y3 y4) (impl_arePermutations.l0 (k + 1) y0 y1 y2 y3 y4))
  | 0 => fun _ _ _ _ _ r h => by simp [impl_arePermutations.l0] at h
  | k + 1 => by
    have ih0 := impl_arePermutations.mono_l k
    · intro y0 y1 y2 y3 y4
      unfold impl_arePermutations.l0
      repeat' first
      | (with_reducible exact ih0 _ _ _ _ _)
      | (with_reducible exact impl_IsPermutation.mono _ _)
      | (with_reducible exact LeO.refl _)
      | (with_reducible exact LeO.none _)
      | (with_reducible refine LeO.ite ?_ ?_)
      | (with_reducible refine LeO.bind ?_ (fun _ => ?_))
      | exact ih0 _ _ _ _ _
      | exact impl_IsPermutation.mono _ _
      | exact LeO.none _
      | refine LeO.ite ?_ ?_
      | refine LeO.bind ?_ (fun _ => ?_)
theorem impl_arePermutations.mono : ∀ a0 a1 k, LeO (impl_arePermutations.f k a0 a1) (impl_arePermutations.f (k + 1) a0 a1) := by
  intro a0 a1 k
  have ih0 := impl_arePermutations.mono_l k
  unfold impl_arePermutations.f
  repeat' first
      | (with_reducible exact ih0 _ _ _ _ _)
      | (with_reducible exact impl_IsPermutation.mono _ _)
      | (with_reducible exact LeO.refl _)
      | (with_reducible exact LeO.none _)
      | (with_reducible refine LeO.ite ?_ ?_)
      | (with_reducible refine LeO.bind ?_ (fun _ => ?_))
      | exact ih0 _ _ _ _ _
      | exact impl_IsPermutation.mono _ _
      | exact LeO.none _
      | refine LeO.ite ?_ ?_
      | refine LeO.bind ?_ (fun _ => ?_)
set_option maxHeartbeats 8000000 in
set_option maxRecDepth 100000 in
theorem impl_arePermutations.calls (k : Nat) (a0 : Int) (A1 : Option Addr) (c1 : Nat) (l1 : List (List Int)) (r : Bool) (w : World) (hr1 : Kd.C (Kd.slice 3 (Kd.int .i64)) w A1 l1.length l1) (hc1 : l1.length ≤ c1) (h : impl_arePermutations.f k a0 l1 = some r) :
    Calls Try.prog 91 #[.int .i64 a0, .slice A1 l1.length c1] w fun e w' => e = .returned (.bool r) ∧ Below w.heap.size w w' := by
  have HR1 := Aside0.mk hr1
  have HC1 := Aside0.mk hc1
  clear hr1 hc1
  have HB := Aside0.mk (Below.refl w.heap.size w)
  have H : (impl_arePermutations.l0 k a0 l1 l1 (l1.length : Int) 0) = some r := h
  clear h
  have H' := Aside0.mk H
  clear H
  go_enter Try.func91, Try.ntmps91
  go_wp2
  go_loopg [9] k (fun kq v9 w' => ∃ (x9_1 : Int), v9 = .int .i64 x9_1 ∧ Aside0 (impl_arePermutations.l0 kq a0 l1 l1 (l1.length : Int) x9_1 = some r) ∧ Aside0 (kq ≤ k) ∧ Aside0 (Below w.heap.size w w'))
  case atStart => exact ⟨(0), (by first | rfl | (simp; done) | (simp [*]; done)), H', ⟨Nat.le_refl _⟩, ⟨by repeat (first | (with_reducible first | exact HB.out | apply below_alloc | apply pw_below_drewN | apply below_drew1) | exact HB.out)⟩⟩
  case round =>
    clear H'
    try clear c1
    try clear p2
    obtain ⟨x9_1, rfl, HA, HK1, HB⟩ := hrel
    cases gk with
    | zero => exact absurd HA.out (by simp [impl_arePermutations.l0])
    | succ k1 =>
      have H := HA.out
      clear HA
      simp only [impl_arePermutations.l0] at H
      by_cases c3 : x9_1 < (l1.length : Int)
      · rw [if_pos c3] at H
        have c3b0 : decide (x9_1 < (l1.length : Int)) = true := decide_eq_true c3
        clear c3
        by_cases c4 : 0 ≤ x9_1
        · rw [if_pos c4] at H
          have c4b0 : decide (0 ≤ x9_1) = true := decide_eq_true c4
          clear c4
          by_cases c5 : x9_1 < (l1.length : Int)
          · rw [if_pos c5] at H
            have c5b0 : decide (x9_1 < (l1.length : Int)) = true := decide_eq_true c5
            clear c5
            by_cases c6 : ((rd_L3 l1 x9_1).length : Int) = a0
            · rw [if_pos c6] at H
              have c6b0 : (((rd_L3 l1 x9_1).length : Int) == a0) = true := beq_iff_eq.mpr c6
              have c6b1 : (((rd_L3 l1 x9_1).length : Int) != a0) = false := bne_eq_false_iff_eq.mpr c6
              clear c6
              replace H := Option.bind_eq_some_iff.mp H
              obtain ⟨t214, A70, H⟩ := H
              replace H : (if t214 = true then (impl_arePermutations.l0 k1 a0 l1 l1 (l1.length : Int) (wrap64 (x9_1 + 1))) else (some false)) = some r := H
              have A7 := Aside0.mk A70
              clear A70
              by_cases c8 : t214 = true
              · subst c8
                have H1 : (impl_arePermutations.l0 k1 a0 l1 l1 (l1.length : Int) (wrap64 (x9_1 + 1))) = some r := by rw [if_pos rfl] at H; exact H
                clear H
                have H := H1
                clear H1
                have H' := Aside0.mk H
                clear H
                have p213 : 0 ≤ (x9_1 : Int) := of_decide_eq_true (by first | (with_reducible assumption) | assumption)
                have q213 : x9_1 < (l1.length : Int) := of_decide_eq_true (by first | (with_reducible assumption) | assumption)
                obtain ⟨ad213, A213_0, c213_0, e213, hx213_0, hl213_0, hi213_0⟩ := at_L3 HR1.out x9_1 p213 q213
                cases e213
                try replace hx213_0 := (HB.out.cell (World.block_lt_of_cell? w _ hx213_0)).trans hx213_0
                have HR213_0 := Aside0.mk hi213_0
                have HC213_0 := Aside0.mk hl213_0
                clear hi213_0 hl213_0
                replace p213 := eq_true p213
                replace q213 := eq_true q213
                go_wp2_with (first | (go_at_call 83; (with_reducible refine (impl_IsPermutation.calls k1 _ _ (rd_L3 l1 x9_1) true _ ?side1 ?side2 A7.out).mono ?_); (case side1 => repeat (first | exact (Kd.C_below HR213_0.out HB.out) | (with_reducible refine Kd.C_alloc ?_ _) | (with_reducible refine Kd.C_drewN ?_ _) | (with_reducible refine Kd.C_drew ?_))); (case side2 => exact HC213_0.out); rintro e w9 ⟨rfl, hb⟩; have n0_ := Aside0.mk (below_step (by repeat (first | (with_reducible first | exact HB.out | apply below_alloc | apply pw_below_drewN | apply below_drew1) | exact HB.out)) hb); clear HB; have HB := n0_; clear n0_; (try clear hb); (try clear hb2); (try clear hk); (try clear hi)))
                go_roundg k1
                case measure => have := HK1.out; omega
                case rel => exact ⟨(wrap64 (x9_1 + 1)), (by first | rfl | (simp; done) | (simp [*]; done)), H', ⟨by have := HK1.out; omega⟩, ⟨by repeat (first | (with_reducible first | exact HB.out | apply below_alloc | apply pw_below_drewN | apply below_drew1) | exact HB.out)⟩⟩
              · replace c8 := Bool.eq_false_iff.mpr c8
                subst c8
                have H1 : (some false) = some r := by rw [if_neg (show ¬ (false = true) by decide)] at H; exact H
                clear H
                have H := H1
                clear H1
                obtain rfl := Option.some.inj H
                have p213 : 0 ≤ (x9_1 : Int) := of_decide_eq_true (by first | (with_reducible assumption) | assumption)
                have q213 : x9_1 < (l1.length : Int) := of_decide_eq_true (by first | (with_reducible assumption) | assumption)
                obtain ⟨ad213, A213_0, c213_0, e213, hx213_0, hl213_0, hi213_0⟩ := at_L3 HR1.out x9_1 p213 q213
                cases e213
                try replace hx213_0 := (HB.out.cell (World.block_lt_of_cell? w _ hx213_0)).trans hx213_0
                have HR213_0 := Aside0.mk hi213_0
                have HC213_0 := Aside0.mk hl213_0
                clear hi213_0 hl213_0
                replace p213 := eq_true p213
                replace q213 := eq_true q213
                go_wp2_with (first | (go_at_call 83; (with_reducible refine (impl_IsPermutation.calls k1 _ _ (rd_L3 l1 x9_1) false _ ?side1 ?side2 A7.out).mono ?_); (case side1 => repeat (first | exact (Kd.C_below HR213_0.out HB.out) | (with_reducible refine Kd.C_alloc ?_ _) | (with_reducible refine Kd.C_drewN ?_ _) | (with_reducible refine Kd.C_drew ?_))); (case side2 => exact HC213_0.out); rintro e w10 ⟨rfl, hb⟩; have n0_ := Aside0.mk (below_step (by repeat (first | (with_reducible first | exact HB.out | apply below_alloc | apply pw_below_drewN | apply below_drew1) | exact HB.out)) hb); clear HB; have HB := n0_; clear n0_; (try clear hb); (try clear hb2); (try clear hk); (try clear hi)))
                go_ret
                exact ⟨by first | rfl | (simp [errW_none, errW_some] <;> rfl) | (simp [*, errW_none, errW_some] <;> rfl), by repeat (first | (with_reducible first | exact HB.out | apply below_alloc | apply pw_below_drewN | apply below_drew1) | exact HB.out)⟩
            · rw [if_neg c6] at H
              have c6b0 : (((rd_L3 l1 x9_1).length : Int) == a0) = false := beq_eq_false_iff_ne.mpr c6
              have c6b1 : (((rd_L3 l1 x9_1).length : Int) != a0) = true := bne_iff_ne.mpr c6
              obtain rfl := Option.some.inj H
              have p213 : 0 ≤ (x9_1 : Int) := of_decide_eq_true (by first | (with_reducible assumption) | assumption)
              have q213 : x9_1 < (l1.length : Int) := of_decide_eq_true (by first | (with_reducible assumption) | assumption)
              obtain ⟨ad213, A213_0, c213_0, e213, hx213_0, hl213_0, hi213_0⟩ := at_L3 HR1.out x9_1 p213 q213
              cases e213
              try replace hx213_0 := (HB.out.cell (World.block_lt_of_cell? w _ hx213_0)).trans hx213_0
              have HR213_0 := Aside0.mk hi213_0
              have HC213_0 := Aside0.mk hl213_0
              clear hi213_0 hl213_0
              replace p213 := eq_true p213
              replace q213 := eq_true q213
              go_wp2
              go_ret
              exact ⟨by first | rfl | (simp [errW_none, errW_some] <;> rfl) | (simp [*, errW_none, errW_some] <;> rfl), by repeat (first | (with_reducible first | exact HB.out | apply below_alloc | apply pw_below_drewN | apply below_drew1) | exact HB.out)⟩
          · rw [if_neg c5] at H
            exact absurd H (by simp)
        · rw [if_neg c4] at H
          exact absurd H (by simp)
      · rw [if_neg c3] at H
        have c3b0 : decide (x9_1 < (l1.length : Int)) = false := decide_eq_false c3
        clear c3
        obtain rfl := Option.some.inj H
        go_wp2
        go_ret
        exact ⟨by first | rfl | (simp [errW_none, errW_some] <;> rfl) | (simp [*, errW_none, errW_some] <;> rfl), by repeat (first | (with_reducible first | exact HB.out | apply below_alloc | apply pw_below_drewN | apply below_drew1) | exact HB.out)⟩

-- NOT PRINTED: function 76 (impl_Move)

/-! ### impl_copied: function 98 -/
def impl_copied.f (l0 : List Int) : Option (List Int) := (some (([] : List Int) : List Int)).bind fun y215 => (if y215.length + l0.length < 17592186044416 then (some (y215 ++ l0)) else (none))
set_option maxHeartbeats 8000000 in
set_option maxRecDepth 100000 in
theorem impl_copied.calls (A0 : Option Addr) (c0 : Nat) (l0 : List Int) (r : List Int) (w : World) (hr0 : Kd.C (Kd.int .i64) w A0 l0.length l0) (hc0 : l0.length ≤ c0) (h : impl_copied.f l0 = some r) :
    Calls Try.prog 98 #[.slice A0 l0.length c0] w fun e w' => ∃ v0_ : Value, e = .returned (v0_) ∧ Kd.R (Kd.int .i64) 3 w' w.heap.size (fun _ => True) v0_ r ∧ Below w.heap.size w w' := by
  have HR0 := Aside0.mk hr0
  have HC0 := Aside0.mk hc0
  clear hr0 hc0
  have HB := Aside0.mk (Below.refl w.heap.size w)
  have H : ((some (([] : List Int) : List Int)).bind fun y215 => (if y215.length + l0.length < 17592186044416 then (some (y215 ++ l0)) else (none))) = some r := h
  clear h
  obtain ⟨y215, hy215⟩ : ∃ y_ : List Int, y_ = (([] : List Int)) := ⟨_, rfl⟩
  replace H : (if y215.length + l0.length < 17592186044416 then (some (y215 ++ l0)) else (none)) = some r := by first | (rw [hy215]; with_reducible exact H) | (have H2_ := (Option.bind_some _ _).symm.trans H; rw [hy215]; with_reducible exact H2_) | (have H2_ := (Option.bind_some _ _).symm.trans H; with_reducible exact H2_) | with_reducible exact H | (rw [hy215]; exact H) | exact H
  have Ny215 := Aside0.mk hy215
  clear hy215
  by_cases c2 : y215.length + l0.length < 17592186044416
  · rw [if_pos c2] at H
    have LMc2 := Aside0.mk c2
    clear c2
    obtain ⟨y218, hy218⟩ : ∃ y_ : List Int, y_ = (y215 ++ l0) := ⟨_, rfl⟩
    replace H : (some y218) = some r := by first | (rw [hy218]; with_reducible exact H) | (have H2_ := (Option.bind_some _ _).symm.trans H; rw [hy218]; with_reducible exact H2_) | (have H2_ := (Option.bind_some _ _).symm.trans H; with_reducible exact H2_) | with_reducible exact H | (rw [hy218]; exact H) | exact H
    have Ny218 := Aside0.mk hy218
    clear hy218
    obtain rfl := Option.some.inj H
    go_enter Try.func98, Try.ntmps98
    go_wp2_with (first | ((with_reducible refine gate_dst (N := 3) rfl ?_); refine Kd.R_lit (Kd.int .i64) _ 3 ?hg (N := 3) ?hd (xs := ([] : List Int)) (inner := []) (ok := fun _ => True) (okp := fun _ => True) ?hr ?hp (fun _ hk => hk) trivial (Below.refl _ _) (Nat.le_refl _) (by simp) ?_; (case hd => rfl); (case hg => rfl); (case hr => first | (go_simp; done) | (go_simp; rfl)); (case hp => exact (Reps.none _ _)); intro v216 w3 ho4 hb hg_ hnew_; clear hg_ hnew_; (first | rw [← Ny215.out] at ho4 | (simp only [Int.reduceToNat] at ho4; rw [← Ny215.out] at ho4)); have n0_ := Aside0.mk (Kd.R_lower ho4 (below_size (by repeat (first | (with_reducible first | exact HB.out | apply below_alloc | apply pw_below_drewN | apply below_drew1) | exact HB.out)))); have n1_ := Aside0.mk (below_step (by repeat (first | (with_reducible first | exact HB.out | apply below_alloc | apply pw_below_drewN | apply below_drew1) | exact HB.out)) hb); clear HB; have HO217 := n0_; have HB := n1_; clear n0_ n1_; clear hb ho4) | ((with_reducible refine gate_builtin (b := .append) (xs := #[.tmp 3, .tmp 4]) rfl ?_); at_builtin; refine Kd.R_append_rows (Kd.int .i64) (w0 := w) w.heap.size rfl (.tmp 3) (.tmp 4) 22 3 (.int .i64 0) 8 rfl Try.underlying22 info3 rfl (by decide) (by omega) v216 y215 l0 _ _ _ (fun _ => True) (fun _ => False) rfl rfl ?aO ?aR (fun _ _ h => h) (fun _ h => h.elim) ?aF ?aB ?aS ?aL ?_; (case aR => repeat (first | exact (Kd.C_below HR0.out HB.out) | (with_reducible refine Kd.C_alloc ?_ _) | (with_reducible refine Kd.C_drewN ?_ _) | (with_reducible refine Kd.C_drew ?_))); (case aB => exact (by repeat (first | (with_reducible first | exact HB.out | apply below_alloc | apply pw_below_drewN | apply below_drew1) | exact HB.out))); (case aF => exact (fun _ _ => trivial)); (case aO => exact (by (with_reducible repeat (first | apply Kd.R_alloc | apply Kd.R_drewN | apply Kd.R_drew)); exact HO217.out)); (case aS => exact (below_size (by repeat (first | (with_reducible first | exact HB.out | apply below_alloc | apply pw_below_drewN | apply below_drew1) | exact HB.out)))); (case aL => have := LMc2.out; omega); intro v219 w5 ho hb hg hat; rw [← Ny218.out] at ho; have n0_ := Aside0.mk (hb); have n1_ := Aside0.mk (ho); clear HB; clear HO217; have HB := n0_; have HO220 := n1_; clear n0_ n1_; clear ho hb hg hat))
    go_ret
    exact ⟨_, by first | rfl | (simp [errW_none, errW_some] <;> rfl) | (simp [*, errW_none, errW_some] <;> rfl), by (with_reducible repeat (first | apply Kd.R_alloc | apply Kd.R_drewN | apply Kd.R_drew)); exact HO220.out, by repeat (first | (with_reducible first | exact HB.out | apply below_alloc | apply pw_below_drewN | apply below_drew1) | exact HB.out)⟩
  · rw [if_neg c2] at H
    exact absurd H (by simp)

/-! ### impl_moved: function 66 -/
/-- A beginning turned over, from the ends inward. -/
def impl_moved.r0 : Nat → List Int → Int → Int → Option (List Int)
  | 0, _, _, _ => none
  | k + 1, x0, x2, x3 => if x2 < x3 then (impl_moved.r0 k ((x0.set x2.toNat (rd x0 x3)).set x3.toNat (rd x0 x2)) (x2 + 1) (x3 - 1)) else (some x0)
def impl_moved.f (k : Nat) (l0 : List Int) (a1_0 : Int) (a1_1 : Int) (a1_2 : Int) : Option (List Int) :=
  (impl_copied.f l0).bind fun t => (if l0.length ≤ 1000000 then (if a1_0 = 0 then (if 0 ≤ a1_1 then (if a1_1 < (l0.length : Int) then (if 0 ≤ a1_2 then (if a1_2 < (l0.length : Int) then (some ((l0.set a1_1.toNat (rd l0 a1_2)).set a1_2.toNat (rd l0 a1_1))) else (none)) else (none)) else (none)) else (none))
    else (if a1_0 = 1 then (if 1 ≤ a1_1 then (if a1_1 ≤ (l0.length : Int) then (impl_moved.r0 k l0 0 (a1_1 - 1)) else (none)) else (none))
    else (if a1_0 = 2 then (if 1 ≤ a1_1 then (if a1_1 ≤ (l0.length : Int) then (some (((l0.take a1_1.toNat).drop 1 ++ l0.drop (a1_1 - 1).toNat).set (a1_1 - 1).toNat (rd l0 0))) else (none)) else (none))
    else (none)))) else (none))
theorem impl_moved.mono_l : ∀ k, (∀ y0 y1 y2, LeO (impl_moved.r0 k y0 y1 y2) (impl_moved.r0 (k + 1) y0 y1 y2))
  | 0 => fun _ _ _ r h => by simp [impl_moved.r0] at h
  | k + 1 => by
    have ih0 := impl_moved.mono_l k
    · intro y0 y1 y2
      unfold impl_moved.r0
      repeat' first
      | (with_reducible exact ih0 _ _ _)
      | (with_reducible exact LeO.refl _)
      | (with_reducible exact LeO.none _)
      | (with_reducible refine LeO.ite ?_ ?_)
      | (with_reducible refine LeO.bind ?_ (fun _ => ?_))
      | exact ih0 _ _ _
      | exact LeO.none _
      | refine LeO.ite ?_ ?_
      | refine LeO.bind ?_ (fun _ => ?_)
theorem impl_moved.mono : ∀ a0 a1 a2 a3 k, LeO (impl_moved.f k a0 a1 a2 a3) (impl_moved.f (k + 1) a0 a1 a2 a3) := by
  intro a0 a1 a2 a3 k
  have ih0 := impl_moved.mono_l k
  unfold impl_moved.f
  repeat' first
      | (with_reducible exact ih0 _ _ _)
      | (with_reducible exact LeO.refl _)
      | (with_reducible exact LeO.none _)
      | (with_reducible refine LeO.ite ?_ ?_)
      | (with_reducible refine LeO.bind ?_ (fun _ => ?_))
      | exact ih0 _ _ _
      | exact LeO.none _
      | refine LeO.ite ?_ ?_
      | refine LeO.bind ?_ (fun _ => ?_)
theorem impl_copied_is {l0 t : List Int} (h : impl_copied.f l0 = some t) : t = l0 := by
  unfold impl_copied.f at h
  simp only [Option.bind_some, List.nil_append] at h
  split at h
  · exact (Option.some.inj h).symm
  · cases h
set_option maxHeartbeats 8000000 in
set_option maxRecDepth 100000 in
theorem slices_Reverse_begin (k : Nat) (L r : List Int) (i : Int) (go co base : Nat) (ok : Nat → Prop) (w0 w : World) (hB : Below w0.heap.size w0 w) (hg : w0.heap.size ≤ go)
    (ho : Kd.R (Kd.int .i64) 3 w base ok (.slice (some ⟨go, 0, none⟩) L.length co) L) (h0 : 0 ≤ i) (hm : i ≤ L.length) (hl : L.length ≤ 1000000) (h : impl_moved.r0 k L 0 (i - 1) = some r) :
    Calls Try.prog 99 #[.slice (some ⟨go, 0, none⟩) i.toNat co] w fun e w' => e = .returned (.tuple #[]) ∧ Kd.R (Kd.int .i64) 3 w' base ok (.slice (some ⟨go, 0, none⟩) L.length co) r ∧ Below w0.heap.size w0 w' := by
  obtain ⟨m, rfl⟩ := Int.eq_ofNat_of_zero_le h0
  rw [Int.toNat_natCast]
  have HB := Aside0.mk hB
  have HO := Aside0.mk ho
  have H' := Aside0.mk h
  clear hB ho h
  go_enter Try.func99, Try.ntmps99
  go_wp2
  go_loopg [2, 3] k (fun kq v2 v3 w' => ∃ (x0_1 : List Int) (x2_1 : Int) (x3_1 : Int), v2 = .int .i64 x2_1 ∧ v3 = .int .i64 x3_1 ∧ 0 ≤ x2_1 ∧ x2_1 ≤ m ∧ x3_1 < (m : Int) ∧ -1 ≤ x2_1 + x3_1 ∧ Aside0 (x0_1.length = L.length) ∧ Aside0 (impl_moved.r0 kq x0_1 x2_1 x3_1 = some r) ∧ Aside0 (kq ≤ k) ∧ Aside0 (Kd.R (Kd.int .i64) 3 w' base ok (.slice (some ⟨go, 0, none⟩) L.length co) x0_1) ∧ Aside0 (Below w0.heap.size w0 w'))
  case atStart => exact ⟨L, 0, (m : Int) - 1, rfl, rfl, by omega, by omega, by omega, by omega, ⟨rfl⟩, H', ⟨Nat.le_refl _⟩, HO, HB⟩
  case round =>
    clear H' HO HB
    obtain ⟨x0_1, x2_1, x3_1, rfl, rfl, g0, g1, g2, g3, HLen, HA, HK1, HO, HB⟩ := hrel
    cases gk with
    | zero => exact absurd HA.out (by simp [impl_moved.r0])
    | succ k1 =>
      have H := HA.out
      clear HA
      simp only [impl_moved.r0] at H
      by_cases c : x2_1 < x3_1
      · rw [if_pos c] at H
        have H' := Aside0.mk H
        clear H
        have cb : decide (x2_1 < x3_1) = true := decide_eq_true c
        have q2 : x2_1 < (L.length : Int) := by omega
        have q3 : x3_1 < (L.length : Int) := by omega
        have p3 : 0 ≤ x3_1 := by omega
        have q2m : x2_1 < (m : Int) := by omega
        obtain ⟨hx2, hf2⟩ := Kd.R_celln 0 HO.out x2_1 g0 q2
        obtain ⟨hx3, hf3⟩ := Kd.R_celln 0 HO.out x3_1 p3 q3
        obtain ⟨vj, hyj⟩ := cell?_setCell_some (w := wr) (p := ⟨go, x2_1.toNat, none⟩) (x := .int .i64 (rdOf 0 x0_1 x3_1)) (q := ⟨go, x3_1.toNat, none⟩) hx3
        have HP := Aside0.mk (Kd.R_putg HO.out x2_1 (rdOf 0 x0_1 x3_1)).1
        have HQ := Aside0.mk (Kd.R_putg HP.out x3_1 (rdOf 0 x0_1 x2_1)).1
        clear q2 q3
        go_wp2_with fail
        go_region
        go_wp2
        go_roundg k1
        case measure => have := HK1.out; omega
        case rel => exact ⟨_, x2_1 + 1, x3_1 - 1, rfl, rfl, by omega, by omega, by omega, by omega, ⟨by rw [List.length_set, List.length_set]; exact HLen.out⟩, H', ⟨by have := HK1.out; omega⟩, ⟨Kd.R_drew HQ.out⟩, ⟨below_drew1 (below_set (below_set HB.out hg) hg)⟩⟩
      · rw [if_neg c] at H
        obtain rfl := Option.some.inj H
        have cb : decide (x2_1 < x3_1) = false := decide_eq_false c
        go_wp2
        go_end0
        exact ⟨rfl, HO.out, HB.out⟩
set_option maxHeartbeats 8000000 in
set_option maxRecDepth 100000 in
theorem impl_moved.calls (k : Nat) (A0 : Option Addr) (c0 : Nat) (l0 : List Int) (a1_0 : Int) (a1_1 : Int) (a1_2 : Int) (r : List Int) (w : World) (hr0 : Kd.C (Kd.int .i64) w A0 l0.length l0) (hc0 : l0.length ≤ c0) (h : impl_moved.f k l0 a1_0 a1_1 a1_2 = some r) :
    Calls Try.prog 66 #[.slice A0 l0.length c0, .agg #[.int .i64 a1_0, .int .i64 a1_1, .int .i64 a1_2]] w fun e w' => ∃ v0_ : Value, e = .returned (v0_) ∧ Kd.R (Kd.int .i64) 3 w' w.heap.size (fun _ => True) v0_ r ∧ Below w.heap.size w w' := by
  have hu26 := Try.underlying55
  have HR0 := Aside0.mk hr0
  have HC0 := Aside0.mk hc0
  clear hr0 hc0
  have HB := Aside0.mk (Below.refl w.heap.size w)
  unfold impl_moved.f at h
  obtain ⟨t, A1, H⟩ := Option.bind_eq_some_iff.mp h
  clear h
  obtain rfl := impl_copied_is A1
  have Hc := Aside0.mk A1
  clear A1
  by_cases hl : t.length ≤ 1000000
  rotate_left
  · rw [if_neg hl] at H; cases H
  rw [if_pos hl] at H
  by_cases e0 : a1_0 = 0
  · subst e0
    rw [if_pos rfl] at H
    by_cases hi0 : 0 ≤ a1_1
    rotate_left
    · rw [if_neg hi0] at H; cases H
    rw [if_pos hi0] at H
    by_cases hi : a1_1 < (t.length : Int)
    rotate_left
    · rw [if_neg hi] at H; cases H
    rw [if_pos hi] at H
    by_cases hj0 : 0 ≤ a1_2
    rotate_left
    · rw [if_neg hj0] at H; cases H
    rw [if_pos hj0] at H
    by_cases hj : a1_2 < (t.length : Int)
    rotate_left
    · rw [if_neg hj] at H; cases H
    rw [if_pos hj] at H
    obtain rfl := Option.some.inj H
    clear H
    go_enter Try.func66, Try.ntmps66
    go_wp2_with (first | ((with_reducible refine gate_dst (N := 3) rfl ?_); refine box_event ?hg (N := 3) ?hd (cs := #[.int .i64 0, .int .i64 a1_1, .int .i64 a1_2]) (t := 55) ?hr ?_; (case hd => rfl); (case hg => rfl); (case hr => first | (go_simp; done) | (go_simp; rfl)); intro gb hgb w1 hbox hb; have HB1 := Aside0.mk hb; have BK1 := Aside0.mk hbox; have HG := Aside0.mk hgb; clear HB hb hbox hgb))
    refine (impl_copied.calls A0 c0 t t _ (Kd.C_below HR0.out HB1.out) HC0.out Hc.out).mono ?_
    rintro e w2 ⟨v, rfl, ho, hb2⟩
    have BK2 := Aside0.mk (blk_below BK1.out hb2)
    have HB2 := Aside0.mk (HB1.out.trans (hb2.mono HB1.out.size))
    have HO := Aside0.mk ho
    obtain ⟨go, co, ev, gb9, gl9, cl9, HG9⟩ := Kd.R_form HO.out (by omega)
    subst ev
    have hx0 : w2.cell? ⟨gb, 0, none⟩ = some (.int .i64 0) := (blk_cell BK2.out 0).trans rfl
    have hx1 : w2.cell? ⟨gb, 1, none⟩ = some (.int .i64 a1_1) := (blk_cell BK2.out 1).trans rfl
    have hx2 : w2.cell? ⟨gb, 2, none⟩ = some (.int .i64 a1_2) := (blk_cell BK2.out 2).trans rfl
    obtain ⟨hxi, hfi⟩ := Kd.R_celln 0 HO.out a1_1 hi0 hi
    obtain ⟨hxj, hfj⟩ := Kd.R_celln 0 HO.out a1_2 hj0 hj
    have hne : gb ≠ go := by have := HG.out; have := blk_lt BK1.out; omega
    have hgo : w.heap.size ≤ go := Nat.le_trans HB1.out.size gb9
    have hlt : decide (a1_1 < (t.length : Int)) = true := decide_eq_true hi
    have hltj : decide (a1_2 < (t.length : Int)) = true := decide_eq_true hj
    obtain ⟨vj, hyj⟩ := cell?_setCell_some (w := w2) (p := ⟨go, a1_1.toNat, none⟩) (x := .int .i64 (rdOf 0 t a1_2)) (q := ⟨go, a1_2.toNat, none⟩) hxj
    have HP := Aside0.mk (Kd.R_putg HO.out a1_1 (rdOf 0 t a1_2)).1
    have HQ := Aside0.mk (Kd.R_lower (Kd.R_putg HP.out a1_2 (rdOf 0 t a1_1)).1 HB1.out.size)
    clear ho hb2 HG9 HR0 HC0 Hc BK1 BK2 HB1 HO HP
    go_wp2_with fail
    go_region
    go_wp2
    go_ret
    exact ⟨_, rfl, Kd.R_drew HQ.out, below_drew1 (below_set (below_set HB2.out hgo) hgo)⟩
  · rw [if_neg e0] at H
    have e0b : (a1_0 == 0) = false := beq_eq_false_iff_ne.mpr e0
    by_cases e1 : a1_0 = 1
    · subst e1
      clear e0 e0b
      rw [if_pos rfl] at H
      by_cases hi0 : 1 ≤ a1_1
      rotate_left
      · rw [if_neg hi0] at H; cases H
      rw [if_pos hi0] at H
      by_cases hi : a1_1 ≤ (t.length : Int)
      rotate_left
      · rw [if_neg hi] at H; cases H
      rw [if_pos hi] at H
      have H' := Aside0.mk H
      clear H
      go_enter Try.func66, Try.ntmps66
      go_wp2_with (first | ((with_reducible refine gate_dst (N := 3) rfl ?_); refine box_event ?hg (N := 3) ?hd (cs := #[.int .i64 1, .int .i64 a1_1, .int .i64 a1_2]) (t := 55) ?hr ?_; (case hd => rfl); (case hg => rfl); (case hr => first | (go_simp; done) | (go_simp; rfl)); intro gb hgb w1 hbox hb; have HB1 := Aside0.mk hb; have BK1 := Aside0.mk hbox; have HG := Aside0.mk hgb; clear HB hb hbox hgb))
      refine (impl_copied.calls A0 c0 t t _ (Kd.C_below HR0.out HB1.out) HC0.out Hc.out).mono ?_
      rintro e w2 ⟨v, rfl, ho, hb2⟩
      have BK2 := Aside0.mk (blk_below BK1.out hb2)
      have HB2 := Aside0.mk (HB1.out.trans (hb2.mono HB1.out.size))
      have HO := Aside0.mk ho
      have hx0 : w2.cell? ⟨gb, 0, none⟩ = some (.int .i64 1) := (blk_cell BK2.out 0).trans rfl
      have hx1 : w2.cell? ⟨gb, 1, none⟩ = some (.int .i64 a1_1) := (blk_cell BK2.out 1).trans rfl
      obtain ⟨go, co, ev, gb9, gl9, cl9, HG9⟩ := Kd.R_form HO.out (by omega)
      subst ev
      have hgo : w.heap.size ≤ go := Nat.le_trans HB1.out.size gb9
      have Hco := (Kd.R_reads' HO.out).2.1
      obtain ⟨inf0, hinf, hz1, hsz1, hb1⟩ := info_parts info3
      have hcut := cut_to (P := Try.prog) 22 3 .i64 Try.underlying22 hinf (some ⟨go, 0, none⟩) t.length co a1_1 (by omega) hi Hco
      have Hgo := Aside0.mk hgo
      clear ho hb2 HG9 HR0 HC0 Hc BK1 BK2 hinf hz1 hsz1 hb1 gb9 gl9 hgo Hco
      go_wp2_with fail
      refine (slices_Reverse_begin k t r a1_1 go co w1.heap.size (fun _ => True) w w2 HB2.out Hgo.out HO.out (by omega) hi hl H'.out).mono ?_
      rintro e w3 ⟨rfl, ho3, hb3⟩
      have HO3 := Aside0.mk (Kd.R_lower ho3 HB1.out.size)
      have HB3 := Aside0.mk hb3
      clear ho3 hb3
      go_wp2
      go_ret
      exact ⟨_, rfl, HO3.out, HB3.out⟩
    · rw [if_neg e1] at H
      have e1b : (a1_0 == 1) = false := beq_eq_false_iff_ne.mpr e1
      by_cases e2 : a1_0 = 2
      rotate_left
      · rw [if_neg e2] at H; cases H
      subst e2
      clear e0 e0b e1 e1b
      rw [if_pos rfl] at H
      by_cases hi0 : 1 ≤ a1_1
      rotate_left
      · rw [if_neg hi0] at H; cases H
      rw [if_pos hi0] at H
      by_cases hi : a1_1 ≤ (t.length : Int)
      rotate_left
      · rw [if_neg hi] at H; cases H
      rw [if_pos hi] at H
      obtain rfl := Option.some.inj H
      clear H
      obtain ⟨inf0, hinf, hz1, hsz1, hb1⟩ := info_parts info3
      obtain ⟨A1, hA1⟩ : ∃ A1, A1 = (if c0 = (1 : Int).toNat then A0 else A0.map (·.add ((1 : Int).toNat * 1))) := ⟨_, rfl⟩
      have hcut := cut_mid (P := Try.prog) 22 3 .i64 .i64 Try.underlying22 hinf 1 hsz1 A0 t.length c0 1 a1_1 (by omega) hi0 hi HC0.out
      rw [← hA1] at hcut
      have HR1 := Aside0.mk (Kd.C_mid (lo := 1) (hi := a1_1.toNat) HR0.out (by omega) (by omega) HC0.out)
      rw [show (if c0 = 1 then A0 else A0.map (·.add (1 * (Kd.int .i64).sz))) = A1 from hA1.symm, show ((t.take a1_1.toNat).drop 1).length = a1_1.toNat - 1 from by rw [List.length_drop, List.length_take]; omega] at HR1
      clear hA1
      obtain ⟨ad0, ed0, hxl⟩ := Kd.at_int HR0.out 0 (by omega) (by omega)
      cases ed0
      have hszI : (Try.prog.info? 3).map (·.size) = some 1 := by rw [hinf]; exact congrArg some hsz1
      clear hinf hz1 hsz1 hb1
      have HSZ := Aside0.mk hszI
      have HXL := Aside0.mk hxl
      clear hszI hxl
      go_enter Try.func66, Try.ntmps66
      go_wp2_with (first | ((with_reducible refine gate_dst (N := 3) rfl ?_); refine box_event ?hg (N := 3) ?hd (cs := #[.int .i64 2, .int .i64 a1_1, .int .i64 a1_2]) (t := 55) ?hr ?_; (case hd => rfl); (case hg => rfl); (case hr => first | (go_simp; done) | (go_simp; rfl)); intro gb hgb w1 hbox hb; have HB1 := Aside0.mk hb; have BK1 := Aside0.mk hbox; have HG := Aside0.mk hgb; clear HB hb hbox hgb))
      refine (impl_copied.calls (some ad0) c0 t t _ (Kd.C_below HR0.out HB1.out) HC0.out Hc.out).mono ?_
      rintro e w2 ⟨v, rfl, ho, hb2⟩
      have BK2 := Aside0.mk (blk_below BK1.out hb2)
      have HB2 := Aside0.mk (HB1.out.trans (hb2.mono HB1.out.size))
      obtain ⟨go, co, ev, gb9, gl9, cl9, HG9⟩ := Kd.R_form ho (by omega)
      subst ev
      have HO := Aside0.mk (Kd.R_lower ho HB1.out.size)
      have hx0 : w2.cell? ⟨gb, 0, none⟩ = some (.int .i64 2) := (blk_cell BK2.out 0).trans rfl
      have hx1 : w2.cell? ⟨gb, 1, none⟩ = some (.int .i64 a1_1) := (blk_cell BK2.out 1).trans rfl
      have hne : gb ≠ go := by have := HG.out; have := blk_lt BK1.out; omega
      have Hgo := Aside0.mk (Nat.le_trans HB1.out.size gb9)
      clear ho hb2 HG9 HC0 Hc BK1 BK2 gb9 gl9
      go_wp2_with (first | ((with_reducible refine gate_builtin (b := .copy) (xs := #[.tmp 39, .tmp 43]) rfl ?_); refine Kd.R_copy (enc := Value.int .i64) (d := 0) (w0 := w) w.heap.size rfl (.tmp 39) (.tmp 43) 22 22 3 rfl Try.underlying22 HSZ.out (.slice (some ⟨go, 0, none⟩) t.length co) t ((t.take a1_1.toNat).drop 1) A1 (a1_1.toNat - 1) (c0 - 1) (fun _ => True) rfl rfl HO.out (Kd.C_below HR1.out HB2.out) HB2.out HB2.out.size ?_; intro w3 ho3 hb3 hg3; rw [show min (a1_1.toNat - 1) t.length = a1_1.toNat - 1 from by omega, List.take_of_length_le (show ((t.take a1_1.toNat).drop 1).length ≤ a1_1.toNat - 1 by rw [List.length_drop, List.length_take]; omega), show a1_1.toNat - 1 = (a1_1 - 1).toNat from by omega] at ho3; have HO3 := Aside0.mk ho3; have HB3 := Aside0.mk hb3; have hx13 := cell_grown hg3 hx1 (fun e_ => hne (Option.some.inj e_)); clear HO HR1 HB2 hcut hx0 hx1 ho3 hb3 hg3))
      have hxl3 := (HB3.out.cell (World.block_lt_of_cell? w _ HXL.out)).trans HXL.out
      rw [show ad0.add (Int.toNat 0) = ad0 from by simp [Addr.add]] at hxl3
      have htl : 0 < t.length := by omega
      have hlen : ((t.take a1_1.toNat).drop 1 ++ t.drop (a1_1 - 1).toNat).length = t.length := by rw [List.length_append, List.length_drop, List.length_drop, List.length_take]; omega
      obtain ⟨hxi, hfi⟩ := Kd.R_celln 0 HO3.out (a1_1 - 1) (by omega) (by omega)
      have HQ := Aside0.mk (Kd.R_putg HO3.out (a1_1 - 1) (rd t 0)).1
      clear HXL HSZ HB1 hlen
      have hwr : IntKind.i64.wrap (a1_1 - 1) = a1_1 - 1 := IntWalk.i64_in _ (by omega)
      have hp1 : 0 ≤ a1_1 - 1 := by omega
      have hq1 : a1_1 - 1 < (t.length : Int) := by omega
      have HE := Aside0.mk (show (a1_1 - 1).toNat = a1_1.toNat - 1 from by omega)
      rw [HE.out] at hxi hfi
      go_wp2_with fail
      go_region
      all_goals
        clear hwr
        go_wp2
        go_ret
        exact ⟨_, rfl, by rw [← HE.out]; exact Kd.R_drew HQ.out, below_drew1 (below_set HB3.out Hgo.out)⟩

/-! ### impl_steps: function 92 -/
/-- The first move at which a question is answered with yes, or -1. -/
def impl_steps.idx (g : Nat → S55 → Option Bool) : Nat → List (S55) → Int → Option Int
  | 0, _, _ => none
  | k + 1, L, i => if i < (L.length : Int) then (if 0 ≤ i then ((g k (rd_T55 L i)).bind fun t => (if t = true then (some i) else (impl_steps.idx g k L (wrap64 (i + 1))))) else (none)) else (some (-1))
theorem impl_steps.idx_mono {g : Nat → S55 → Option Bool} (hg : ∀ k x, LeO (g k x) (g (k + 1) x)) : ∀ k L i, LeO (impl_steps.idx g k L i) (impl_steps.idx g (k + 1) L i)
  | 0, _, _ => fun r h => by simp [impl_steps.idx] at h
  | k + 1, L, i => by
    unfold impl_steps.idx
    repeat' first
      | (with_reducible exact impl_steps.idx_mono hg k _ _)
      | (with_reducible exact hg _ _)
      | (with_reducible exact LeO.refl _)
      | (with_reducible exact LeO.none _)
      | (with_reducible refine LeO.ite ?_ ?_)
      | (with_reducible refine LeO.bind ?_ (fun _ => ?_))
set_option maxHeartbeats 8000000 in
set_option maxRecDepth 100000 in
theorem impl_steps.index (g : Nat → S55 → Option Bool) (g1 g2 : Nat) (k : Nat) (A1 : Option Addr) (c1 : Nat) (L : List (S55)) (r : Int) (w : World) (hL : Kd.C k55 w A1 L.length L) (hcL : L.length ≤ c1)
    (hlam : ∀ (kq : Nat) (x : S55) (t : Bool) (w' : World), Below w.heap.size w w' → g kq x = some t → Calls Try.prog 112 #[.agg #[.int .i64 x.f0, .int .i64 x.f1, .int .i64 x.f2], .pointer (some ⟨g1, 0, none⟩), .pointer (some ⟨g2, 0, none⟩)] w' fun e w'' => e = .returned (.bool t) ∧ Below w.heap.size w w'')
    (h : impl_steps.idx g k L 0 = some r) :
    Calls Try.prog 76 #[.slice A1 L.length c1, .func (Fn.func 112) #[] #[.pointer (some ⟨g1, 0, none⟩), .pointer (some ⟨g2, 0, none⟩)]] w fun e w' => e = .returned (.int .i64 r) ∧ Below w.heap.size w w' := by
  have hu := Try.underlying55
  have HL := Aside0.mk hL
  have HCL := Aside0.mk hcL
  have HM := Aside0.mk hlam
  have H' := Aside0.mk h
  have HB := Aside0.mk (Below.refl w.heap.size w)
  clear hL hcL hlam h
  go_enter Try.func76, Try.ntmps76
  go_wp2
  go_loopg [5, 8] k (fun kq v5 v8 w' => ∃ (i : Int), v8 = .int .i64 i ∧ Aside0 (Below w.heap.size w w') ∧ Aside0 (impl_steps.idx g kq L i = some r) ∧ Aside0 (kq ≤ k))
  case atStart => exact ⟨0, rfl, HB, H', ⟨Nat.le_refl _⟩⟩
  case round =>
    clear H' HB
    obtain ⟨i, rfl, HB, HA, HK1⟩ := hrel
    cases gk with
    | zero => exact absurd HA.out (by simp [impl_steps.idx])
    | succ k1 =>
      have H := HA.out
      clear HA
      simp only [impl_steps.idx] at H
      by_cases c3 : i < (L.length : Int)
      · rw [if_pos c3] at H
        have c3b0 : decide (i < (L.length : Int)) = true := decide_eq_true c3
        by_cases c4 : 0 ≤ i
        · rw [if_pos c4] at H
          obtain ⟨t, A30, H⟩ := Option.bind_eq_some_iff.mp H
          have A3 := Aside0.mk A30
          clear A30
          obtain ⟨ad, ead, hx0, hx1, hx2⟩ := at_T55 HL.out i c4 c3
          cases ead
          replace hx0 := (HB.out.cell (World.block_lt_of_cell? w _ hx0)).trans hx0
          replace hx1 := (HB.out.cell (World.block_lt_of_cell? w _ hx1)).trans hx1
          replace hx2 := (HB.out.cell (World.block_lt_of_cell? w _ hx2)).trans hx2
          have c4b : (0 ≤ i) = True := eq_true c4
          have c3b : (i < (L.length : Int)) = True := eq_true c3
          clear c3 c4
          cases t
          · simp only [Bool.false_eq_true, if_false] at H
            have H' := Aside0.mk H
            clear H
            go_wp2_with fail
            refine (HM.out k1 (rd_T55 L i) false _ HB.out A3.out).mono ?_
            rintro e w2 ⟨rfl, hb2⟩
            have HB2 := Aside0.mk hb2
            clear hb2
            go_wp2
            go_roundg k1
            case measure => have := HK1.out; omega
            case rel => exact ⟨wrap64 (i + 1), rfl, HB2, H', ⟨by have := HK1.out; omega⟩⟩
          · simp only [if_true] at H
            obtain rfl := Option.some.inj H
            clear H
            go_wp2_with fail
            refine (HM.out k1 (rd_T55 L i) true _ HB.out A3.out).mono ?_
            rintro e w2 ⟨rfl, hb2⟩
            have HB2 := Aside0.mk hb2
            clear hb2
            go_wp2
            go_ret
            exact ⟨rfl, HB2.out⟩
        · rw [if_neg c4] at H
          exact absurd H (by simp)
      · rw [if_neg c3] at H
        obtain rfl := Option.some.inj H
        have c3b0 : decide (i < (L.length : Int)) = false := decide_eq_false c3
        clear c3 H
        go_wp2
        go_ret
        exact ⟨rfl, HB.out⟩
/-- Does a move lead from a list to the next one? -/
def impl_steps.g (L : List (List Int)) (i : Int) (k : Nat) (x : S55) : Option Bool := if 1 ≤ i then (if i < (L.length : Int) then (if i < 1000000000 then ((impl_moved.f k (rd_L3 L (i - 1)) x.f0 x.f1 x.f2).bind fun u => slices_Equal_int_int.f k u (rd_L3 L i)) else none) else none) else none
theorem impl_steps.g_mono (L : List (List Int)) (i : Int) : ∀ k x, LeO (impl_steps.g L i k x) (impl_steps.g L i (k + 1) x) := by
  intro k x
  unfold impl_steps.g
  exact LeO.ite (LeO.ite (LeO.ite (LeO.bind (impl_moved.mono _ _ _ _ _) (fun _ => slices_Equal_int_int.mono _ _ _)) (LeO.none _)) (LeO.none _)) (LeO.none _)
def impl_steps.l0 : Nat → List (List Int) → List (S55) → List Int → Int → Option (List Int × Bool)
  | 0, _, _, _, _ => none
  | k + 1, L, M, out, i => if i < (L.length : Int) then ((impl_steps.idx (impl_steps.g L i) k M 0).bind fun r => (if r < 0 then (some (([] : List Int), false)) else (if out.length < 17592186044416 then (impl_steps.l0 k L M (out ++ [r]) (wrap64 (i + 1))) else (none)))) else (some (out, true))
def impl_steps.f (k : Nat) (l0 : List (List Int)) (l1 : List (S55)) : Option (List Int × Bool) := impl_steps.l0 k l0 l1 [] 1
theorem impl_steps.mono_l : ∀ k L M out i, LeO (impl_steps.l0 k L M out i) (impl_steps.l0 (k + 1) L M out i)
  | 0, _, _, _, _ => fun r h => by simp [impl_steps.l0] at h
  | k + 1, L, M, out, i => by
    unfold impl_steps.l0
    exact LeO.ite (LeO.bind (impl_steps.idx_mono (impl_steps.g_mono L i) k _ _) (fun _ => LeO.ite (LeO.refl _) (LeO.ite (impl_steps.mono_l k _ _ _ _) (LeO.none _)))) (LeO.refl _)
theorem impl_steps.mono : ∀ a0 a1 k, LeO (impl_steps.f k a0 a1) (impl_steps.f (k + 1) a0 a1) := fun a0 a1 k => impl_steps.mono_l k a0 a1 [] 1
set_option maxHeartbeats 8000000 in
set_option maxRecDepth 100000 in
theorem impl_steps.lam (L : List (List Int)) (i : Int) (AL : Option Addr) (cL : Nat) (g1 g2 : Nat) (w : World) (hL : Kd.C (Kd.slice 3 (Kd.int .i64)) w AL L.length L) (hn1 : w.cell? ⟨g1, 0, none⟩ = some (.slice AL L.length cL)) (hn2 : w.cell? ⟨g2, 0, none⟩ = some (.int .i64 i)) (kq : Nat) (x : S55) (t : Bool) (w1 : World) (hB : Below w.heap.size w w1) (h : impl_steps.g L i kq x = some t) :
    Calls Try.prog 112 #[.agg #[.int .i64 x.f0, .int .i64 x.f1, .int .i64 x.f2], .pointer (some ⟨g1, 0, none⟩), .pointer (some ⟨g2, 0, none⟩)] w1 fun e w' => e = .returned (.bool t) ∧ Below w.heap.size w w' := by
  have hu := Try.underlying55
  have HB := Aside0.mk hB
  unfold impl_steps.g at h
  by_cases p1 : 1 ≤ i
  rotate_left
  · rw [if_neg p1] at h; cases h
  rw [if_pos p1] at h
  by_cases p2 : i < (L.length : Int)
  rotate_left
  · rw [if_neg p2] at h; cases h
  rw [if_pos p2] at h
  by_cases p3 : i < 1000000000
  rotate_left
  · rw [if_neg p3] at h; cases h
  rw [if_pos p3] at h
  obtain ⟨u, h1, h2⟩ := Option.bind_eq_some_iff.mp h
  have H1 := Aside0.mk h1
  have H2 := Aside0.mk h2
  obtain ⟨aL, Ap, cp, eaL, hxp, hlp, hrp⟩ := at_L3 hL (i - 1) (by omega) (by omega)
  obtain ⟨aL', Ai, ci, eaL', hxi, hli, hri⟩ := at_L3 hL i (by omega) p2
  cases eaL
  cases eaL'
  rw [show (i - 1).toNat = i.toNat - 1 from by omega] at hxp
  have HN1 := Aside0.mk hn1
  have HN2 := Aside0.mk hn2
  have HXP := Aside0.mk hxp
  have HXI := Aside0.mk hxi
  have HLP := Aside0.mk hlp
  have HLI := Aside0.mk hli
  have HRP := Aside0.mk hrp
  have HRI := Aside0.mk hri
  have hw1 : IntKind.i64.wrap (i - 1) = i - 1 := IntWalk.i64_in _ (by omega)
  have q0 : (0 ≤ i - 1) = True := eq_true (by omega)
  have q0' : (1 ≤ i) = True := eq_true p1
  have q1 : (i - 1 < (L.length : Int)) = True := eq_true (by omega)
  have q2 : (0 ≤ i) = True := eq_true (by omega)
  have q3 : (i < (L.length : Int)) = True := eq_true p2
  have q4 : decide (0 ≤ i - 1) = true := decide_eq_true (by omega)
  have q5 : decide (i - 1 < (L.length : Int)) = true := decide_eq_true (by omega)
  have q6 : decide (0 ≤ i) = true := decide_eq_true (by omega)
  have q7 : decide (i < (L.length : Int)) = true := decide_eq_true p2
  clear h1 h2 h hB hn1 hn2 hxp hxi hlp hli hrp hri p1 p2 p3 hL
  go_enter Try.func112, Try.ntmps112
  go_wp2_with (first | ((with_reducible refine gate_dst (N := 3) rfl ?_); refine box_event ?hg (N := 3) ?hd (cs := #[.int .i64 x.f0, .int .i64 x.f1, .int .i64 x.f2]) (t := 55) ?hr ?_; (case hd => rfl); (case hg => rfl); (case hr => first | (go_simp; done) | (go_simp; rfl)); intro gx hgx w2 hbox hb2; have HB2 := Aside0.mk (show Below w.heap.size w w2 from HB.out.trans (hb2.mono HB.out.size)); have BK := Aside0.mk hbox; clear HB; have HB := HB2; clear HB2 hb2 hbox hgx))
  have n0_ := Aside0.mk (blk_drew BK.out)
  have n1_ := Aside0.mk (below_drew1 HB.out)
  clear BK HB
  have BK := n0_
  have HB := n1_
  clear n0_ n1_
  refine start_ (n := 13) (S := fun w' => w'.cell? ⟨g1, 0, none⟩ = some (.slice (some aL) L.length cL) ∧ w'.cell? ⟨g2, 0, none⟩ = some (.int .i64 i) ∧ w'.cell? ⟨gx, 0, none⟩ = some (.int .i64 x.f0) ∧ w'.cell? ⟨gx, 1, none⟩ = some (.int .i64 x.f1) ∧ w'.cell? ⟨gx, 2, none⟩ = some (.int .i64 x.f2) ∧ w'.cell? (aL.add (i.toNat - 1)) = some (.slice Ap (rd_L3 L (i - 1)).length cp) ∧ w'.cell? (aL.add i.toNat) = some (.slice Ai (rd_L3 L i).length ci)) (ds := []) #[false, false, false, false, false, false, false, false, false, false, false, false, false] (by kernel_rfl) rfl rfl ⟨(HB.out.cell (World.block_lt_of_cell? w _ HN1.out)).trans HN1.out, (HB.out.cell (World.block_lt_of_cell? w _ HN2.out)).trans HN2.out, (blk_cell BK.out 0).trans rfl, (blk_cell BK.out 1).trans rfl, (blk_cell BK.out 2).trans rfl, (HB.out.cell (World.block_lt_of_cell? w _ HXP.out)).trans HXP.out, (HB.out.cell (World.block_lt_of_cell? w _ HXI.out)).trans HXI.out⟩ (fun hHeld => ?_)
  generalize w2.drew = w6 at BK HB hHeld ⊢
  refine take_ (i := 0) (N := some 5) (v := ?_) (a' := ?_) #[true, false, false, false, false, false, false, false, false, false, false, false, false] rfl rfl (by kernel_rfl) (fun _ _ _ h => h) (Or.inl ⟨by rfl, ?_⟩) hHeld ?_ ?_
  rotate_left
  · rintro w' ⟨s0, s1, s2, s3, s4, s5, s6⟩
    go_simp
    with_reducible rfl
  rotate_left
  · simp only [Act.put, List.setIfInBounds_toArray, List.set_cons_zero, List.set_cons_succ, i64_w, i32_w]
    rfl
  refine take_ (i := 1) (N := some 6) (v := ?_) (a' := ?_) #[true, true, false, false, false, false, false, false, false, false, false, false, false] rfl rfl (by kernel_rfl) (fun _ _ _ h => h) (Or.inl ⟨by rfl, ?_⟩) hHeld ?_ ?_
  rotate_left
  · rintro w' ⟨s0, s1, s2, s3, s4, s5, s6⟩
    go_simp
    with_reducible rfl
  rotate_left
  · simp only [Act.put, List.setIfInBounds_toArray, List.set_cons_zero, List.set_cons_succ, i64_w, i32_w]
    rfl
  refine pure_ (i := 2) (N := some 7) (v := ?_) (a' := ?_) #[true, true, true, false, false, false, false, false, false, false, false, false, false] rfl rfl (by kernel_rfl) (fun _ _ _ h => h) (Or.inl ⟨by rfl, ?_⟩) ?_ ?_
  rotate_left
  · intro w'
    go_simp
    with_reducible rfl
  rotate_left
  · simp only [Act.put, List.setIfInBounds_toArray, List.set_cons_zero, List.set_cons_succ, i64_w, i32_w]
    rfl
  refine pure_ (i := 3) (N := some 8) (v := ?_) (a' := ?_) #[true, true, true, true, false, false, false, false, false, false, false, false, false] rfl rfl (by kernel_rfl) (fun _ _ _ h => h) (Or.inl ⟨by rfl, ?_⟩) ?_ ?_
  rotate_left
  · intro w'
    go_simp
    with_reducible rfl
  rotate_left
  · simp only [Act.put, List.setIfInBounds_toArray, List.set_cons_zero, List.set_cons_succ, i64_w, i32_w]
    rfl
  refine take_ (i := 4) (N := some 9) (v := ?_) (a' := ?_) #[true, true, true, true, true, false, false, false, false, false, false, false, false] rfl rfl (by kernel_rfl) (fun _ _ _ h => h) (Or.inl ⟨by rfl, ?_⟩) hHeld ?_ ?_
  rotate_left
  · rintro w' ⟨s0, s1, s2, s3, s4, s5, s6⟩
    go_simp
    with_reducible rfl
  rotate_left
  · simp only [Act.put, List.setIfInBounds_toArray, List.set_cons_zero, List.set_cons_succ, i64_w, i32_w]
    rfl
  refine take_ (i := 5) (N := some 10) (v := ?_) (a' := ?_) #[true, true, true, true, true, true, false, false, false, false, false, false, false] rfl rfl (by kernel_rfl) (fun _ _ _ h => h) (Or.inl ⟨by rfl, ?_⟩) hHeld ?_ ?_
  rotate_left
  · rintro w' ⟨s0, s1, s2, s3, s4, s5, s6⟩
    go_simp
    with_reducible rfl
  rotate_left
  · simp only [Act.put, List.setIfInBounds_toArray, List.set_cons_zero, List.set_cons_succ, i64_w, i32_w]
    rfl
  refine take_ (i := 7) (N := some 12) (v := ?_) (a' := ?_) #[true, true, true, true, true, true, false, true, false, false, false, false, false] rfl rfl (by kernel_rfl) (fun _ _ _ h => h) (Or.inl ⟨by rfl, ?_⟩) hHeld ?_ ?_
  rotate_left
  · rintro w' ⟨s0, s1, s2, s3, s4, s5, s6⟩
    go_simp
    with_reducible rfl
  rotate_left
  · simp only [Act.put, List.setIfInBounds_toArray, List.set_cons_zero, List.set_cons_succ, i64_w, i32_w]
    rfl
  refine take_ (i := 8) (N := some 13) (v := ?_) (a' := ?_) #[true, true, true, true, true, true, false, true, true, false, false, false, false] rfl rfl (by kernel_rfl) (fun _ _ _ h => h) (Or.inl ⟨by rfl, ?_⟩) hHeld ?_ ?_
  rotate_left
  · rintro w' ⟨s0, s1, s2, s3, s4, s5, s6⟩
    go_simp
    with_reducible rfl
  rotate_left
  · simp only [Act.put, List.setIfInBounds_toArray, List.set_cons_zero, List.set_cons_succ, i64_w, i32_w]
    rfl
  refine pure_ (i := 9) (N := some 14) (v := ?_) (a' := ?_) #[true, true, true, true, true, true, false, true, true, true, false, false, false] rfl rfl (by kernel_rfl) (fun _ _ _ h => h) (Or.inl ⟨by rfl, ?_⟩) ?_ ?_
  rotate_left
  · intro w'
    go_simp
    with_reducible rfl
  rotate_left
  · simp only [Act.put, List.setIfInBounds_toArray, List.set_cons_zero, List.set_cons_succ, i64_w, i32_w]
    rfl
  refine take_ (i := 10) (N := some 15) (v := ?_) (a' := ?_) #[true, true, true, true, true, true, false, true, true, true, true, false, false] rfl rfl (by kernel_rfl) (fun _ _ _ h => h) (Or.inl ⟨by rfl, ?_⟩) hHeld ?_ ?_
  rotate_left
  · rintro w' ⟨s0, s1, s2, s3, s4, s5, s6⟩
    go_simp
    with_reducible rfl
  rotate_left
  · simp only [Act.put, List.setIfInBounds_toArray, List.set_cons_zero, List.set_cons_succ, i64_w, i32_w]
    rfl
  refine one_ (i := 6) (N := some 11) #[true, true, true, true, true, true, true, true, true, true, true, false, false] rfl rfl (by kernel_rfl) (by decide) (fun K hK => ?_)
  refine goes_ Try.func66 (by kernel_rfl) rfl #[.slice Ap (rd_L3 L (i - 1)).length cp, .agg #[.int .i64 x.f0, .int .i64 x.f1, .int .i64 x.f2]] (by rfl) rfl rfl (by simp only [List.map_toArray, List.map_cons, List.map_nil]; rfl) ?_
  with_reducible refine (impl_moved.calls kq Ap cp (rd_L3 L (i - 1)) x.f0 x.f1 x.f2 u _ (Kd.C_below HRP.out HB.out) HLP.out H1.out).mono ?_
  rintro e w7 ⟨v3, rfl, ho0, hb⟩
  refine ⟨_, rfl, ?_⟩
  obtain ⟨A3, c3, rfl⟩ := Kd.R_slice ho0
  have ho1 := Aside0.mk (Kd.R_reads' ho0)
  have n0_ := Aside0.mk (show Below w.heap.size w _ from HB.out.trans (hb.mono HB.out.size))
  have n1_ := Aside0.mk (blk_below BK.out hb)
  have n2_ := Aside0.mk (ho1.out)
  clear HB
  clear BK
  (try clear hb)
  (try clear ho0)
  have HB := n0_
  have BK := n1_
  have HO3 := n2_
  clear n0_ n1_ n2_
  clear ho1
  refine hK.out _ _ ⟨(HB.out.cell (World.block_lt_of_cell? w _ HN1.out)).trans HN1.out, (HB.out.cell (World.block_lt_of_cell? w _ HN2.out)).trans HN2.out, (blk_cell BK.out 0).trans rfl, (blk_cell BK.out 1).trans rfl, (blk_cell BK.out 2).trans rfl, (HB.out.cell (World.block_lt_of_cell? w _ HXP.out)).trans HXP.out, (HB.out.cell (World.block_lt_of_cell? w _ HXI.out)).trans HXI.out⟩ (fun hHeld => ?_)
  clear hK K
  refine norm_ (a' := ?_) ?_ ?_
  rotate_left
  · show Act.put _ (some 11) _ = _
    simp only [Act.put, List.setIfInBounds_toArray, List.set_cons_zero, List.set_cons_succ, i64_w, i32_w]
    rfl
  refine one_ (i := 11) (N := some 16) #[true, true, true, true, true, true, true, true, true, true, true, true, false] rfl rfl (by kernel_rfl) (by decide) (fun K hK => ?_)
  refine goes_ Try.func106 (by kernel_rfl) rfl #[.slice A3 u.length c3, .slice Ai (rd_L3 L i).length ci] (by rfl) rfl rfl (by simp only [List.map_toArray, List.map_cons, List.map_nil]; rfl) ?_
  with_reducible refine (slices_Equal_int_int.calls kq A3 c3 u Ai ci (rd_L3 L i) t _ HO3.out.2.2 HO3.out.2.1 (Kd.C_below HRI.out HB.out) HLI.out H2.out).mono ?_
  rintro e w8 ⟨rfl, hd⟩
  refine ⟨_, rfl, ?_⟩
  have hb := Drawn0.below hd
  clear hd
  have n0_ := Aside0.mk (show Below w.heap.size w _ from HB.out.trans (hb.mono HB.out.size))
  have n1_ := Aside0.mk (blk_below BK.out hb)
  clear HB
  clear BK
  (try clear hb)
  (try clear ho0)
  have HB := n0_
  have BK := n1_
  clear n0_ n1_
  clear HO3
  refine hK.out _ _ ⟨(HB.out.cell (World.block_lt_of_cell? w _ HN1.out)).trans HN1.out, (HB.out.cell (World.block_lt_of_cell? w _ HN2.out)).trans HN2.out, (blk_cell BK.out 0).trans rfl, (blk_cell BK.out 1).trans rfl, (blk_cell BK.out 2).trans rfl, (HB.out.cell (World.block_lt_of_cell? w _ HXP.out)).trans HXP.out, (HB.out.cell (World.block_lt_of_cell? w _ HXI.out)).trans HXI.out⟩ (fun hHeld => ?_)
  clear hK K
  refine norm_ (a' := ?_) ?_ ?_
  rotate_left
  · show Act.put _ (some 16) _ = _
    simp only [Act.put, List.setIfInBounds_toArray, List.set_cons_zero, List.set_cons_succ, i64_w, i32_w]
    rfl
  refine pure_ (i := 12) (N := some 4) (v := ?_) (a' := ?_) #[true, true, true, true, true, true, true, true, true, true, true, true, true] rfl rfl (by kernel_rfl) (fun _ _ _ h => h) (Or.inl ⟨by rfl, ?_⟩) ?_ ?_
  rotate_left
  · intro w'
    go_simp
    with_reducible rfl
  rotate_left
  · simp only [Act.put, List.setIfInBounds_toArray, List.set_cons_zero, List.set_cons_succ, i64_w, i32_w]
    rfl
  refine done_ (by kernel_rfl) ?_

  try go_wp2
  go_ret
  exact ⟨rfl, HB.out⟩
set_option maxHeartbeats 8000000 in
set_option maxRecDepth 100000 in
theorem impl_steps.calls (k : Nat) (A0 : Option Addr) (c0 : Nat) (l0 : List (List Int)) (A1 : Option Addr) (c1 : Nat) (l1 : List (S55)) (r1 : List Int) (r2 : Bool) (w : World) (hr0 : Kd.C (Kd.slice 3 (Kd.int .i64)) w A0 l0.length l0) (hc0 : l0.length ≤ c0) (hr1 : Kd.C k55 w A1 l1.length l1) (hc1 : l1.length ≤ c1) (h : impl_steps.f k l0 l1 = some (r1, r2)) :
    Calls Try.prog 92 #[.slice A0 l0.length c0, .slice A1 l1.length c1] w fun e w' => ∃ v0_ : Value, e = .returned (.tuple #[v0_, .bool r2]) ∧ Kd.R (Kd.int .i64) 3 w' w.heap.size (fun _ => True) v0_ r1 ∧ Below w.heap.size w w' := by
  have HR0 := Aside0.mk hr0
  have HC0 := Aside0.mk hc0
  have HR1 := Aside0.mk hr1
  have HC1 := Aside0.mk hc1
  have HB := Aside0.mk (Below.refl w.heap.size w)
  have H' := Aside0.mk h
  unfold impl_steps.f at H'
  clear hr0 hc0 hr1 hc1 h
  go_enter Try.func92, Try.ntmps92
  go_wp2_with (first | ((with_reducible refine gate_dst (N := 2) rfl ?_); refine box_event ?hg (N := 2) ?hd (cs := #[.slice A0 l0.length c0]) (t := 36) ?hr ?_; (case hd => rfl); (case hg => rfl); (case hr => first | (go_simp; done) | (go_simp; rfl)); intro gx hgx w2 hbox hb2; have HB2 := Aside0.mk (show Below w.heap.size w w2 from HB.out.trans (hb2.mono HB.out.size)); have BK := Aside0.mk hbox; have hx2 : w2.cell? ⟨gx, 0, none⟩ = some (.slice A0 l0.length c0) := (blk_cell hbox 0).trans rfl; have HGX := Aside0.mk (show w.heap.size ≤ gx by rw [hgx]; exact Nat.le_refl _); clear HB; have HB := HB2; clear HB2 hb2 hbox hgx) | ((with_reducible refine gate_dst (N := 9) rfl ?_); refine Kd.R_lit (Kd.int .i64) (w0 := w) w.heap.size 3 ?hg (N := 9) ?hd (xs := ([] : List Int)) (inner := []) (ok := fun k_ => k_ ≠ gx) (okp := fun _ => False) ?hr ?hp (fun _ hk => hk.elim) (by have hlt_ := blk_lt BK.out; exact Nat.ne_of_gt hlt_) HB.out HB.out.size (by simp) ?_; (case hd => rfl); (case hg => rfl); (case hr => first | (go_simp; done) | (go_simp; rfl)); (case hp => exact (Reps.none _ _)); intro v3 w3 ho3 hb3 hg3 hnew3; have HO3 := Aside0.mk ho3; have HB3 := Aside0.mk hb3; have BK3 := Aside0.mk (blk_grown BK.out hg3 (fun e_ => by cases e_)); clear HB BK hx2 ho3 hb3 hg3 hnew3))
  have hsz : gx < w3.heap.size := blk_lt BK3.out
  have HO4 := Aside0.mk (show Kd.R (Kd.int .i64) 3 (w3.alloc (.cells #[.int .i64 1] 3 (0, 0))) w.heap.size (fun k_ => k_ ≠ w3.heap.size ∧ k_ ≠ gx) v3 [] from Kd.R_alloc (Kd.R_mono (Kd.R_bound HO3.out) (fun k_ hk => ⟨by have := hk.2.2.1; omega, hk.1⟩)) _)
  have BK4 := Aside0.mk (blk_alloc BK3.out (.cells #[.int .i64 1] 3 (0, 0)))
  have BI4 := Aside0.mk (blk_new w3 (.cells #[.int .i64 1] 3 (0, 0)))
  have HB4 := Aside0.mk (below_alloc HB3.out (.cells #[.int .i64 1] 3 (0, 0)))
  have HG4 := Aside0.mk HB3.out.size
  clear HO3 BK3 HB3 hsz
  go_loopg [6, 7] k (fun kq v6 v7 w' => ∃ (out : List Int) (i : Int) (gi : Nat), v7 = .pointer (some ⟨gi, 0, none⟩) ∧ Aside0 (impl_steps.l0 kq l0 l1 out i = some (r1, r2)) ∧ Aside0 (kq ≤ k) ∧ Aside0 (Kd.R (Kd.int .i64) 3 w' w.heap.size (fun k_ => k_ ≠ gi ∧ k_ ≠ gx) v6 out) ∧ Aside0 (w'.heap[gx]? = some (.cells #[.slice A0 l0.length c0] 36 (0, 0))) ∧ Aside0 (w'.heap[gi]? = some (.cells #[.int .i64 i] 3 (0, 0))) ∧ Aside0 (Below w.heap.size w w') ∧ Aside0 (w.heap.size ≤ gi))
  case atStart => exact ⟨[], 1, _, rfl, H', ⟨Nat.le_refl _⟩, HO4, BK4, BI4, HB4, HG4⟩
  case round =>
    clear H' HO4 BK4 BI4 HB4
    obtain ⟨out, i, gi, rfl, HA, HK1, HO, BK, BI, HB, HG⟩ := hrel
    cases gk with
    | zero => exact absurd HA.out (by simp [impl_steps.l0])
    | succ k1 =>
      have H := HA.out
      clear HA
      simp only [impl_steps.l0] at H
      have hx2 : wr.cell? ⟨gx, 0, none⟩ = some (.slice A0 l0.length c0) := (blk_cell BK.out 0).trans rfl
      have hx7 : wr.cell? ⟨gi, 0, none⟩ = some (.int .i64 i) := (blk_cell BI.out 0).trans rfl
      by_cases c : i < (l0.length : Int)
      · rw [if_pos c] at H
        have cb : decide (i < (l0.length : Int)) = true := decide_eq_true c
        clear c
        obtain ⟨r, hr, H⟩ := Option.bind_eq_some_iff.mp H
        have HR := Aside0.mk hr
        clear hr
        by_cases cr : r < 0
        · rw [if_pos cr] at H
          have cb2 : decide (r < 0) = true := decide_eq_true cr
          clear cr
          simp only [Option.some.injEq, Prod.mk.injEq] at H
          obtain ⟨rfl, rfl⟩ := H
          go_wp2_with fail
          refine (impl_steps.index (impl_steps.g l0 i) gx gi k1 A1 c1 l1 r wr (Kd.C_below HR1.out HB.out) HC1.out (fun kq x t w' hB h => impl_steps.lam l0 i A0 c0 gx gi wr (Kd.C_below HR0.out HB.out) ((blk_cell BK.out 0).trans rfl) ((blk_cell BI.out 0).trans rfl) kq x t w' hB h) HR.out).mono ?_
          rintro e w5 ⟨rfl, hb⟩
          have HB5 := Aside0.mk (HB.out.trans (hb.mono HB.out.size))
          clear hb hx2 hx7
          go_wp2
          go_ret2
          exact ⟨_, rfl, Kd.R_nil _ _ _ _ _, HB5.out⟩
        · rw [if_neg cr] at H
          have cb2 : decide (r < 0) = false := decide_eq_false cr
          clear cr
          by_cases c8 : out.length < 17592186044416
          rotate_left
          · rw [if_neg c8] at H; exact absurd H (by simp)
          rw [if_pos c8] at H
          have LM := Aside0.mk c8
          have H' := Aside0.mk H
          clear c8 H
          go_wp2_with fail
          refine (impl_steps.index (impl_steps.g l0 i) gx gi k1 A1 c1 l1 r wr (Kd.C_below HR1.out HB.out) HC1.out (fun kq x t w' hB h => impl_steps.lam l0 i A0 c0 gx gi wr (Kd.C_below HR0.out HB.out) ((blk_cell BK.out 0).trans rfl) ((blk_cell BI.out 0).trans rfl) kq x t w' hB h) HR.out).mono ?_
          rintro e w5 ⟨rfl, hb⟩
          have HB5 := Aside0.mk (HB.out.trans (hb.mono HB.out.size))
          have BK5 := Aside0.mk (blk_below BK.out hb)
          have BI5 := Aside0.mk (blk_below BI.out hb)
          have HO5 := Aside0.mk (Kd.R_below HO.out hb)
          clear hb hx2 hx7 HB BK BI HO
          go_wp2_with (first | ((with_reducible refine gate_builtin (b := .append) (xs := #[.tmp 21, .tmp 23]) rfl ?_); at_builtin; refine Kd.R_append (Kd.int .i64) (w0 := w) w.heap.size rfl (.tmp 21) (.tmp 23) 22 3 (.int .i64 0) 8 rfl Try.underlying22 info3 rfl (by decide) (by omega) u6 out r [.int .i64 r] (fun k_ => k_ ≠ gi ∧ k_ ≠ gx) (fun _ => False) rfl rfl ?aP (fun _ hk => hk.elim) ?aF ?aO ?aB ?aS ?aL ?_; (case aP => exact rfl); (case aB => exact HB5.out); (case aF => exact (fun k_ hk => by have h1 := blk_lt BK5.out; have h2 := blk_lt BI5.out; omega)); (case aO => exact Kd.R_mono HO5.out (fun k_ hk => by first | exact hk | exact ⟨hk, fun h_ => h_.elim⟩)); (case aS => exact HB5.out.size); (case aL => have := LM.out; omega); intro v8 w8 ho8 hb8 hg8 hat8; have HO8 := Aside0.mk ho8; have HB8 := Aside0.mk hb8; have BK8 := Aside0.mk (blk_grown BK5.out hg8 (fun e_ => (HO5.out.1 gx e_.symm).2 rfl)); have BI8 := Aside0.mk (blk_grown BI5.out hg8 (fun e_ => (HO5.out.1 gi e_.symm).1 rfl)); have hx8 : w8.cell? ⟨gi, 0, none⟩ = some (.int .i64 i) := (blk_cell BI8.out 0).trans rfl; clear HO5 HB5 BK5 BI5 ho8 hb8 hg8 hat8))
          go_roundg k1
          case measure => have := HK1.out; omega
          case rel => exact ⟨out ++ [r], wrap64 (i + 1), _, rfl, H', ⟨by have := HK1.out; omega⟩, ⟨Kd.R_alloc (Kd.R_mono (Kd.R_bound HO8.out) (fun k_ hk => ⟨by have := hk.2.2.1; omega, hk.1.2⟩)) _⟩, ⟨blk_alloc BK8.out _⟩, ⟨blk_new w8 _⟩, ⟨below_alloc HB8.out _⟩, ⟨HB8.out.size⟩⟩
      · rw [if_neg c] at H
        have cb : decide (i < (l0.length : Int)) = false := decide_eq_false c
        clear c
        simp only [Option.some.injEq, Prod.mk.injEq] at H
        obtain ⟨rfl, rfl⟩ := H
        go_wp2
        go_ret2
        exact ⟨_, rfl, Kd.R_mono HO.out (fun _ _ => trivial), HB.out⟩

end Go.Proofs.Ytcplfdfmebibpaa.MFnExactIsMoveList
