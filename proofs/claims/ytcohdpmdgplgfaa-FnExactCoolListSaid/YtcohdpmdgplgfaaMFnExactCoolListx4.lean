/- Functions of the program as Lean functions, each with the proof that its call comes to just that: laid for this claim by this session's own program. -/
import Derived.Test.YtcohdpmdgplgfaaMFnExactCoolListx0
import Derived.Test.YtcohdpmdgplgfaaMFnExactCoolListx1
import Derived.Test.YtcohdpmdgplgfaaMFnExactCoolListx3
namespace Go.Proofs.Ytcohdpmdgplgfaa.MFnExactCoolList
open Go.RowKit Go.Proofs.YtcohdpmdgplgfaaW.PrintWords Go.Proofs.YtcohdpmdgplgfaaW.PrintLast Go.Proofs.YtcohdpmdgplgfaaW.PrintMore
attribute [local go_sem] max2_int min2_int max_two min_two max_three min_three max_four min_four   -- for this text's walks alone
set_option linter.unusedVariables false
set_option linter.unusedSimpArgs false

/-! ### impl_identity: function 79 -/
def impl_identity.l0 : Nat → List Int → Int → Int → Option (List Int)
  | 0, _, _, _ => none
  | k + 1, x3, x6, x7 => if x7 < x6 then (if x3.length < 17592186044416 then (impl_identity.l0 k (x3 ++ [x7]) x6 (wrap64 (x7 + 1))) else (none)) else (some x3)
def impl_identity.f (k : Nat) (a0 : Int) : Option (List Int) := impl_identity.l0 k (([] : List Int)) a0 0
theorem impl_identity.mono_l : ∀ k, (∀ y0 y1 y2, LeO (impl_identity.l0 k y0 y1 y2) (impl_identity.l0 (k + 1) y0 y1 y2))
  | 0 => fun _ _ _ r h => by simp [impl_identity.l0] at h
  | k + 1 => by
    have ih0 := impl_identity.mono_l k
    · intro y0 y1 y2
      unfold impl_identity.l0
      repeat' first
      | (with_reducible exact ih0 _ _ _)
      | (with_reducible exact LeO.refl _)
      | (with_reducible exact LeO.none _)
      | (with_reducible refine LeO.ite ?_ ?_)
      | (with_reducible refine LeO.bind ?_ (fun _ => ?_))
      | exact ih0 _ _ _
      | exact LeO.none _
      | refine LeO.ite ?_ ?_
      | refine LeO.bind ?_ (fun _ => ?_)
theorem impl_identity.mono : ∀ a0 k, LeO (impl_identity.f k a0) (impl_identity.f (k + 1) a0) := by
  intro a0 k
  have ih0 := impl_identity.mono_l k
  unfold impl_identity.f
  repeat' first
      | (with_reducible exact ih0 _ _ _)
      | (with_reducible exact LeO.refl _)
      | (with_reducible exact LeO.none _)
      | (with_reducible refine LeO.ite ?_ ?_)
      | (with_reducible refine LeO.bind ?_ (fun _ => ?_))
      | exact ih0 _ _ _
      | exact LeO.none _
      | refine LeO.ite ?_ ?_
      | refine LeO.bind ?_ (fun _ => ?_)
set_option maxHeartbeats 8000000 in
set_option maxRecDepth 100000 in
theorem impl_identity.calls (k : Nat) (a0 : Int) (r : List Int) (w : World) (h : impl_identity.f k a0 = some r) :
    Calls Try.prog 79 #[.int .i64 a0] w fun e w' => ∃ v0_ : Value, e = .returned (v0_) ∧ Kd.R (Kd.int .i64) 3 w' w.heap.size (fun _ => True) v0_ r ∧ Below w.heap.size w w' := by
  have HB := Aside0.mk (Below.refl w.heap.size w)
  have H : (impl_identity.l0 k (([] : List Int)) a0 0) = some r := h
  clear h
  obtain ⟨y163, hy163⟩ : ∃ y_ : List Int, y_ = (([] : List Int)) := ⟨_, rfl⟩
  replace H : (impl_identity.l0 k y163 a0 0) = some r := by first | (rw [hy163]; with_reducible exact H) | (have H2_ := (Option.bind_some _ _).symm.trans H; rw [hy163]; with_reducible exact H2_) | (have H2_ := (Option.bind_some _ _).symm.trans H; with_reducible exact H2_) | with_reducible exact H | (rw [hy163]; exact H) | exact H
  have Ny163 := Aside0.mk hy163
  clear hy163
  have H' := Aside0.mk H
  clear H
  go_enter Try.func79, Try.ntmps79
  go_wp2_with (first | ((with_reducible refine gate_dst (N := 5) rfl ?_); refine Kd.R_lit (Kd.int .i64) _ 3 ?hg (N := 5) ?hd (xs := ([] : List Int)) (inner := []) (ok := fun _ => True) (okp := fun _ => True) ?hr ?hp (fun _ hk => hk) trivial (Below.refl _ _) (Nat.le_refl _) (by simp) ?_; (case hd => rfl); (case hg => rfl); (case hr => first | (go_simp; done) | (go_simp; rfl)); (case hp => exact (Reps.none _ _)); intro v164 w2 ho3 hb hg_ hnew_; clear hg_ hnew_; (first | rw [← Ny163.out] at ho3 | (simp only [Int.reduceToNat] at ho3; rw [← Ny163.out] at ho3)); have n0_ := Aside0.mk (Kd.R_lower ho3 (below_size (by repeat (first | (with_reducible first | exact HB.out | apply below_alloc | apply pw_below_drewN | apply below_drew1) | exact HB.out)))); have n1_ := Aside0.mk (below_step (by repeat (first | (with_reducible first | exact HB.out | apply below_alloc | apply pw_below_drewN | apply below_drew1) | exact HB.out)) hb); clear HB; have HO165 := n0_; have HB := n1_; clear n0_ n1_; clear hb ho3))
  go_loopg [3, 7] k (fun kq v3 v7 w' => ∃ (x3_1 : List Int) (x7_1 : Int), v7 = .int .i64 x7_1 ∧ Aside0 (impl_identity.l0 kq x3_1 a0 x7_1 = some r) ∧ Aside0 (kq ≤ k) ∧ Aside0 (Kd.R (Kd.int .i64) 3 w' w.heap.size (fun _ => True) v3 x3_1) ∧ Aside0 (Below w.heap.size w w'))
  case atStart => exact ⟨(y163), (0), (by first | rfl | (simp; done) | (simp [*]; done)), H', ⟨Nat.le_refl _⟩, ⟨by (with_reducible repeat (first | apply Kd.R_alloc | apply Kd.R_drewN | apply Kd.R_drew)); exact HO165.out⟩, ⟨by repeat (first | (with_reducible first | exact HB.out | apply below_alloc | apply pw_below_drewN | apply below_drew1) | exact HB.out)⟩⟩
  case round =>
    clear H'
    try clear p2
    obtain ⟨x3_1, x7_1, rfl, HA, HK1, HO_3, HB⟩ := hrel
    cases gk with
    | zero => exact absurd HA.out (by simp [impl_identity.l0])
    | succ k1 =>
      have H := HA.out
      clear HA
      simp only [impl_identity.l0] at H
      by_cases c4 : x7_1 < a0
      · rw [if_pos c4] at H
        have c4b0 : decide (x7_1 < a0) = true := decide_eq_true c4
        clear c4
        by_cases c5 : x3_1.length < 17592186044416
        · rw [if_pos c5] at H
          have LMc5 := Aside0.mk c5
          clear c5
          obtain ⟨y166, hy166⟩ : ∃ y_ : List Int, y_ = (x3_1 ++ [x7_1]) := ⟨_, rfl⟩
          replace H : (impl_identity.l0 k1 y166 a0 (wrap64 (x7_1 + 1))) = some r := by first | (rw [hy166]; with_reducible exact H) | (have H2_ := (Option.bind_some _ _).symm.trans H; rw [hy166]; with_reducible exact H2_) | (have H2_ := (Option.bind_some _ _).symm.trans H; with_reducible exact H2_) | with_reducible exact H | (rw [hy166]; exact H) | exact H
          have Ny166 := Aside0.mk hy166
          clear hy166
          have H' := Aside0.mk H
          clear H
          go_wp2_with (first | ((with_reducible refine gate_builtin (b := .append) (xs := #[.tmp 10, .tmp 12]) rfl ?_); at_builtin; refine Kd.R_append (Kd.int .i64) (w0 := w) w.heap.size rfl (.tmp 10) (.tmp 12) 35 3 (.int .i64 0) 8 rfl Try.underlying35 info3 rfl (by decide) (by omega) u3 x3_1 x7_1 [.int .i64 x7_1] (fun _ => True) (fun _ => False) rfl rfl ?aP (fun _ hk => hk.elim) ?aF ?aO ?aB ?aS ?aL ?_; (case aP => exact rfl); (case aB => exact (by repeat (first | (with_reducible first | exact HB.out | apply below_alloc | apply pw_below_drewN | apply below_drew1) | exact HB.out))); (case aF => exact (fun _ _ => trivial)); (case aO => exact (by (with_reducible repeat (first | apply Kd.R_alloc | apply Kd.R_drewN | apply Kd.R_drew)); exact HO_3.out)); (case aS => exact (below_size (by repeat (first | (with_reducible first | exact HB.out | apply below_alloc | apply pw_below_drewN | apply below_drew1) | exact HB.out)))); (case aL => have := LMc5.out; omega); intro v167 w6 ho hb hg hat; rw [← Ny166.out] at ho; have n0_ := Aside0.mk (hb); have n1_ := Aside0.mk (ho); clear HB; clear HO_3; have HB := n0_; have HO168 := n1_; clear n0_ n1_; clear ho hb hg hat))
          go_roundg k1
          case measure => have := HK1.out; omega
          case rel => exact ⟨(y166), (wrap64 (x7_1 + 1)), (by first | rfl | (simp; done) | (simp [*]; done)), H', ⟨by have := HK1.out; omega⟩, ⟨by (with_reducible repeat (first | apply Kd.R_alloc | apply Kd.R_drewN | apply Kd.R_drew)); exact HO168.out⟩, ⟨by repeat (first | (with_reducible first | exact HB.out | apply below_alloc | apply pw_below_drewN | apply below_drew1) | exact HB.out)⟩⟩
        · rw [if_neg c5] at H
          exact absurd H (by simp)
      · rw [if_neg c4] at H
        have c4b0 : decide (x7_1 < a0) = false := decide_eq_false c4
        clear c4
        obtain rfl := Option.some.inj H
        go_wp2
        go_ret
        exact ⟨_, by first | rfl | (simp [errW_none, errW_some] <;> rfl) | (simp [*, errW_none, errW_some] <;> rfl), by (with_reducible repeat (first | apply Kd.R_alloc | apply Kd.R_drewN | apply Kd.R_drew)); exact HO_3.out, by repeat (first | (with_reducible first | exact HB.out | apply below_alloc | apply pw_below_drewN | apply below_drew1) | exact HB.out)⟩

/-! ### slices_Equal_int_int: function 96 -/
def slices_Equal_int_int.l0 : Nat → List Int → List Int → Int → Int → Option (Bool)
  | 0, _, _, _, _ => none
  | k + 1, x0, x1, x12, x13 => if x13 < x12 then (if 0 ≤ x13 then (if x13 < (x0.length : Int) then (if x13 < (x1.length : Int) then (if (rd x0 x13) = (rd x1 x13) then (slices_Equal_int_int.l0 k x0 x1 x12 (wrap64 (x13 + 1))) else (some false)) else (none)) else (none)) else (none)) else (some true)
def slices_Equal_int_int.f (k : Nat) (l0 : List Int) (l1 : List Int) : Option (Bool) := if (l0.length : Int) = (l1.length : Int) then (slices_Equal_int_int.l0 k l0 l1 (l0.length : Int) 0) else (some false)
theorem slices_Equal_int_int.mono_l : ∀ k, (∀ y0 y1 y2 y3, LeO (slices_Equal_int_int.l0 k y0 y1 y2 y3) (slices_Equal_int_int.l0 (k + 1) y0 y1 y2 y3))
  | 0 => fun _ _ _ _ r h => by simp [slices_Equal_int_int.l0] at h
  | k + 1 => by
    have ih0 := slices_Equal_int_int.mono_l k
    · intro y0 y1 y2 y3
      unfold slices_Equal_int_int.l0
      repeat' first
      | (with_reducible exact ih0 _ _ _ _)
      | (with_reducible exact LeO.refl _)
      | (with_reducible exact LeO.none _)
      | (with_reducible refine LeO.ite ?_ ?_)
      | (with_reducible refine LeO.bind ?_ (fun _ => ?_))
      | exact ih0 _ _ _ _
      | exact LeO.none _
      | refine LeO.ite ?_ ?_
      | refine LeO.bind ?_ (fun _ => ?_)
theorem slices_Equal_int_int.mono : ∀ a0 a1 k, LeO (slices_Equal_int_int.f k a0 a1) (slices_Equal_int_int.f (k + 1) a0 a1) := by
  intro a0 a1 k
  have ih0 := slices_Equal_int_int.mono_l k
  unfold slices_Equal_int_int.f
  repeat' first
      | (with_reducible exact ih0 _ _ _ _)
      | (with_reducible exact LeO.refl _)
      | (with_reducible exact LeO.none _)
      | (with_reducible refine LeO.ite ?_ ?_)
      | (with_reducible refine LeO.bind ?_ (fun _ => ?_))
      | exact ih0 _ _ _ _
      | exact LeO.none _
      | refine LeO.ite ?_ ?_
      | refine LeO.bind ?_ (fun _ => ?_)
set_option maxHeartbeats 8000000 in
set_option maxRecDepth 100000 in
theorem slices_Equal_int_int.calls (k : Nat) (A0 : Option Addr) (c0 : Nat) (l0 : List Int) (A1 : Option Addr) (c1 : Nat) (l1 : List Int) (r : Bool) (w : World) (hr0 : Kd.C (Kd.int .i64) w A0 l0.length l0) (hc0 : l0.length ≤ c0) (hr1 : Kd.C (Kd.int .i64) w A1 l1.length l1) (hc1 : l1.length ≤ c1) (h : slices_Equal_int_int.f k l0 l1 = some r) :
    Calls Try.prog 96 #[.slice A0 l0.length c0, .slice A1 l1.length c1] w fun e w' => e = .returned (.bool r) ∧ Drawn0 w w' := by
  have HR0 := Aside0.mk hr0
  have HC0 := Aside0.mk hc0
  clear hr0 hc0
  have HR1 := Aside0.mk hr1
  have HC1 := Aside0.mk hc1
  clear hr1 hc1
  have H : (if (l0.length : Int) = (l1.length : Int) then (slices_Equal_int_int.l0 k l0 l1 (l0.length : Int) 0) else (some false)) = some r := h
  clear h
  by_cases c3 : (l0.length : Int) = (l1.length : Int)
  · rw [if_pos c3] at H
    have c3b0 : ((l0.length : Int) == (l1.length : Int)) = true := beq_iff_eq.mpr c3
    have c3b1 : ((l0.length : Int) != (l1.length : Int)) = false := bne_eq_false_iff_eq.mpr c3
    have c3b2 : (l0.length == l1.length) = true := by first | simpa using c3 | (simp at c3 ⊢; omega)
    clear c3
    have H' := Aside0.mk H
    clear H
    go_enter Try.func96, Try.ntmps96
    go_wp2
    repeat (go_quiet (fail); try go_wp2)
    go_loopg [13] k (fun kq v13 w' => ∃ (x13_1 : Int), v13 = .int .i64 x13_1 ∧ Aside0 (slices_Equal_int_int.l0 kq l0 l1 (l0.length : Int) x13_1 = some r) ∧ Aside0 (kq ≤ k) ∧ Drawn0 w w')
    case atStart => exact ⟨(0), (by first | rfl | (simp; done) | (simp [*]; done)), H', ⟨Nat.le_refl _⟩, by repeat (first | exact Drawn0.refl _ | apply Drawn0.step)⟩
    case round =>
      clear H'
      try clear c1
      try clear p2
      try clear c3
      try clear c3b0
      try clear c3b1
      try clear c3b2
      obtain ⟨x13_1, rfl, HA, HK1, ⟨m1, rfl⟩⟩ := hrel
      cases gk with
      | zero => exact absurd HA.out (by simp [slices_Equal_int_int.l0])
      | succ k1 =>
        have H := HA.out
        clear HA
        simp only [slices_Equal_int_int.l0] at H
        by_cases c4 : x13_1 < (l0.length : Int)
        · rw [if_pos c4] at H
          have c4b0 : decide (x13_1 < (l0.length : Int)) = true := decide_eq_true c4
          clear c4
          by_cases c5 : 0 ≤ x13_1
          · rw [if_pos c5] at H
            have c5b0 : decide (0 ≤ x13_1) = true := decide_eq_true c5
            clear c5
            by_cases c6 : x13_1 < (l0.length : Int)
            · rw [if_pos c6] at H
              have c6b0 : decide (x13_1 < (l0.length : Int)) = true := decide_eq_true c6
              clear c6
              by_cases c7 : x13_1 < (l1.length : Int)
              · rw [if_pos c7] at H
                have c7b0 : decide (x13_1 < (l1.length : Int)) = true := decide_eq_true c7
                clear c7
                by_cases c8 : (rd l0 x13_1) = (rd l1 x13_1)
                · rw [if_pos c8] at H
                  have c8b0 : ((rd l0 x13_1) == (rd l1 x13_1)) = true := beq_iff_eq.mpr c8
                  have c8b1 : ((rd l0 x13_1) != (rd l1 x13_1)) = false := bne_eq_false_iff_eq.mpr c8
                  clear c8
                  have H' := Aside0.mk H
                  clear H
                  have p169 : 0 ≤ (x13_1 : Int) := of_decide_eq_true (by first | (with_reducible assumption) | assumption)
                  have q169 : x13_1 < (l0.length : Int) := of_decide_eq_true (by first | (with_reducible assumption) | assumption)
                  obtain ⟨ad169, e169, hx169_0⟩ := Kd.at_int HR0.out x13_1 p169 q169
                  cases e169
                  replace p169 := eq_true p169
                  replace q169 := eq_true q169
                  have p170 : 0 ≤ (x13_1 : Int) := of_decide_eq_true (by first | (with_reducible assumption) | assumption)
                  have q170 : x13_1 < (l1.length : Int) := of_decide_eq_true (by first | (with_reducible assumption) | assumption)
                  obtain ⟨ad170, e170, hx170_0⟩ := Kd.at_int HR1.out x13_1 p170 q170
                  cases e170
                  replace p170 := eq_true p170
                  replace q170 := eq_true q170
                  go_wp2
                  repeat (go_quiet (fail); try go_wp2)
                  go_roundg k1
                  case measure => have := HK1.out; omega
                  case rel => exact ⟨(wrap64 (x13_1 + 1)), (by first | rfl | (simp; done) | (simp [*]; done)), H', ⟨by have := HK1.out; omega⟩, by repeat (first | exact Drawn0.refl _ | apply Drawn0.step)⟩
                · rw [if_neg c8] at H
                  have c8b0 : ((rd l0 x13_1) == (rd l1 x13_1)) = false := beq_eq_false_iff_ne.mpr c8
                  have c8b1 : ((rd l0 x13_1) != (rd l1 x13_1)) = true := bne_iff_ne.mpr c8
                  obtain rfl := Option.some.inj H
                  have p169 : 0 ≤ (x13_1 : Int) := of_decide_eq_true (by first | (with_reducible assumption) | assumption)
                  have q169 : x13_1 < (l0.length : Int) := of_decide_eq_true (by first | (with_reducible assumption) | assumption)
                  obtain ⟨ad169, e169, hx169_0⟩ := Kd.at_int HR0.out x13_1 p169 q169
                  cases e169
                  replace p169 := eq_true p169
                  replace q169 := eq_true q169
                  have p170 : 0 ≤ (x13_1 : Int) := of_decide_eq_true (by first | (with_reducible assumption) | assumption)
                  have q170 : x13_1 < (l1.length : Int) := of_decide_eq_true (by first | (with_reducible assumption) | assumption)
                  obtain ⟨ad170, e170, hx170_0⟩ := Kd.at_int HR1.out x13_1 p170 q170
                  cases e170
                  replace p170 := eq_true p170
                  replace q170 := eq_true q170
                  go_wp2
                  repeat (go_quiet (fail); try go_wp2)
                  go_ret
                  exact ⟨by first | rfl | (simp; done) | (simp [*]; done), by repeat (first | exact Drawn0.refl _ | apply Drawn0.step)⟩
              · rw [if_neg c7] at H
                exact absurd H (by simp)
            · rw [if_neg c6] at H
              exact absurd H (by simp)
          · rw [if_neg c5] at H
            exact absurd H (by simp)
        · rw [if_neg c4] at H
          have c4b0 : decide (x13_1 < (l0.length : Int)) = false := decide_eq_false c4
          clear c4
          obtain rfl := Option.some.inj H
          go_wp2
          repeat (go_quiet (fail); try go_wp2)
          go_ret
          exact ⟨by first | rfl | (simp; done) | (simp [*]; done), by repeat (first | exact Drawn0.refl _ | apply Drawn0.step)⟩
  · rw [if_neg c3] at H
    have c3b0 : ((l0.length : Int) == (l1.length : Int)) = false := beq_eq_false_iff_ne.mpr c3
    have c3b1 : ((l0.length : Int) != (l1.length : Int)) = true := bne_iff_ne.mpr c3
    have c3b2 : (l0.length == l1.length) = false := by first | simpa using c3 | (simp at c3 ⊢; omega)
    obtain rfl := Option.some.inj H
    go_enter Try.func96, Try.ntmps96
    go_wp2
    repeat (go_quiet (fail); try go_wp2)
    go_ret
    exact ⟨by first | rfl | (simp; done) | (simp [*]; done), by repeat (first | exact Drawn0.refl _ | apply Drawn0.step)⟩

/-! ### impl_coolList: function 81 -/
mutual
def impl_coolList.l0 : Nat → List Int → List (List Int) → List Int → Option (List (List Int))
  | 0, _, _, _ => none
  | k + 1, x5, x6, x7 => (slices_Equal_int_int.f k x7 x5).bind fun t => (if t = true then (some x6) else (if x6.length < 5864062014805 then ((impl_cool.f k x7).bind fun u => (impl_coolList.l0 k x5 (x6 ++ [x7]) u)) else (none)))
end
def impl_coolList.f (k : Nat) (a0 : Int) (a1 : Int) : Option (List (List Int)) := (impl_identity.f k a1).bind fun t1 => ((impl_bitsOf.f k a0 t1).bind fun t2 => ((impl_cool.f k t2).bind fun t3 => (impl_coolList.l0 k t2 [t2] t3)))
theorem impl_coolList.mono_l : ∀ k, (∀ y0 y1 y2, LeO (impl_coolList.l0 k y0 y1 y2) (impl_coolList.l0 (k + 1) y0 y1 y2))
  | 0 => fun _ _ _ r h => by simp [impl_coolList.l0] at h
  | k + 1 => by
    have ih0 := impl_coolList.mono_l k
    · intro y0 y1 y2
      unfold impl_coolList.l0
      repeat' first
      | (with_reducible exact ih0 _ _ _)
      | (with_reducible exact impl_bitsOf.mono _ _ _)
      | (with_reducible exact impl_cool.mono _ _)
      | (with_reducible exact impl_identity.mono _ _)
      | (with_reducible exact slices_Equal_int_int.mono _ _ _)
      | (with_reducible exact LeO.refl _)
      | (with_reducible exact LeO.none _)
      | (with_reducible refine LeO.ite ?_ ?_)
      | (with_reducible refine LeO.bind ?_ (fun _ => ?_))
      | exact ih0 _ _ _
      | exact impl_bitsOf.mono _ _ _
      | exact impl_cool.mono _ _
      | exact impl_identity.mono _ _
      | exact slices_Equal_int_int.mono _ _ _
      | exact LeO.none _
      | refine LeO.ite ?_ ?_
      | refine LeO.bind ?_ (fun _ => ?_)
theorem impl_coolList.mono : ∀ a0 a1 k, LeO (impl_coolList.f k a0 a1) (impl_coolList.f (k + 1) a0 a1) := by
  intro a0 a1 k
  have ih0 := impl_coolList.mono_l k
  unfold impl_coolList.f
  repeat' first
      | (with_reducible exact ih0 _ _ _)
      | (with_reducible exact impl_bitsOf.mono _ _ _)
      | (with_reducible exact impl_cool.mono _ _)
      | (with_reducible exact impl_identity.mono _ _)
      | (with_reducible exact slices_Equal_int_int.mono _ _ _)
      | (with_reducible exact LeO.refl _)
      | (with_reducible exact LeO.none _)
      | (with_reducible refine LeO.ite ?_ ?_)
      | (with_reducible refine LeO.bind ?_ (fun _ => ?_))
      | exact ih0 _ _ _
      | exact impl_bitsOf.mono _ _ _
      | exact impl_cool.mono _ _
      | exact impl_identity.mono _ _
      | exact slices_Equal_int_int.mono _ _ _
      | exact LeO.none _
      | refine LeO.ite ?_ ?_
      | refine LeO.bind ?_ (fun _ => ?_)
set_option maxHeartbeats 8000000 in
set_option maxRecDepth 100000 in
theorem impl_coolList.calls (k : Nat) (a0 : Int) (a1 : Int) (r : List (List Int)) (w : World) (h : impl_coolList.f k a0 a1 = some r) :
    Calls Try.prog 81 #[.int .i64 a0, .int .i64 a1] w fun e w' => ∃ v0_ : Value, e = .returned (v0_) ∧ Kd.S (Kd.slice 3 (Kd.int .i64)) 35 w' w.heap.size (fun _ => True) v0_ r ∧ Below w.heap.size w w' := by
  unfold impl_coolList.f at h
  obtain ⟨t1, A10, H⟩ := Option.bind_eq_some_iff.mp h
  obtain ⟨t2, A20, H⟩ := Option.bind_eq_some_iff.mp H
  obtain ⟨t3, A30, H⟩ := Option.bind_eq_some_iff.mp H
  have A1 := Aside0.mk A10
  have A2 := Aside0.mk A20
  have A3 := Aside0.mk A30
  have H' := Aside0.mk H
  clear h A10 A20 A30 H
  go_enter Try.func81, Try.ntmps81
  go_wp2_with fail
  refine (impl_identity.calls k a1 t1 _ A1.out).mono ?_
  rintro e w1 ⟨v1, rfl, ho1, hb1⟩
  obtain ⟨Aa, ca, rfl⟩ := Kd.R_slice ho1
  have HR1 := Aside0.mk (Kd.R_reads' ho1)
  have HB1 := Aside0.mk hb1
  clear ho1 hb1
  go_wp2_with fail
  refine (impl_bitsOf.calls k a0 Aa ca t1 t2 _ HR1.out.2.2 HR1.out.2.1 A2.out).mono ?_
  rintro e w2 ⟨v2, rfl, ho2, hb2⟩
  obtain ⟨Af, cf, rfl⟩ := Kd.R_slice ho2
  have HF := Aside0.mk (Kd.R_lower ho2 HB1.out.size)
  have HB := Aside0.mk (HB1.out.trans (hb2.mono HB1.out.size))
  clear ho2 hb2 HR1
  go_wp2_with (first | ((with_reducible refine gate_dst (N := 13) rfl ?_); refine Kd.R_lit (Kd.tag (fun _ => 0) (Kd.slice 3 (Kd.int .i64))) (w0 := w) w.heap.size 35 ?hg (N := 13) ?hd (xs := [(t2, 0)]) (inner := [.slice Af t2.length cf]) (ok := fun _ => True) (okp := fun k_ => some k_ = (.slice Af t2.length cf : Value).ownBlock) ?hr ?hp (fun _ hk => trivial) trivial HB.out HB.out.size (by simp) ?_; (case hd => rfl); (case hg => rfl); (case hr => first | (go_simp; done) | (go_simp; rfl)); (case hp => exact (Reps.one (show Kd.M (Kd.tag (fun _ => 0) (Kd.slice 3 (Kd.int .i64))) _ _ _ (t2, 0) [.slice Af t2.length cf] from ⟨_, rfl, Kd.R_mono (Kd.R_tight rfl HF.out) (fun _ hk => ⟨hk, rfl⟩)⟩) (Reps.none _ _))); intro v4 w4 ho4 hb4 hg4 hnew4; have HF4 := Aside0.mk (Kd.R_grown HF.out hg4 (fun _ _ e => by cases e)); have HO4 := Aside0.mk (show Kd.S (Kd.slice 3 (Kd.int .i64)) 35 w4 w.heap.size (fun _ => True) v4 [t2] from ⟨_, ho4⟩); have HB4 := Aside0.mk hb4; clear HF HB ho4 hb4 hg4 hnew4))
  refine (impl_cool.calls k Af cf t2 t3 _ (Kd.R_reads' HF4.out).2.2 (Kd.R_reads' HF4.out).2.1 A3.out).mono ?_
  rintro e w5 ⟨v5, rfl, ho5, hb5⟩
  have HO5 := Aside0.mk (Kd.S_elder' HO4.out (Kd.R_base ho5) hb5)
  have HF5 := Aside0.mk (Kd.R_below HF4.out hb5)
  have HL5 := Aside0.mk (Kd.R_lower ho5 HB4.out.size)
  have HB5 := Aside0.mk (HB4.out.trans (hb5.mono HB4.out.size))
  clear HO4 HF4 HB4 ho5 hb5
  go_wp2_with fail
  go_loopg [6, 7] k (fun kq v6 v7 w' => ∃ (x6_1 : List (List Int)) (x7_1 : List Int), Aside0 (impl_coolList.l0 kq t2 x6_1 x7_1 = some r) ∧ Aside0 (kq ≤ k) ∧ Aside0 (Kd.S (Kd.slice 3 (Kd.int .i64)) 35 w' w.heap.size (fun k_ => True ∧ some k_ ≠ v7.ownBlock) v6 x6_1) ∧ Aside0 (Kd.R (Kd.int .i64) 3 w' w.heap.size (fun _ => True) (.slice Af t2.length cf) t2) ∧ Aside0 (Kd.R (Kd.int .i64) 3 w' w.heap.size (fun _ => True) v7 x7_1) ∧ Aside0 (Below w.heap.size w w'))
  case atStart => exact ⟨[t2], t3, H', ⟨Nat.le_refl _⟩, HO5, HF5, HL5, HB5⟩
  case round =>
    clear H' HO5 HF5 HL5 HB5
    obtain ⟨x6_1, x7_1, HA, HK1, HO, HF, HL, HB⟩ := hrel
    cases gk with
    | zero => exact absurd HA.out (by simp [impl_coolList.l0])
    | succ k1 =>
      have H := HA.out
      clear HA
      simp only [impl_coolList.l0] at H
      obtain ⟨t, A40, H⟩ := Option.bind_eq_some_iff.mp H
      have A4 := Aside0.mk A40
      clear A40
      obtain ⟨Al, cl, el⟩ := Kd.R_slice HL.out
      subst el
      by_cases ct : t = true
      · subst ct
        rw [if_pos rfl] at H
        obtain rfl := Option.some.inj H
        go_wp2_with fail
        refine (slices_Equal_int_int.calls k1 Al cl x7_1 Af cf t2 true _ (Kd.R_reads' HL.out).2.2 (Kd.R_reads' HL.out).2.1 (Kd.R_reads' HF.out).2.2 (Kd.R_reads' HF.out).2.1 A4.out).mono ?_
        rintro e w6 ⟨rfl, ⟨n6, rfl⟩⟩
        go_wp2
        go_ret
        exact ⟨_, rfl, Kd.S_drewN (Kd.S_mono HO.out (fun _ _ => trivial)) _, pw_below_drewN HB.out _⟩
      · rw [if_neg ct] at H
        replace ct := Bool.eq_false_iff.mpr ct
        subst ct
        by_cases c8 : x6_1.length < 5864062014805
        · rw [if_pos c8] at H
          obtain ⟨u, A50, H⟩ := Option.bind_eq_some_iff.mp H
          have A5 := Aside0.mk A50
          have LM := Aside0.mk c8
          have H' := Aside0.mk H
          clear A50 c8 H
          go_wp2_with fail
          refine (slices_Equal_int_int.calls k1 Al cl x7_1 Af cf t2 false _ (Kd.R_reads' HL.out).2.2 (Kd.R_reads' HL.out).2.1 (Kd.R_reads' HF.out).2.2 (Kd.R_reads' HF.out).2.1 A4.out).mono ?_
          rintro e w6 ⟨rfl, ⟨n6, rfl⟩⟩
          go_wp2_with (first | ((with_reducible refine gate_builtin (b := .append) (xs := #[.tmp 22, .tmp 24]) rfl ?_); at_builtin; refine Kd.S_append (Kd.slice 3 (Kd.int .i64)) (w0 := w) w.heap.size rfl (.tmp 22) (.tmp 24) 49 35 (.slice none 0 0) 24 rfl Try.underlying49 info35 rfl (by decide) (by omega) u6 x6_1 x7_1 [.slice Al x7_1.length cl] (fun _ => True) (fun k_ => some k_ = (.slice Al x7_1.length cl : Value).ownBlock) rfl rfl ?aP (fun k_ hk_ => ⟨trivial, ((Kd.R_apart' HL.out (Kd.S_typed HO.out) (by decide)).1 k_ hk_.symm).2⟩) ?aF ?aO ?aB ?aS ?aL ?_; (case aP => exact Kd.M_row (Kd.R_drewN (Kd.R_tight rfl HL.out) _)); (case aB => exact pw_below_drewN HB.out _); (case aF => exact (fun _ _ => trivial)); (case aO => exact Kd.S_drewN (Kd.S_mono HO.out (fun k_ hk => ⟨trivial, fun e_ => hk.2 e_⟩)) _); (case aS => exact HB.out.size); (case aL => have := LM.out; omega); intro v9 w9 ho9 hb9 hg9 hat9; have HO9 := Aside0.mk ho9; have HF9 := Aside0.mk (Kd.R_mono (Kd.R_grown (Kd.R_drewN (Kd.R_apart' HF.out (Kd.S_typed HO.out) (by decide)) _) hg9 (fun k_ hk => hk.2)) (fun _ _ => trivial)); have HL9 := Aside0.mk (Kd.R_mono (Kd.R_grown (Kd.R_drewN (Kd.R_apart' HL.out (Kd.S_typed HO.out) (by decide)) _) hg9 (fun k_ hk => hk.2)) (fun _ _ => trivial)); have HB9 := Aside0.mk hb9; clear HF HL HO HB ho9 hb9 hg9 hat9))
          refine (impl_cool.calls k1 Al cl x7_1 u _ (Kd.R_reads' HL9.out).2.2 (Kd.R_reads' HL9.out).2.1 A5.out).mono ?_
          rintro e w10 ⟨v10, rfl, ho10, hb10⟩
          have HO10 := Aside0.mk (Kd.S_elder' HO9.out (Kd.R_base ho10) hb10)
          have HF10 := Aside0.mk (Kd.R_below HF9.out hb10)
          have HL10 := Aside0.mk (Kd.R_lower ho10 HB9.out.size)
          have HB10 := Aside0.mk (HB9.out.trans (hb10.mono HB9.out.size))
          clear HO9 HF9 HL9 HB9 ho10 hb10
          go_wp2
          go_roundg k1
          case measure => have := HK1.out; omega
          case rel => exact ⟨x6_1 ++ [x7_1], u, H', ⟨by have := HK1.out; omega⟩, HO10, HF10, HL10, HB10⟩
        · rw [if_neg c8] at H
          exact absurd H (by simp)

/-! ### impl_CoolList: function 44 -/
def impl_CoolList.f (k : Nat) (a0 : Int) (a1 : Int) : Option ((List (List Int)) × Bool) := (impl_isChoice.f a0 a1).bind fun t171 => (if t171 = true then ((impl_coolList.f k a0 a1).bind fun t172 => (some (t172, true))) else (some (([] : List (List Int)), false)))
theorem impl_CoolList.mono : ∀ a0 a1 k, LeO (impl_CoolList.f k a0 a1) (impl_CoolList.f (k + 1) a0 a1) := by
  intro a0 a1 k
  unfold impl_CoolList.f
  repeat' first
      | (with_reducible exact impl_coolList.mono _ _ _)
      | (with_reducible exact LeO.refl _)
      | (with_reducible exact LeO.none _)
      | (with_reducible refine LeO.ite ?_ ?_)
      | (with_reducible refine LeO.bind ?_ (fun _ => ?_))
      | exact impl_coolList.mono _ _ _
      | exact LeO.none _
      | refine LeO.ite ?_ ?_
      | refine LeO.bind ?_ (fun _ => ?_)
set_option maxHeartbeats 8000000 in
set_option maxRecDepth 100000 in
theorem impl_CoolList.calls (k : Nat) (a0 : Int) (a1 : Int) (r1 : List (List Int)) (r2 : Bool) (w : World) (h : impl_CoolList.f k a0 a1 = some (r1, r2)) :
    Calls Try.prog 44 #[.int .i64 a0, .int .i64 a1] w fun e w' => ∃ v0_ : Value, e = .returned (.tuple #[v0_, .bool r2]) ∧ Kd.S (Kd.slice 3 (Kd.int .i64)) 35 w' w.heap.size (fun _ => True) v0_ r1 ∧ Below w.heap.size w w' := by
  have HB := Aside0.mk (Below.refl w.heap.size w)
  have H : ((impl_isChoice.f a0 a1).bind fun t171 => (if t171 = true then ((impl_coolList.f k a0 a1).bind fun t172 => (some (t172, true))) else (some (([] : List (List Int)), false)))) = some (r1, r2) := h
  clear h
  replace H := Option.bind_eq_some_iff.mp H
  obtain ⟨t171, A30, H⟩ := H
  replace H : (if t171 = true then ((impl_coolList.f k a0 a1).bind fun t172 => (some (t172, true))) else (some (([] : List (List Int)), false))) = some (r1, r2) := H
  have A3 := Aside0.mk A30
  clear A30
  by_cases c4 : t171 = true
  · subst c4
    have H1 : ((impl_coolList.f k a0 a1).bind fun t172 => (some (t172, true))) = some (r1, r2) := by rw [if_pos rfl] at H; exact H
    clear H
    have H := H1
    clear H1
    replace H := Option.bind_eq_some_iff.mp H
    obtain ⟨t172, A50, H⟩ := H
    replace H : (some (t172, true)) = some (r1, r2) := H
    have A5 := Aside0.mk A50
    clear A50
    simp only [Option.some.injEq, Prod.mk.injEq] at H
    obtain ⟨rfl, rfl⟩ := H
    go_enter Try.func44, Try.ntmps44
    go_wp2_with (first | ((with_reducible refine gate_callee (f := 56) rfl ?_); refine goesL_ (some 8) rfl rfl Try.func56 (by kernel_rfl) rfl #[.int .i64 a0, .int .i64 a1] rfl (by (try simp only [List.map_toArray, List.map_cons, List.map_nil]); first | done | rfl | (simp only [List.length_drop, List.length_take]; rfl)) ?_; (with_reducible refine (impl_isChoice.calls a0 a1 true _ A3.out).mono ?_); rintro e w' ⟨rfl, ⟨nd, rfl⟩⟩; refine ⟨_, rfl, ?_⟩) | ((with_reducible refine gate_callee (f := 81) rfl ?_); refine goesL_ (some 12) rfl rfl Try.func81 (by kernel_rfl) rfl #[.int .i64 a0, .int .i64 a1] rfl (by (try simp only [List.map_toArray, List.map_cons, List.map_nil]); first | done | rfl | (simp only [List.length_drop, List.length_take]; rfl)) ?_; (with_reducible refine (impl_coolList.calls k a0 a1 t172 _ A5.out).mono ?_); rintro e w6 ⟨v173, rfl, ho0, hb⟩; refine ⟨_, rfl, ?_⟩; have n0_ := Aside0.mk (Kd.S_lower ho0 (below_size (by repeat (first | (with_reducible first | exact HB.out | apply below_alloc | apply pw_below_drewN | apply below_drew1) | exact HB.out)))); have n1_ := Aside0.mk (below_step (by repeat (first | (with_reducible first | exact HB.out | apply below_alloc | apply pw_below_drewN | apply below_drew1) | exact HB.out)) hb); clear HB; have HO174 := n0_; have HB := n1_; clear n0_ n1_; (try clear hb); (try clear hb2); (try clear hk); (try clear hi); (try clear ho0)))
    go_ret2
    exact ⟨_, by first | rfl | (simp [errW_none, errW_some] <;> rfl) | (simp [*, errW_none, errW_some] <;> rfl), by (with_reducible repeat (first | apply Kd.S_alloc | apply Kd.S_drewN | apply Kd.S_drew)); exact HO174.out, by repeat (first | (with_reducible first | exact HB.out | apply below_alloc | apply pw_below_drewN | apply below_drew1) | exact HB.out)⟩
  · replace c4 := Bool.eq_false_iff.mpr c4
    subst c4
    have H1 : (some (([] : List (List Int)), false)) = some (r1, r2) := by rw [if_neg (show ¬ (false = true) by decide)] at H; exact H
    clear H
    have H := H1
    clear H1
    simp only [Option.some.injEq, Prod.mk.injEq] at H
    obtain ⟨rfl, rfl⟩ := H
    go_enter Try.func44, Try.ntmps44
    go_wp2_with (first | ((with_reducible refine gate_callee (f := 56) rfl ?_); refine goesL_ (some 8) rfl rfl Try.func56 (by kernel_rfl) rfl #[.int .i64 a0, .int .i64 a1] rfl (by (try simp only [List.map_toArray, List.map_cons, List.map_nil]); first | done | rfl | (simp only [List.length_drop, List.length_take]; rfl)) ?_; (with_reducible refine (impl_isChoice.calls a0 a1 false _ A3.out).mono ?_); rintro e w' ⟨rfl, ⟨nd, rfl⟩⟩; refine ⟨_, rfl, ?_⟩))
    go_ret2
    exact ⟨_, by first | rfl | (simp [errW_none, errW_some] <;> rfl) | (simp [*, errW_none, errW_some] <;> rfl), by first | exact Kd.S_nil _ _ _ _ _ | exact Kd.N_nil _ _ _ _ _ | exact Kd.V_nil _ _ _ _ _ | exact Kd.Q_nil _ _ _ _ _ | exact Kd.R_nil _ _ _ _ _, by repeat (first | (with_reducible first | exact HB.out | apply below_alloc | apply pw_below_drewN | apply below_drew1) | exact HB.out)⟩

/-! ### laws_FnExactCoolList: function 13 -/
/-- What is to be shown: both sides come to one list, and the law's own functions go through. -/
def laws_FnExactCoolList.Fine (k : Nat) (a0 a1 : Int) : Prop := ∃ (L L' : List (List Int)) (b : Bool) (m : Int), spec_CoolList.f k a0 a1 = some (L, b) ∧ impl_CoolList.f k a0 a1 = some (L, b) ∧ laws_eqIntSS.f k L L = some true ∧ laws_markIntSS.f k L 1 = some (m, L') ∧ laws_heldIntSS.f k L' 1 = some m ∧ 0 ≤ m ∧ L'.length = L.length
set_option maxHeartbeats 8000000 in
set_option maxRecDepth 100000 in
theorem laws_FnExactCoolList.calls (k : Nat) (a0 a1 : Int) (w : World) (h : laws_FnExactCoolList.Fine k a0 a1) :
    Calls Try.prog 13 #[.int .i64 a0, .int .i64 a1] w fun e w' => e = .returned (.bool true) ∧ Below w.heap.size w w' := by
  obtain ⟨L, L', b, m, hs, hi, hq, hm, hh, h0, hl⟩ := h
  have Hs := Aside0.mk hs
  have Hi := Aside0.mk hi
  have Hq := Aside0.mk hq
  have Hm := Aside0.mk hm
  have Hh := Aside0.mk hh
  have Hl := Aside0.mk hl
  clear hs hi hq hm hh hl
  cases b <;>
  · go_enter Try.func13, Try.ntmps13
    go_wp2_with fail
    refine (spec_CoolList.calls k a0 a1 L _ _ Hs.out).mono ?_
    rintro e w1 ⟨v0, rfl, hN, hb1⟩
    obtain ⟨A0, c0, rfl, hc0_, hC0_⟩ : ∃ A0 c0, v0 = .slice A0 L.length c0 ∧ L.length ≤ c0 ∧ Kd.C (Kd.slice 3 (Kd.int .i64)) w1 A0 L.length L := by
      first
      | (obtain ⟨A, c, rfl⟩ := Kd.N_slice hN; exact ⟨A, c, rfl, (Kd.N_reads' hN).2.1, (Kd.N_reads' hN).2.2⟩)
      | (obtain ⟨A, c, rfl⟩ := Kd.R_slice (Kd.S_R hN); exact ⟨A, c, rfl, (Kd.R_reads' (Kd.S_R hN)).2.1, (Kd.R_reads' (Kd.S_R hN)).2.2⟩)
    have HC0 := Aside0.mk hC0_
    have Hc0 := Aside0.mk hc0_
    clear hC0_ hc0_
    have HB1 := Aside0.mk hb1
    clear hN hb1
    go_wp2_with fail
    refine (impl_CoolList.calls k a0 a1 L _ _ Hi.out).mono ?_
    rintro e w2 ⟨v1, rfl, hS, hb2⟩
    obtain ⟨A1, c1, rfl⟩ := Kd.R_slice (Kd.S_R hS)
    have HS := Aside0.mk hS
    have HB2 := Aside0.mk hb2
    clear hS hb2
    go_wp2_with fail
    refine (laws_eqIntSS.calls k A1 c1 L A0 c0 L true _ (Kd.R_reads' (Kd.S_R HS.out)).2.2 (Kd.R_reads' (Kd.S_R HS.out)).2.1 (Kd.C_below HC0.out HB2.out) Hc0.out Hq.out).mono ?_
    rintro e w3 ⟨rfl, ⟨n3, rfl⟩⟩
    go_wp2_with fail
    refine (laws_markIntSS.calls k (fun k_ => w1.heap.size ≤ k_) (.slice A1 L.length c1) L 1 m L' w1 _ (pw_below_drewN HB2.out n3) (Kd.S_drewN (Kd.S_mono (Kd.S_bound HS.out) (fun k_ hk => hk.2.1)) n3) Hm.out).mono ?_
    rintro e w4 ⟨rfl, ho4, hb4, hk4⟩
    have HS4 := Aside0.mk ho4
    have HB4 := Aside0.mk hb4
    clear ho4 hb4 hk4
    obtain ⟨hn4, hc4, hC4⟩ := Kd.R_reads' (Kd.S_R HS4.out)
    have HC4 := Aside0.mk hC4
    have Hc4 := Aside0.mk hc4
    clear hn4 hc4 hC4
    go_wp2_with fail
    have h40 := laws_heldIntSS.calls k A1 c1 L' 1 m w4 HC4.out (by have := Hc4.out; have := Hl.out; omega) Hh.out
    rw [Hl.out] at h40
    refine h40.mono ?_
    clear h40
    rintro e w5 ⟨rfl, ⟨n5, rfl⟩⟩
    have p0 : decide (m < 0) = false := decide_eq_false (by omega)
    go_wp2_with fail
    refine (impl_CoolList.calls k a0 a1 L _ _ Hi.out).mono ?_
    rintro e w6 ⟨v2, rfl, hS6, hb6⟩
    obtain ⟨A2, c2, rfl⟩ := Kd.R_slice (Kd.S_R hS6)
    obtain ⟨hn6, hc6, hC6⟩ := Kd.R_reads' (Kd.S_R hS6)
    have HC6 := Aside0.mk hC6
    have Hc6 := Aside0.mk hc6
    have HB6 := Aside0.mk (show Below w4.heap.size w4 w6 from (pw_below_drewN (Below.refl w4.heap.size w4) n5).trans hb6)
    clear hS6 hb6 hn6 hc6 hC6
    have HB16 := Aside0.mk (HB4.out.trans (HB6.out.mono HB4.out.size))
    go_wp2_with fail
    refine (laws_eqIntSS.calls k A2 c2 L A0 c0 L true _ HC6.out Hc6.out (Kd.C_below HC0.out HB16.out) Hc0.out Hq.out).mono ?_
    rintro e w7 ⟨rfl, ⟨n7, rfl⟩⟩
    go_wp2_with fail
    have h40 := laws_heldIntSS.calls k A1 c1 L' 1 m (w6.drewN n7) (Kd.C_drewN (Kd.C_below HC4.out HB6.out) n7) (by have := Hc4.out; have := Hl.out; omega) Hh.out
    rw [Hl.out] at h40
    refine h40.mono ?_
    clear h40
    rintro e w8 ⟨rfl, ⟨n8, rfl⟩⟩
    go_wp2
    go_ret
    exact ⟨rfl, pw_below_drewN (HB1.out.trans (HB16.out.mono HB1.out.size)) _⟩

end Go.Proofs.Ytcohdpmdgplgfaa.MFnExactCoolList
