/- Functions of the program as Lean functions, each with the proof that its call comes to just that: laid for this claim by this session's own program. -/
import Derived.Test.YtllhnnjkonghlaaMFnExactFirstPathx0
import Derived.Test.YtllhnnjkonghlaaMFnExactFirstPathx5
namespace Go.Proofs.Ytllhnnjkonghlaa.MFnExactFirstPath
open Go.RowKit Go.Proofs.YtllhnnjkonghlaaW.PrintWords Go.Proofs.YtllhnnjkonghlaaW.PrintLast Go.Proofs.YtllhnnjkonghlaaW.PrintMore
attribute [local go_sem] max2_int min2_int max_two min_two max_three min_three max_four min_four   -- for this text's walks alone
set_option linter.unusedVariables false
set_option linter.unusedSimpArgs false

/-! ### impl_permutationRank: function 52 -/
mutual
def impl_permutationRank.l0 : Nat → List Int → Int → List Int → Int → Int → Option (Int)
  | 0, _, _, _, _, _ => none
  | k + 1, x0, x3, x9, x10, x11 => if x11 < x10 then (if 0 ≤ x11 then (if x11 < (x9.length : Int) then (if 0 ≤ (wrap64 (x11 + 1)) then (if (wrap64 (x11 + 1)) ≤ (x0.length : Int) then (impl_permutationRank.l1 k x0 x3 x11 (rd x9 x11) 0 x9 x10 x11 (x0.drop ((wrap64 (x11 + 1)) : Int).toNat) ((x0.drop ((wrap64 (x11 + 1)) : Int).toNat).length : Int) 0) else (none)) else (none)) else (none)) else (none)) else (some x3)
def impl_permutationRank.l1 : Nat → List Int → Int → Int → Int → Int → List Int → Int → Int → List Int → Int → Int → Option (Int)
  | 0, _, _, _, _, _, _, _, _, _, _, _ => none
  | k + 1, x0, x3, x4, x5, x6, x9, x10, x11, x19, x20, x21 => if x21 < x20 then (if 0 ≤ x21 then (if x21 < (x19.length : Int) then (if (rd x19 x21) < x5 then (impl_permutationRank.l1 k x0 x3 x4 x5 (wrap64 (x6 + 1)) x9 x10 x11 x19 x20 (wrap64 (x21 + 1))) else (impl_permutationRank.l1 k x0 x3 x4 x5 x6 x9 x10 x11 x19 x20 (wrap64 (x21 + 1)))) else (none)) else (none)) else ((impl_factorial.f k (wrap64 ((wrap64 ((x0.length : Int) - x4)) - 1))).bind fun t169 => (impl_permutationRank.l0 k x0 (wrap64 (x3 + (wrap64 (x6 * t169)))) x9 x10 (wrap64 (x11 + 1))))
end
def impl_permutationRank.f (k : Nat) (l0 : List Int) : Option (Int) := impl_permutationRank.l0 k l0 0 l0 (l0.length : Int) 0
theorem impl_permutationRank.mono_l : ∀ k, (∀ y0 y1 y2 y3 y4, LeO (impl_permutationRank.l0 k y0 y1 y2 y3 y4) (impl_permutationRank.l0 (k + 1) y0 y1 y2 y3 y4)) ∧ (∀ y0 y1 y2 y3 y4 y5 y6 y7 y8 y9 y10, LeO (impl_permutationRank.l1 k y0 y1 y2 y3 y4 y5 y6 y7 y8 y9 y10) (impl_permutationRank.l1 (k + 1) y0 y1 y2 y3 y4 y5 y6 y7 y8 y9 y10))
  | 0 => ⟨fun _ _ _ _ _ r h => by simp [impl_permutationRank.l0] at h, fun _ _ _ _ _ _ _ _ _ _ _ r h => by simp [impl_permutationRank.l1] at h⟩
  | k + 1 => by
    obtain ⟨ih0, ih1⟩ := impl_permutationRank.mono_l k
    refine ⟨?_, ?_⟩
    · intro y0 y1 y2 y3 y4
      unfold impl_permutationRank.l0
      repeat' first
      | (with_reducible exact ih0 _ _ _ _ _)
      | (with_reducible exact ih1 _ _ _ _ _ _ _ _ _ _ _)
      | (with_reducible exact impl_factorial.mono _ _)
      | (with_reducible exact LeO.refl _)
      | (with_reducible exact LeO.none _)
      | (with_reducible refine LeO.ite ?_ ?_)
      | (with_reducible refine LeO.bind ?_ (fun _ => ?_))
      | exact ih0 _ _ _ _ _
      | exact ih1 _ _ _ _ _ _ _ _ _ _ _
      | exact impl_factorial.mono _ _
      | exact LeO.none _
      | refine LeO.ite ?_ ?_
      | refine LeO.bind ?_ (fun _ => ?_)
    · intro y0 y1 y2 y3 y4 y5 y6 y7 y8 y9 y10
      unfold impl_permutationRank.l1
      repeat' first
      | (with_reducible exact ih0 _ _ _ _ _)
      | (with_reducible exact ih1 _ _ _ _ _ _ _ _ _ _ _)
      | (with_reducible exact impl_factorial.mono _ _)
      | (with_reducible exact LeO.refl _)
      | (with_reducible exact LeO.none _)
      | (with_reducible refine LeO.ite ?_ ?_)
      | (with_reducible refine LeO.bind ?_ (fun _ => ?_))
      | exact ih0 _ _ _ _ _
      | exact ih1 _ _ _ _ _ _ _ _ _ _ _
      | exact impl_factorial.mono _ _
      | exact LeO.none _
      | refine LeO.ite ?_ ?_
      | refine LeO.bind ?_ (fun _ => ?_)
theorem impl_permutationRank.mono : ∀ a0 k, LeO (impl_permutationRank.f k a0) (impl_permutationRank.f (k + 1) a0) := by
  intro a0 k
  obtain ⟨ih0, ih1⟩ := impl_permutationRank.mono_l k
  unfold impl_permutationRank.f
  repeat' first
      | (with_reducible exact ih0 _ _ _ _ _)
      | (with_reducible exact ih1 _ _ _ _ _ _ _ _ _ _ _)
      | (with_reducible exact impl_factorial.mono _ _)
      | (with_reducible exact LeO.refl _)
      | (with_reducible exact LeO.none _)
      | (with_reducible refine LeO.ite ?_ ?_)
      | (with_reducible refine LeO.bind ?_ (fun _ => ?_))
      | exact ih0 _ _ _ _ _
      | exact ih1 _ _ _ _ _ _ _ _ _ _ _
      | exact impl_factorial.mono _ _
      | exact LeO.none _
      | refine LeO.ite ?_ ?_
      | refine LeO.bind ?_ (fun _ => ?_)
set_option maxHeartbeats 8000000 in
set_option maxRecDepth 100000 in
theorem impl_permutationRank.calls (k : Nat) (A0 : Option Addr) (c0 : Nat) (l0 : List Int) (r : Int) (w : World) (hr0 : Kd.C (Kd.int .i64) w A0 l0.length l0) (hc0 : l0.length ≤ c0) (h : impl_permutationRank.f k l0 = some r) :
    Calls Try.prog 52 #[.slice A0 l0.length c0] w fun e w' => e = .returned (.int .i64 r) ∧ Drawn0 w w' := by
  have HR0 := Aside0.mk hr0
  have HC0 := Aside0.mk hc0
  clear hr0 hc0
  have H : (impl_permutationRank.l0 k l0 0 l0 (l0.length : Int) 0) = some r := h
  clear h
  have H' := Aside0.mk H
  clear H
  go_enter Try.func52, Try.ntmps52
  go_wp2
  go_loopg [3, 11] k (fun kq v3 v11 w' => ∃ (x3_1 : Int) (x11_1 : Int), v3 = .int .i64 x3_1 ∧ v11 = .int .i64 x11_1 ∧ Aside0 (impl_permutationRank.l0 kq l0 x3_1 l0 (l0.length : Int) x11_1 = some r) ∧ Aside0 (kq ≤ k) ∧ Drawn0 w w')
  case atStart => exact ⟨(0), (0), (by first | rfl | (simp; done) | (simp [*]; done)), (by first | rfl | (simp; done) | (simp [*]; done)), H', ⟨Nat.le_refl _⟩, by repeat (first | exact Drawn0.refl _ | apply Drawn0.step)⟩
  case round =>
    clear H'
    obtain ⟨x3_1, x11_1, rfl, rfl, HA, HK1, ⟨m1, rfl⟩⟩ := hrel
    cases gk with
    | zero => exact absurd HA.out (by simp [impl_permutationRank.l0])
    | succ k1 =>
      have H := HA.out
      clear HA
      simp only [impl_permutationRank.l0] at H
      by_cases c2 : x11_1 < (l0.length : Int)
      · rw [if_pos c2] at H
        have c2b0 : decide (x11_1 < (l0.length : Int)) = true := decide_eq_true c2
        clear c2
        by_cases c3 : 0 ≤ x11_1
        · rw [if_pos c3] at H
          have c3b0 : decide (0 ≤ x11_1) = true := decide_eq_true c3
          clear c3
          by_cases c4 : x11_1 < (l0.length : Int)
          · rw [if_pos c4] at H
            have c4b0 : decide (x11_1 < (l0.length : Int)) = true := decide_eq_true c4
            clear c4
            obtain ⟨ji5, hji5⟩ : ∃ j_ : Int, (wrap64 (x11_1 + 1)) = j_ := ⟨_, rfl⟩
            replace H : (if 0 ≤ (ji5) then (if (ji5) ≤ (l0.length : Int) then (impl_permutationRank.l1 k1 l0 x3_1 x11_1 (rd l0 x11_1) 0 l0 (l0.length : Int) x11_1 (l0.drop ((ji5) : Int).toNat) ((l0.drop ((ji5) : Int).toNat).length : Int) 0) else (none)) else (none)) = some r := by first | (rw [hji5] at H; exact H) | (simp only [hji5] at H ⊢; exact H)
            have hji5w : (IntKind.i64.wrap (x11_1 + 1)) = ji5 := (i64_w _).trans hji5
            by_cases c6 : 0 ≤ (ji5)
            · rw [if_pos c6] at H
              have c6b0 := eq_true c6
              have c6b1 : decide (0 ≤ (ji5)) = true := decide_eq_true c6
              clear c6
              by_cases c7 : (ji5) ≤ (l0.length : Int)
              · rw [if_pos c7] at H
                have c7b0 := eq_true c7
                have c7b1 : decide ((ji5) ≤ (l0.length : Int)) = true := decide_eq_true c7
                clear c7
                have H' := Aside0.mk H
                clear H
                have p166 : 0 ≤ (x11_1 : Int) := of_decide_eq_true (by first | (with_reducible assumption) | assumption)
                have q166 : x11_1 < (l0.length : Int) := of_decide_eq_true (by first | (with_reducible assumption) | assumption)
                obtain ⟨ad166, e166, hx166_0⟩ := Kd.at_int HR0.out x11_1 p166 q166
                cases e166
                replace p166 := eq_true p166
                replace q166 := eq_true q166
                obtain ⟨i08, hi08, _, hsz8, _⟩ := info_parts info3
                obtain ⟨A8, hcut8, hA8, hC8⟩ := print_drop_of (P := Try.prog) (Value.int .i64) 0 24 3 .i64 Try.underlying24 hi08 hsz8 (some ad166) c0 l0 (ji5) (of_decide_eq_true (by first | (with_reducible assumption) | assumption)) (of_decide_eq_true (by first | (with_reducible assumption) | assumption)) HC0.out
                have HR167 := Aside0.mk (Kd.C_of_reads (h1 := fun _ => rfl) (hA8 _ (Kd.reads_of_C HR0.out)))
                have HC167 := Aside0.mk hC8
                clear hA8 hC8 hi08 hsz8
                go_wp2
                go_loopg [6, 21] k1 (fun kq v6 v21 w' => ∃ (x6_2 : Int) (x21_2 : Int), v6 = .int .i64 x6_2 ∧ v21 = .int .i64 x21_2 ∧ Aside0 (impl_permutationRank.l1 kq l0 x3_1 x11_1 (rd l0 x11_1) x6_2 l0 (l0.length : Int) x11_1 (l0.drop ((ji5) : Int).toNat) ((l0.drop ((ji5) : Int).toNat).length : Int) x21_2 = some r) ∧ Aside0 (kq ≤ k1) ∧ Drawn0 w w')
                case atStart => exact ⟨(0), (0), (by first | rfl | (simp; done) | (simp [*]; done)), (by first | rfl | (simp; done) | (simp [*]; done)), H', ⟨Nat.le_refl _⟩, by repeat (first | exact Drawn0.refl _ | apply Drawn0.step)⟩
                case round =>
                  clear H'
                  try clear p1
                  try clear q1
                  try clear hx1
                  try clear c2
                  try clear c2b0
                  try clear p2
                  try clear c3
                  try clear c3b0
                  try clear c4
                  try clear c4b0
                  try clear c5
                  try clear c6
                  try clear c6b0
                  try clear c6b1
                  try clear p6
                  try clear c7
                  try clear c7b0
                  try clear c7b1
                  try clear hx166_0
                  try clear p166
                  try clear q166
                  obtain ⟨x6_2, x21_2, rfl, rfl, HA, HK2, ⟨m2, rfl⟩⟩ := hrel
                  cases gk with
                  | zero => exact absurd HA.out (by simp [impl_permutationRank.l1])
                  | succ k2 =>
                    have H := HA.out
                    clear HA
                    simp only [impl_permutationRank.l1] at H
                    by_cases c9 : x21_2 < ((l0.drop ((ji5) : Int).toNat).length : Int)
                    · rw [if_pos c9] at H
                      have c9b0 : decide (x21_2 < ((l0.drop ((ji5) : Int).toNat).length : Int)) = true := decide_eq_true c9
                      (try (have c9b1 : decide (x21_2 < ((l0.length - (ji5 : Int).toNat : Nat) : Int)) = true := by have hc_ := c9; rw [List.length_drop] at hc_; exact decide_eq_true hc_))
                      (try (have c9b2 : (x21_2 < ((l0.length - (ji5 : Int).toNat : Nat) : Int)) = True := eq_true (by have hc_ := c9; rw [List.length_drop] at hc_; exact hc_)))
                      clear c9
                      by_cases c10 : 0 ≤ x21_2
                      · rw [if_pos c10] at H
                        have c10b0 : decide (0 ≤ x21_2) = true := decide_eq_true c10
                        clear c10
                        by_cases c11 : x21_2 < ((l0.drop ((ji5) : Int).toNat).length : Int)
                        · rw [if_pos c11] at H
                          have c11b0 : decide (x21_2 < ((l0.drop ((ji5) : Int).toNat).length : Int)) = true := decide_eq_true c11
                          (try (have c11b1 : decide (x21_2 < ((l0.length - (ji5 : Int).toNat : Nat) : Int)) = true := by have hc_ := c11; rw [List.length_drop] at hc_; exact decide_eq_true hc_))
                          (try (have c11b2 : (x21_2 < ((l0.length - (ji5 : Int).toNat : Nat) : Int)) = True := eq_true (by have hc_ := c11; rw [List.length_drop] at hc_; exact hc_)))
                          clear c11
                          by_cases c12 : (rd (l0.drop ((ji5) : Int).toNat) x21_2) < (rd l0 x11_1)
                          · rw [if_pos c12] at H
                            have c12b0 : decide ((rd (l0.drop ((ji5) : Int).toNat) x21_2) < (rd l0 x11_1)) = true := decide_eq_true c12
                            clear c12
                            have H' := Aside0.mk H
                            clear H
                            have p168 : 0 ≤ (x21_2 : Int) := of_decide_eq_true (by first | (with_reducible assumption) | assumption)
                            have q168 : x21_2 < ((l0.drop ((ji5) : Int).toNat).length : Int) := of_decide_eq_true (by first | (with_reducible assumption) | assumption)
                            obtain ⟨ad168, e168, hx168_0⟩ := Kd.at_int HR167.out x21_2 p168 q168
                            cases e168
                            replace p168 := eq_true p168
                            replace q168 := eq_true q168
                            go_wp2
                            go_roundg k2
                            case measure => have := HK1.out; have := HK2.out; omega
                            case rel => exact ⟨(wrap64 (x6_2 + 1)), (wrap64 (x21_2 + 1)), (by first | rfl | (simp; done) | (simp [*]; done)), (by first | rfl | (simp; done) | (simp [*]; done)), H', ⟨by have := HK1.out; have := HK2.out; omega⟩, by repeat (first | exact Drawn0.refl _ | apply Drawn0.step)⟩
                          · rw [if_neg c12] at H
                            have c12b0 : decide ((rd (l0.drop ((ji5) : Int).toNat) x21_2) < (rd l0 x11_1)) = false := decide_eq_false c12
                            clear c12
                            have H' := Aside0.mk H
                            clear H
                            have p168 : 0 ≤ (x21_2 : Int) := of_decide_eq_true (by first | (with_reducible assumption) | assumption)
                            have q168 : x21_2 < ((l0.drop ((ji5) : Int).toNat).length : Int) := of_decide_eq_true (by first | (with_reducible assumption) | assumption)
                            obtain ⟨ad168, e168, hx168_0⟩ := Kd.at_int HR167.out x21_2 p168 q168
                            cases e168
                            replace p168 := eq_true p168
                            replace q168 := eq_true q168
                            go_wp2
                            go_roundg k2
                            case measure => have := HK1.out; have := HK2.out; omega
                            case rel => exact ⟨(x6_2), (wrap64 (x21_2 + 1)), (by first | rfl | (simp; done) | (simp [*]; done)), (by first | rfl | (simp; done) | (simp [*]; done)), H', ⟨by have := HK1.out; have := HK2.out; omega⟩, by repeat (first | exact Drawn0.refl _ | apply Drawn0.step)⟩
                        · rw [if_neg c11] at H
                          exact absurd H (by simp)
                      · rw [if_neg c10] at H
                        exact absurd H (by simp)
                    · rw [if_neg c9] at H
                      have c9b0 : decide (x21_2 < ((l0.drop ((ji5) : Int).toNat).length : Int)) = false := decide_eq_false c9
                      (try (have c9b1 : decide (x21_2 < ((l0.length - (ji5 : Int).toNat : Nat) : Int)) = false := by have hc_ := c9; rw [List.length_drop] at hc_; exact decide_eq_false hc_))
                      clear c9
                      replace H := Option.bind_eq_some_iff.mp H
                      obtain ⟨t169, A130, H⟩ := H
                      replace H : (impl_permutationRank.l0 k2 l0 (wrap64 (x3_1 + (wrap64 (x6_2 * t169)))) l0 (l0.length : Int) (wrap64 (x11_1 + 1))) = some r := H
                      have A13 := Aside0.mk A130
                      clear A130
                      have H' := Aside0.mk H
                      clear H
                      go_wp2_with (first | ((with_reducible refine gate_callee (f := 50) rfl ?_); refine goesL_ (some 38) rfl rfl Try.func50 (by kernel_rfl) rfl #[.int .i64 (wrap64 ((wrap64 ((l0.length : Int) - x11_1)) - 1))] rfl (by (try simp only [List.map_toArray, List.map_cons, List.map_nil]); first | done | rfl | (simp only [List.length_drop, List.length_take]; rfl)) ?_; (with_reducible refine (impl_factorial.calls k2 (wrap64 ((wrap64 ((l0.length : Int) - x11_1)) - 1)) t169 _ A13.out).mono ?_); rintro e w' ⟨rfl, ⟨nd, rfl⟩⟩; refine ⟨_, rfl, ?_⟩))
                      go_roundg k2
                      case measure => have := HK1.out; have := HK2.out; omega
                      case rel => exact ⟨(wrap64 (x3_1 + (wrap64 (x6_2 * t169)))), (wrap64 (x11_1 + 1)), (by first | rfl | (simp; done) | (simp [*]; done)), (by first | rfl | (simp; done) | (simp [*]; done)), H', ⟨by have := HK1.out; have := HK2.out; omega⟩, by repeat (first | exact Drawn0.refl _ | apply Drawn0.step)⟩
              · rw [if_neg c7] at H
                exact absurd H (by simp)
            · rw [if_neg c6] at H
              exact absurd H (by simp)
          · rw [if_neg c4] at H
            exact absurd H (by simp)
        · rw [if_neg c3] at H
          exact absurd H (by simp)
      · rw [if_neg c2] at H
        have c2b0 : decide (x11_1 < (l0.length : Int)) = false := decide_eq_false c2
        clear c2
        obtain rfl := Option.some.inj H
        go_wp2
        go_ret
        exact ⟨by first | rfl | (simp; done) | (simp [*]; done), by repeat (first | exact Drawn0.refl _ | apply Drawn0.step)⟩

end Go.Proofs.Ytllhnnjkonghlaa.MFnExactFirstPath
