import Derived.Test.YtapbbmicfkbafaaMFnFocusRunsx1
import Derived.Test.YtapbbmicfkbafaaMFnFocusRunsx2
import Derived.Test.YtapbbmicfkbafaaMFnFocusRunsx3
import Derived.Test.YtapbbmicfkbafaaMFnFocusRunsx4
import Derived.Test.YtapbbmicfkbafaaMFnFocusRunsx5
import Derived.Test.YtapbbmicfkbafaaMFnFocusRunsx6
import Derived.Test.YtapbbmicfkbafaaMFnFocusRunsx7
import Derived.Test.YtapbbmicfkbafaaMFnFocusRunsx8
import Derived.Test.YtapbbmicfkbafaaBase
import Derived.Test.YtapbbmicfkbafaaFoc
import Derived.Test.YtapbbmicfkbafaaFocB
import Derived.Test.YtapbbmicfkbafaaFocR
import Derived.Test.YtapbbmicfkbafaaFocG
import Derived.Test.YtapbbmicfkbafaaFocM
namespace Go.Proofs.Ytapbbmicfkbafaa.Pure
open Go.RowKit Go.Proofs.Ytapbbmicfkbafaa.MFnFocusRuns Go.Proofs.YtapbbmicfkbafaaW.PrintWords Go.Proofs.YtapbbmicfkbafaaW.PrintLast Go.Proofs.Ytapbbmicfkbafaa.Base Go.Proofs.Ytapbbmicfkbafaa.Foc Go.Proofs.Ytapbbmicfkbafaa.FocB Go.Proofs.Ytapbbmicfkbafaa.FocR Go.Proofs.Ytapbbmicfkbafaa.FocG Go.Proofs.Ytapbbmicfkbafaa.FocM
set_option linter.unusedVariables false
set_option linter.unusedSimpArgs false
theorem big_eq (a b : List Int) : ∃ t, laws_big.f a b = some t ∧ (t = false → a.length ≤ 1048576 ∧ b.length ≤ 1048576) := by
  unfold laws_big.f
  by_cases c : (a.length : Int) > 1048576
  · exact ⟨true, by rw [if_pos c], fun h => by cases h⟩
  · rw [if_neg c, wr (by omega) (by omega)]
    exact ⟨_, rfl, fun h => by have := of_decide_eq_false h; omega⟩
theorem u64_lt (x : Int) : 0 ≤ IntKind.u64.wrap x ∧ IntKind.u64.wrap x < 18446744073709551616 := by rw [IntKind.wrap_u64]; omega
theorem low8 (x : Int) : 0 ≤ wrap64 (Go.bits .and .u64 (IntKind.u64.wrap x / 1099511627776) 255) ∧ wrap64 (Go.bits .and .u64 (IntKind.u64.wrap x / 1099511627776) 255) ≤ 255 := by
  have hu := u64_lt x
  generalize IntKind.u64.wrap x = y at hu ⊢
  have h := Go.bits_mask .u64 63 (by decide) (fun n h0 h1 => by rw [IntKind.wrap_u64]; omega) 8 (by decide) (y / 1099511627776) (by omega) (by omega)
  have e : ((2 : Int) ^ 8 - 1) = 255 := by decide
  have e2 : ((2 : Int) ^ 8) = 256 := by decide
  rw [e, e2] at h
  rw [h, wr (by omega) (by omega)]
  omega
def Byt (l : List Int) : Prop := l.length ≤ 2000000 ∧ ∀ x ∈ l, 0 ≤ x ∧ x ≤ 255
theorem byt_of {l : List Int} (h1 : l.length ≤ 1048576) (h2 : ∀ x ∈ l, (Lit.int .u8 x).wf = true) : Byt l := by
  refine ⟨by omega, fun x hx => ?_⟩
  have := h2 x hx
  simp [Lit.wf, IntKind.min, IntKind.max, IntKind.signed, IntKind.bits] at this
  omega
theorem cur_next (l : List Int) (hl : Byt l) (a s : Int) (h0 : 0 ≤ a) (h1 : a ≤ 1000000000000) : ∃ v s', spec_l1Cur_next.f l a s = some (v, a + 1, s') ∧ 0 ≤ v ∧ v ≤ 255 := by
  obtain ⟨hn, hb⟩ := hl
  unfold spec_l1Cur_next.f
  rw [wr (x := a + 1) (by omega) (by omega)]
  by_cases c : a < l.length
  · have hr := hb (rd l a) (by rw [rd_get l a (by omega)]; exact List.getElem_mem _)
    rw [if_pos c, if_pos h0, if_pos (by omega)]
    refine ⟨_, _, rfl, ?_⟩
    rw [wr (by omega) (by omega)]
    exact hr
  · rw [if_neg c, if_neg (by omega)]
    exact ⟨_, _, rfl, low8 _⟩
theorem cur_pick (l : List Int) (hl : Byt l) (a s n : Int) (h0 : 0 ≤ a) (h1 : a ≤ 900000000000) : ∃ v a' s', spec_l1Cur_pick.f l a s n = some (v, a', s') ∧ a ≤ a' ∧ a' ≤ a + 2 ∧ 0 ≤ v ∧ (v = 0 ∨ v < n) := by
  unfold spec_l1Cur_pick.f
  by_cases c : n ≤ 1
  · rw [if_pos c]; exact ⟨_, _, _, rfl, by omega, by omega, by omega, .inl rfl⟩
  rw [if_neg c]
  obtain ⟨v, s', e, h2, h3⟩ := cur_next l hl a s h0 (by omega)
  rw [e]
  simp only [Option.bind_some]
  by_cases c2 : n > 200
  · rw [if_pos c2]
    obtain ⟨v2, s2, e2, h4, h5⟩ := cur_next l hl (a + 1) s' (by omega) (by omega)
    rw [e2]
    simp only [Option.bind_some]
    rw [if_neg (by omega), wr (x := v * 256) (by omega) (by omega), wr (by omega) (by omega)]
    exact ⟨_, _, _, rfl, by omega, by omega, Int.tmod_nonneg _ (by omega), .inr (Int.tmod_lt_of_pos _ (by omega))⟩
  · rw [if_neg c2, if_neg (by omega)]
    exact ⟨_, _, _, rfl, by omega, by omega, Int.tmod_nonneg _ (by omega), .inr (Int.tmod_lt_of_pos _ (by omega))⟩
theorem cur_one (l : List Int) (hl : Byt l) (a s n : Int) (h0 : 0 ≤ a) (h1 : a ≤ 900000000000) : ∃ b a' s', spec_l1Cur_one.f l a s n = some (b, a', s') ∧ a ≤ a' ∧ a' ≤ a + 2 := by
  unfold spec_l1Cur_one.f
  obtain ⟨v, a', s', e, h2, h3, h4, h5⟩ := cur_pick l hl a s n h0 h1
  rw [e]
  simp only [Option.bind_some]
  exact ⟨_, _, _, rfl, h2, h3⟩
theorem cur_among (l : List Int) (hl : Byt l) (a s : Int) (xs : List Int) (hx : 0 < xs.length) (h0 : 0 ≤ a) (h1 : a ≤ 900000000000) : ∃ v a' s', spec_l1Cur_among.f l a s xs = some (v, a', s') ∧ a ≤ a' ∧ a' ≤ a + 2 ∧ v ∈ xs := by
  unfold spec_l1Cur_among.f
  obtain ⟨v, a', s', e, h2, h3, h4, h5⟩ := cur_pick l hl a s (xs.length : Int) h0 h1
  rw [e]
  simp only [Option.bind_some]
  rw [if_pos h4, if_pos (by omega)]
  refine ⟨_, _, _, rfl, h2, h3, ?_⟩
  rw [rd_get xs v (by omega)]
  exact List.getElem_mem _
theorem basesL1 (l : List Int) (a s : Int) : ∀ (c : Nat) (xs : List Int), c ≤ 100 → xs.length + c ≤ 1000 → ∃ ys, Ev (fun k => spec_l1Cur_bases.l1 k xs (c : Int) l a s) (ys, a, s) ∧ ys.length ≤ 1000
  | 0, xs, hc, hx => ⟨xs, Ev.step (fun k => by rw [spec_l1Cur_bases.l1]) (by exact evNeg (by omega) (Ev.now _)), by omega⟩
  | c + 1, xs, hc, hx => by
    obtain ⟨ys, h, hl⟩ := basesL1 l a s c (xs ++ [12]) (by omega) (by simp; omega)
    refine ⟨ys, Ev.step (fun k => by rw [spec_l1Cur_bases.l1]) ?_, hl⟩
    refine evPos (by omega) (evPos (by omega) ?_)
    rw [wr (by omega) (by omega), show ((c + 1 : Nat) : Int) - 1 = (c : Int) from by omega]
    exact h
theorem basesL2 (l : List Int) (a s : Int) : ∀ (c : Nat) (xs : List Int), c ≤ 100 → xs.length + c ≤ 1000 → ∃ ys, Ev (fun k => spec_l1Cur_bases.l2 k xs (c : Int) l a s) (ys, a, s) ∧ ys.length ≤ 1000
  | 0, xs, hc, hx => ⟨xs, Ev.step (fun k => by rw [spec_l1Cur_bases.l2]) (by exact evNeg (by omega) (Ev.now _)), by omega⟩
  | c + 1, xs, hc, hx => by
    obtain ⟨ys, h, hl⟩ := basesL2 l a s c (xs ++ [2]) (by omega) (by simp; omega)
    refine ⟨ys, Ev.step (fun k => by rw [spec_l1Cur_bases.l2]) ?_, hl⟩
    refine evPos (by omega) (evPos (by omega) ?_)
    rw [wr (by omega) (by omega), show ((c + 1 : Nat) : Int) - 1 = (c : Int) from by omega]
    exact h
theorem basesL0 (l : List Int) (hl : Byt l) : ∀ (c : Nat) (xs : List Int) (a s : Int), c ≤ 100 → xs.length + c ≤ 900 → 0 ≤ a → a + 4 * c ≤ 600000000000 → ∃ ys a' s', Ev (fun k => spec_l1Cur_bases.l0 k xs (c : Int) l a s) (ys, a', s') ∧ ys.length ≤ 1000 ∧ a ≤ a' ∧ a' ≤ a + 4 * c + 100
  | 0, xs, a, s, hc, hx, h0, h1 => by
    obtain ⟨v, a1, s1, e, g1, g2, g3, g4⟩ := cur_pick l hl a s 20 h0 (by omega)
    have hE : ∀ r, Ev (fun k => if v = 0 then ((spec_l1Cur_among.f l a1 s1 (([0, 1, (-3), 12, 13] : List Int))).bind fun bt130 => (if xs.length < 17592186044416 then (some ((xs ++ [bt130.1]), bt130.2.1, bt130.2.2)) else (none))) else (if v = 1 then ((spec_l1Cur_pick.f l a1 s1 3).bind fun bt136 => (spec_l1Cur_bases.l1 k xs (wrap64 (5 + bt136.1)) l bt136.2.1 bt136.2.2)) else (if v = 2 then ((spec_l1Cur_pick.f l a1 s1 2).bind fun bt142 => (spec_l1Cur_bases.l2 k ([] : List Int) (wrap64 (12 + bt142.1)) l bt142.2.1 bt142.2.2)) else (some (xs, a1, s1))))) r → Ev (fun k => spec_l1Cur_bases.l0 k xs ((0 : Nat) : Int) l a s) r := by
      intro r hr
      exact Ev.step (fun k => by rw [spec_l1Cur_bases.l0]) (by exact evNeg (by omega) (Ev.bind (evOk e) hr))
    by_cases c0 : v = 0
    · obtain ⟨x, a2, s2, e2, i1, i2, i3⟩ := cur_among l hl a1 s1 [0, 1, (-3), 12, 13] (by decide) (by omega) (by omega)
      exact ⟨xs ++ [x], a2, s2, hE _ (evPos c0 (Ev.bind (evOk e2) (evPos (by omega) (Ev.now _)))), by simp; omega, by omega, by omega⟩
    by_cases c1 : v = 1
    · obtain ⟨x, a2, s2, e2, i1, i2, i3, i4⟩ := cur_pick l hl a1 s1 3 (by omega) (by omega)
      obtain ⟨n, rfl⟩ := Int.eq_ofNat_of_zero_le i3
      obtain ⟨ys, h, hy⟩ := basesL1 l a2 s2 (5 + n) xs (by omega) (by omega)
      refine ⟨ys, a2, s2, hE _ (evNeg c0 (evPos c1 (Ev.bind (evOk e2) ?_))), hy, by omega, by omega⟩
      rw [wr (by omega) (by omega)]
      rw [show ((5 + n : Nat) : Int) = 5 + (n : Int) from by omega] at h
      exact h
    by_cases c2 : v = 2
    · obtain ⟨x, a2, s2, e2, i1, i2, i3, i4⟩ := cur_pick l hl a1 s1 2 (by omega) (by omega)
      obtain ⟨n, rfl⟩ := Int.eq_ofNat_of_zero_le i3
      obtain ⟨ys, h, hy⟩ := basesL2 l a2 s2 (12 + n) [] (by omega) (by simp; omega)
      refine ⟨ys, a2, s2, hE _ (evNeg c0 (evNeg c1 (evPos c2 (Ev.bind (evOk e2) ?_)))), hy, by omega, by omega⟩
      rw [wr (by omega) (by omega)]
      rw [show ((12 + n : Nat) : Int) = 12 + (n : Int) from by omega] at h
      exact h
    exact ⟨xs, a1, s1, hE _ (evNeg c0 (evNeg c1 (evNeg c2 (Ev.now _)))), by omega, by omega, by omega⟩
  | c + 1, xs, a, s, hc, hx, h0, h1 => by
    obtain ⟨v, a1, s1, e, g1, g2, g3, g4⟩ := cur_pick l hl a s 4 h0 (by omega)
    obtain ⟨ys, a', s', h, hy, j1, j2⟩ := basesL0 l hl c (xs ++ [2 + v]) a1 s1 (by omega) (by simp; omega) (by omega) (by omega)
    refine ⟨ys, a', s', Ev.step (fun k => by rw [spec_l1Cur_bases.l0]) ?_, hy, by omega, by omega⟩
    refine evPos (by omega) (Ev.bind (evOk e) (evPos (by omega) ?_))
    rw [wr (x := 2 + v) (by omega) (by omega), wr (by omega) (by omega), show ((c + 1 : Nat) : Int) - 1 = (c : Int) from by omega]
    exact h
theorem cur_bases6 (l : List Int) (hl : Byt l) (a s : Int) (h0 : 0 ≤ a) (h1 : a ≤ 500000000000) : ∃ ys a' s', Ev (fun k => spec_l1Cur_bases.f k l a s 6) (ys, a', s') ∧ ys.length ≤ 1000 ∧ a ≤ a' ∧ a' ≤ a + 200 := by
  unfold spec_l1Cur_bases.f
  rw [wr (x := 6 + 1) (by omega) (by omega)]
  obtain ⟨v, a1, s1, e, g1, g2, g3, g4⟩ := cur_pick l hl a s (6 + 1) h0 (by omega)
  obtain ⟨n, rfl⟩ := Int.eq_ofNat_of_zero_le g3
  obtain ⟨ys, a', s', h, hy, j1, j2⟩ := basesL0 l hl n [] a1 s1 (by omega) (by simp; omega) (by omega) (by omega)
  exact ⟨ys, a', s', Ev.bind (evOk e) h, hy, by omega, by omega⟩
theorem smallL0 (l : List Int) (hl : Byt l) : ∀ (c : Nat) (xs : List Int) (a s : Int), c ≤ 100 → xs.length + c ≤ 900 → 0 ≤ a → a + 4 * c ≤ 400000000000 → ∃ ys a' s', Ev (fun k => spec_l1Cur_small.l0 k xs (c : Int) l a s) (ys, a', s') ∧ ys.length ≤ 1000 ∧ a ≤ a' ∧ a' ≤ a + 4 * c + 100
  | 0, xs, a, s, hc, hx, h0, h1 => by
    obtain ⟨b1, a1, s1, e1, g1, g2⟩ := cur_one l hl a s 30 h0 (by omega)
    obtain ⟨b2, a2, s2, e2, i1, i2⟩ := cur_one l hl a1 s1 30 (by omega) (by omega)
    cases b1
    · cases b2
      · exact ⟨xs, a2, s2, Ev.step (fun k => by rw [spec_l1Cur_small.l0]) (by exact evNeg (by omega) (Ev.bind (evOk e1) (evNeg (by simp) (Ev.bind (evOk e2) (evNeg (by simp) (Ev.now _)))))), by omega, by omega, by omega⟩
      · exact ⟨_, a2, s2, Ev.step (fun k => by rw [spec_l1Cur_small.l0]) (by exact evNeg (by omega) (Ev.bind (evOk e1) (evNeg (by simp) (Ev.bind (evOk e2) (evPos rfl (Ev.now _)))))), by simp, by omega, by omega⟩
    · exact ⟨_, a1, s1, Ev.step (fun k => by rw [spec_l1Cur_small.l0]) (by exact evNeg (by omega) (Ev.bind (evOk e1) (evPos rfl (Ev.now _)))), by simp, by omega, by omega⟩
  | c + 1, xs, a, s, hc, hx, h0, h1 => by
    obtain ⟨v, a1, s1, e, g1, g2, g3, g4⟩ := cur_pick l hl a s 3 h0 (by omega)
    obtain ⟨ys, a', s', h, hy, j1, j2⟩ := smallL0 l hl c (xs ++ [2 + v]) a1 s1 (by omega) (by simp; omega) (by omega) (by omega)
    refine ⟨ys, a', s', Ev.step (fun k => by rw [spec_l1Cur_small.l0]) ?_, hy, by omega, by omega⟩
    refine evPos (by omega) (Ev.bind (evOk e) (evPos (by omega) ?_))
    rw [wr (x := 2 + v) (by omega) (by omega), wr (by omega) (by omega), show ((c + 1 : Nat) : Int) - 1 = (c : Int) from by omega]
    exact h
theorem cur_small (l : List Int) (hl : Byt l) (a s : Int) (h0 : 0 ≤ a) (h1 : a ≤ 300000000000) : ∃ ys a' s', Ev (fun k => spec_l1Cur_small.f k l a s) (ys, a', s') ∧ ys.length ≤ 1000 ∧ a ≤ a' ∧ a' ≤ a + 400 := by
  unfold spec_l1Cur_small.f
  obtain ⟨b1, a1, s1, e1, g1, g2⟩ := cur_one l hl a s 20 h0 (by omega)
  cases b1
  · obtain ⟨v, a2, s2, e, i1, i2, i3, i4⟩ := cur_pick l hl a1 s1 5 (by omega) (by omega)
    obtain ⟨n, rfl⟩ := Int.eq_ofNat_of_zero_le i3
    obtain ⟨ys, a', s', h, hy, j1, j2⟩ := smallL0 l hl n [] a2 s2 (by omega) (by simp; omega) (by omega) (by omega)
    exact ⟨ys, a', s', Ev.bind (evOk e1) (evNeg (by simp) (Ev.bind (evOk e) h)), hy, by omega, by omega⟩
  · obtain ⟨ys, a', s', h, hy, j1, j2⟩ := cur_bases6 l hl a1 s1 (by omega) (by omega)
    exact ⟨ys, a', s', Ev.bind (evOk e1) (evPos rfl (Ev.bind h (Ev.now _))), hy, by omega, by omega⟩
theorem drawRunFocus_ev (l : List Int) (hl : Byt l) : ∃ ys m, Ev (fun k => spec_DrawRunFocus.f k l) (ys, m) ∧ ys.length ≤ 1000 := by
  unfold spec_DrawRunFocus.f
  obtain ⟨ys, a1, s1, h, hy, j1, j2⟩ := cur_small l hl 0 0 (by omega) (by omega)
  obtain ⟨v, a2, s2, e, i1, i2, i3⟩ := cur_among l hl a1 s1 [0, 1, 5, 20, 100, 5040, 5041, (-1)] (by decide) (by omega) (by omega)
  exact ⟨ys, v, Ev.bind h (Ev.bind (evOk e) (Ev.now _)), hy⟩
theorem size_l0 (xs : List Int) (hn : xs.length ≤ 35184372088832) (hx : ∀ x ∈ xs, 2 ≤ x ∧ x ≤ 12) : ∀ (d : Nat) (j n : Int), 0 ≤ j → j.toNat + d = xs.length → 1 ≤ n → n ≤ 1000001 →
    Ev (fun k => impl_size.l0 k n xs (xs.length : Int) j) (capI n (xs.drop j.toNat)) := by
  intro d
  induction d with
  | zero =>
    intro j n h0 hd h1 h2
    refine Ev.step (fun k => by rw [impl_size.l0]) ?_
    refine evNeg (by omega) (evEq ?_)
    rw [drop_end _ _ (by omega)]; rfl
  | succ d ih =>
    intro j n h0 hd h1 h2
    refine Ev.step (fun k => by rw [impl_size.l0]) ?_
    refine evPos (by omega) (evPos (by omega) (evPos (by omega) ?_))
    have hb := hx (rd xs j) (by rw [rd_get xs j (by omega)]; exact List.getElem_mem _)
    have q1 : n * rd xs j ≤ n * 12 := Int.mul_le_mul_of_nonneg_left hb.2 (by omega)
    have q2 : n * 2 ≤ n * rd xs j := Int.mul_le_mul_of_nonneg_left hb.1 (by omega)
    rw [drop_rd xs j h0 (by omega), capI]
    generalize n * rd xs j = p at q1 q2 ⊢
    rw [wr (by omega) (by omega), wr (by omega) (by omega), show mn p 1000001 = (if p ≤ 1000001 then p else 1000001) from by simp only [mn]; split <;> split <;> omega]
    exact ih _ _ (by omega) (by omega) (by split <;> omega) (by split <;> omega)
theorem size_ev (xs : List Int) (hn : xs.length ≤ 35184372088832) (hx : ∀ x ∈ xs, 2 ≤ x ∧ x ≤ 12) : Ev (fun k => impl_size.f k xs) (capI 1 xs) := by
  unfold impl_size.f
  exact size_l0 xs hn hx xs.length 0 1 (by omega) (by simp) (by omega) (by omega)
theorem within_eq (x a b : Int) : impl_within.f x a b = some (decide (a ≤ x ∧ x ≤ b)) := by
  unfold impl_within.f
  by_cases h : x ≥ a
  · rw [if_pos h]; have h' : a ≤ x := h; simp [h']
  · rw [if_neg h]; have h' : ¬ a ≤ x := h; simp [h']
theorem allWithin_l0 (a b : Int) (xs : List Int) (hn : xs.length ≤ 35184372088832) : ∀ (d : Nat) (j : Int), 0 ≤ j → j.toNat + d = xs.length →
    Ev (fun k => impl_allWithin.l0 k a b xs (xs.length : Int) j) ((xs.drop j.toNat).all fun x => decide (a ≤ x ∧ x ≤ b)) := by
  intro d
  induction d with
  | zero =>
    intro j h0 hd
    refine Ev.step (fun k => by rw [impl_allWithin.l0]) ?_
    refine evNeg (by omega) (evEq ?_)
    rw [drop_end _ _ (by omega)]; rfl
  | succ d ih =>
    intro j h0 hd
    refine Ev.step (fun k => by rw [impl_allWithin.l0]) ?_
    refine evPos (by omega) (evPos (by omega) (evPos (by omega) ?_))
    simp only [within_eq, Option.bind_some]
    rw [wr (by omega) (by omega), drop_rd xs j h0 (by omega), List.all_cons]
    by_cases c : a ≤ rd xs j ∧ rd xs j ≤ b
    · exact evPos (by simpa using c) (evTo (ih _ (by omega) (by omega)) (by simp [c]))
    · exact evNeg (by simpa using c) (evEq (by rw [decide_eq_false c]; rfl))
theorem allWithin_ev (xs : List Int) (a b : Int) (hn : xs.length ≤ 35184372088832) : Ev (fun k => impl_allWithin.f k xs a b) (xs.all fun x => decide (a ≤ x ∧ x ≤ b)) := by
  unfold impl_allWithin.f
  exact evTo (allWithin_l0 a b xs hn xs.length 0 (by omega) (by simp)) (by simp)
theorem areBases_fob (xs : List Int) (h : fob xs = true) : Ev (fun k => impl_areBases.f k xs) true := by
  obtain ⟨q1, q2, q3⟩ := fob_of h
  unfold impl_areBases.f
  have h2 := allWithin_ev xs 2 12 (by omega)
  have c2 : (xs.all fun x => decide (2 ≤ x ∧ x ≤ 12)) = true := List.all_eq_true.2 (fun x hx => by simpa using q2 x hx)
  rw [c2] at h2
  have hp := size_ev xs (by omega) q2
  rw [capI_of xs q2 (by omega)] at hp
  exact evPos (by omega) (Ev.bind h2 (evPos rfl (Ev.bind hp (evEq (by rw [decide_eq_true_eq]; omega)))))
theorem areFocusBases_ev (xs : List Int) (hn : xs.length ≤ 35184372088832) : Ev (fun k => impl_areFocusBases.f k xs) (fob xs) := by
  unfold impl_areFocusBases.f impl_areBases.f
  by_cases c1 : xs.length ≤ 12
  rotate_left
  · refine Ev.bind (evNeg (by omega) (Ev.now _)) (evNeg (by simp) (evEq ?_))
    simp [fob, c1]
  by_cases c2 : (xs.all fun x => decide (2 ≤ x ∧ x ≤ 12)) = true
  rotate_left
  · have h2 := allWithin_ev xs 2 12 hn
    simp only [Bool.not_eq_true] at c2
    rw [c2] at h2
    refine Ev.bind (evPos (by omega) (Ev.bind h2 (evNeg (by simp) (Ev.now _)))) (evNeg (by simp) (evEq ?_))
    unfold fob; rw [c2]; simp
  have hx : ∀ x ∈ xs, 2 ≤ x ∧ x ≤ 12 := fun x hx => by simpa using List.all_eq_true.1 c2 x hx
  have h2 := allWithin_ev xs 2 12 hn
  rw [c2] at h2
  have hp := size_ev xs hn hx
  have hc := pr_cap xs 1 hx (by omega) (by omega)
  refine Ev.bind (evPos (by omega) (Ev.bind h2 (evPos rfl (Ev.bind hp (Ev.now _))))) ?_
  by_cases c3 : capI 1 xs ≤ 1000000
  · refine evPos (by simpa using c3) (Ev.bind hp (evEq ?_))
    unfold fob; rw [c2]; simp [c1]; omega
  · refine evNeg (by simpa using c3) (evEq ?_)
    unfold fob; rw [c2]; simp [c1]; omega
theorem copied_eq (l : List Int) (hn : l.length ≤ 10000000000000) : impl_copied.f l = some l := by
  unfold impl_copied.f
  simp only [Option.bind_some, List.nil_append, List.length_nil, Nat.zero_add]
  rw [if_pos (by omega)]
theorem identity_l0 (n : Nat) (hn : n ≤ 1000000000) : ∀ (d : Nat) (j : Int), 0 ≤ j → j.toNat + d = n → Ev (fun k => impl_identity.l0 k (upTo j.toNat) (n : Int) j) (upTo n) := by
  intro d
  induction d with
  | zero =>
    intro j h0 hd
    refine Ev.step (fun k => by rw [impl_identity.l0]) ?_
    exact evNeg (by omega) (evEq (by rw [show j.toNat = n from by omega]))
  | succ d ih =>
    intro j h0 hd
    refine Ev.step (fun k => by rw [impl_identity.l0]) ?_
    refine evPos (by omega) (evPos (by rw [upTo_length]; omega) ?_)
    have h := ih (j + 1) (by omega) (by omega)
    rw [show (j + 1).toNat = j.toNat + 1 from by omega, upTo_succ, Int.toNat_of_nonneg h0] at h
    rw [wr (by omega) (by omega)]
    exact h
theorem identity_ev (n : Nat) (hn : n ≤ 1000000000) : Ev (fun k => impl_identity.f k (n : Int)) (upTo n) := by
  unfold impl_identity.f
  exact identity_l0 n hn n 0 (by omega) (by simp)
theorem startFocus_l0 (n : Nat) (hn : n ≤ 1000000) (a b c : List Int) : ∀ (d : Nat) (j : Int), 0 ≤ j → j.toNat + d = n → Ev (fun k => impl_startFocus.l0 k (n : Int) j a b (List.replicate j.toNat true) c) (a, b, List.replicate n true, c) := by
  intro d
  induction d with
  | zero =>
    intro j h0 hd
    refine Ev.step (fun k => by rw [impl_startFocus.l0]) ?_
    exact evNeg (by omega) (evEq (by rw [show j.toNat = n from by omega]))
  | succ d ih =>
    intro j h0 hd
    refine Ev.step (fun k => by rw [impl_startFocus.l0]) ?_
    refine evPos (by omega) (evPos (by rw [List.length_replicate]; omega) ?_)
    rw [wr (by omega) (by omega), rep_snoc j h0]
    exact ih (j + 1) (by omega) (by omega)
theorem startFocus_ev (l : List Int) (hn : l.length ≤ 1000) : Ev (fun k => impl_startFocus.f k l) (stF l) := by
  unfold impl_startFocus.f stF
  rw [copied_eq l (by omega)]
  refine evSome (evPos (by omega) (evPos (by omega) ?_))
  rw [wr (by omega) (by omega), show (l.length : Int) + 1 = ((l.length + 1 : Nat) : Int) from by omega, Int.toNat_natCast]
  refine Ev.bind (identity_ev (l.length + 1) (by omega)) ?_
  exact startFocus_l0 l.length (by omega) _ _ _ l.length 0 (by omega) (by simp)
theorem isLast_st (cs : List Nat) (r : Nat) : impl_Focus_isLast.f (bs cs) (st cs r).d (st cs r).u (st cs r).p = some (decide (fa cs r = cs.length)) := by
  unfold impl_Focus_isLast.f
  have hl := (st_lens cs r).2.2
  have hj : rd (st cs r).p 0 = ((fa cs r : Nat) : Int) := st_head cs r
  rw [if_pos (by omega), hj, bs_length]
  congr 1
  rw [Bool.eq_iff_iff]
  simp only [decide_eq_true_eq, beq_iff_eq]
  omega
theorem runFocus_l0 (cs : List Nat) (h : Ok cs) : ∀ (m : Nat) (out : List Int) (r : Nat) (M : Int), r < prod cs → (out.length : Int) + m = M → M ≤ 10000 →
    Ev (fun k => impl_runFocus.l0 k ((bs cs).length : Int) M (bs cs) out (st cs r).d (st cs r).u (st cs r).p) (out ++ run cs r m) := by
  have hl := h.len
  have lb := bs_length cs
  intro m
  induction m with
  | zero =>
    intro out r M hr hm ho
    refine Ev.step (fun k => by rw [impl_runFocus.l0]) ?_
    exact evNeg (by omega) (evEq (by simp [run]))
  | succ m ih =>
    intro out r M hr hm ho
    refine Ev.step (fun k => by rw [impl_runFocus.l0]) ?_
    refine evPos (by omega) ?_
    rw [isLast_st]
    by_cases c : fa cs r < cs.length
    · refine evSome (evNeg (by simp; omega) ?_)
      rw [stepF_st cs h r c]
      refine evSome (evPos (by omega) ?_)
      dsimp only
      rw [wr (x := ((bs cs).length : Int) - 1) (by omega) (by omega), wr (by omega) (by omega)]
      refine evTo (ih _ (r + 1) M ((last_rank cs h r hr).1 c) (by simp; omega) ho) ?_
      rw [run, if_pos c, lb]; simp
    · have := fa_le cs h r hr
      refine evSome (evPos (by simp; omega) (evEq ?_))
      rw [run, if_neg c]; simp
theorem runFocus_ev (cs : List Nat) (h : Ok cs) (m : Nat) (hm : m ≤ 10000) : Ev (fun k => impl_runFocus.f k (bs cs) (m : Int)) (run cs 0 m) := by
  unfold impl_runFocus.f
  have hs := startFocus_ev (bs cs) (by rw [bs_length]; have := h.len; omega)
  rw [stF_st cs h] at hs
  exact Ev.bind hs (evTo (runFocus_l0 cs h m [] 0 (m : Int) (prod_pos cs h.rad) (by simp) (by omega)) (by simp))
theorem raProduct_l0 (xs : List Int) (hn : xs.length ≤ 35184372088832) (hx : ∀ x ∈ xs, 2 ≤ x ∧ x ≤ 12) : ∀ (d : Nat) (j n : Int), 0 ≤ j → j.toNat + d = xs.length → 1 ≤ n → n ≤ 1000000 →
    Ev (fun k => spec_raProduct.l0 k n xs (xs.length : Int) j) (prS n (xs.drop j.toNat)) := by
  intro d
  induction d with
  | zero =>
    intro j n h0 hd h1 h2
    refine Ev.step (fun k => by rw [spec_raProduct.l0]) ?_
    refine evNeg (by omega) (evEq ?_)
    rw [drop_end _ _ (by omega)]; rfl
  | succ d ih =>
    intro j n h0 hd h1 h2
    refine Ev.step (fun k => by rw [spec_raProduct.l0]) ?_
    refine evPos (by omega) (evPos (by omega) (evPos (by omega) ?_))
    have hb := hx (rd xs j) (by rw [rd_get xs j (by omega)]; exact List.getElem_mem _)
    have q1 : n * rd xs j ≤ n * 12 := Int.mul_le_mul_of_nonneg_left hb.2 (by omega)
    have q2 : n * 2 ≤ n * rd xs j := Int.mul_le_mul_of_nonneg_left hb.1 (by omega)
    rw [drop_rd xs j h0 (by omega), prS]
    generalize n * rd xs j = p at q1 q2 ⊢
    rw [wr (by omega) (by omega), wr (by omega) (by omega)]
    by_cases c : p > 1000000
    · exact evPos c (evEq (by rw [if_pos c]))
    · refine evNeg c ?_
      rw [if_neg c]
      exact ih _ _ (by omega) (by omega) (by omega) (by omega)
theorem raProduct_ev (xs : List Int) (hn : xs.length ≤ 35184372088832) (hx : ∀ x ∈ xs, 2 ≤ x ∧ x ≤ 12) : Ev (fun k => spec_raProduct.f k xs) (prS 1 xs) := by
  unfold spec_raProduct.f
  exact raProduct_l0 xs hn hx xs.length 0 1 (by omega) (by simp) (by omega) (by omega)
theorem l1In_eq (x a b : Int) : spec_l1In.f x a b = some (decide (a ≤ x ∧ x ≤ b)) := by
  unfold spec_l1In.f
  by_cases h : x ≥ a
  · rw [if_pos h]; have h' : a ≤ x := h; simp [h']
  · rw [if_neg h]; have h' : ¬ a ≤ x := h; simp [h']
theorem l1All_l0 (a b : Int) (xs : List Int) (hn : xs.length ≤ 35184372088832) : ∀ (d : Nat) (j : Int), 0 ≤ j → j.toNat + d = xs.length →
    Ev (fun k => spec_l1All.l0 k a b xs (xs.length : Int) j) ((xs.drop j.toNat).all fun x => decide (a ≤ x ∧ x ≤ b)) := by
  intro d
  induction d with
  | zero =>
    intro j h0 hd
    refine Ev.step (fun k => by rw [spec_l1All.l0]) ?_
    refine evNeg (by omega) (evEq ?_)
    rw [drop_end _ _ (by omega)]; rfl
  | succ d ih =>
    intro j h0 hd
    refine Ev.step (fun k => by rw [spec_l1All.l0]) ?_
    refine evPos (by omega) (evPos (by omega) (evPos (by omega) ?_))
    simp only [l1In_eq, Option.bind_some]
    rw [wr (by omega) (by omega), drop_rd xs j h0 (by omega), List.all_cons]
    by_cases c : a ≤ rd xs j ∧ rd xs j ≤ b
    · exact evPos (by simpa using c) (evTo (ih _ (by omega) (by omega)) (by simp [c]))
    · exact evNeg (by simpa using c) (evEq (by rw [decide_eq_false c]; rfl))
theorem l1All_ev (xs : List Int) (a b : Int) (hn : xs.length ≤ 35184372088832) : Ev (fun k => spec_l1All.f k xs a b) (xs.all fun x => decide (a ≤ x ∧ x ≤ b)) := by
  unfold spec_l1All.f
  exact evTo (l1All_l0 a b xs hn xs.length 0 (by omega) (by simp)) (by simp)
theorem foBases_ev (xs : List Int) (hn : xs.length ≤ 35184372088832) : Ev (fun k => spec_foBases.f k xs) (fob xs) := by
  unfold spec_foBases.f spec_raBases.f
  by_cases c1 : xs.length ≤ 12
  rotate_left
  · refine Ev.bind (evNeg (by omega) (Ev.now _)) (evNeg (by simp) (evEq ?_))
    simp [fob, c1]
  by_cases c2 : (xs.all fun x => decide (2 ≤ x ∧ x ≤ 12)) = true
  rotate_left
  · have h2 := l1All_ev xs 2 12 hn
    simp only [Bool.not_eq_true] at c2
    rw [c2] at h2
    refine Ev.bind (evPos (by omega) (Ev.bind h2 (evNeg (by simp) (Ev.now _)))) (evNeg (by simp) (evEq ?_))
    unfold fob; rw [c2]; simp
  have hx : ∀ x ∈ xs, 2 ≤ x ∧ x ≤ 12 := fun x hx => by simpa using List.all_eq_true.1 c2 x hx
  have h2 := l1All_ev xs 2 12 hn
  rw [c2] at h2
  have hp := raProduct_ev xs hn hx
  refine Ev.bind (evPos (by omega) (Ev.bind h2 (evPos rfl (Ev.bind hp (Ev.now _))))) ?_
  by_cases c3 : prS 1 xs ≤ 1000000
  · refine evPos (by simpa using c3) (Ev.bind hp (evEq ?_))
    unfold fob; rw [c2]; simp [c1]
  · refine evNeg (by simpa using c3) (evEq ?_)
    unfold fob; rw [c2]; simp [c1]; omega
theorem l1Own_eq (l : List Int) (hn : l.length ≤ 10000000000000) : spec_l1Own.f l = some l := by
  unfold spec_l1Own.f
  simp only [Option.bind_some, List.nil_append, List.length_nil, Nat.zero_add]
  rw [if_pos (by omega)]
theorem foStep_go (cs : List Nat) (h : Ok cs) (r : Nat) (hf : fa cs r < cs.length) : spec_foStep.f (bs cs) (st cs r).d (st cs r).u (st cs r).p = some (bs cs, (st cs (r + 1)).d, (st cs (r + 1)).u, (st cs (r + 1)).p, (cs.length : Int) - 1 - ((fa cs r : Nat) : Int)) := by
  unfold spec_foStep.f
  have hl := (st_lens cs r).2.2
  have hj : rd (st cs r).p 0 = ((fa cs r : Nat) : Int) := st_head cs r
  rw [if_pos (by omega), hj, bs_length, if_neg (by omega), stepF_st cs h r hf]
  rfl
theorem foStep_end (cs : List Nat) (r : Nat) (hf : fa cs r = cs.length) : spec_foStep.f (bs cs) (st cs r).d (st cs r).u (st cs r).p = some ([], [], [], [], -1) := by
  unfold spec_foStep.f
  have hl := (st_lens cs r).2.2
  have hj : rd (st cs r).p 0 = ((fa cs r : Nat) : Int) := st_head cs r
  rw [if_pos (by omega), hj, bs_length, if_pos (by omega)]
theorem raUpTo_l0 (n : Nat) (hn : n ≤ 1000000000) : ∀ (d : Nat) (j : Int), 0 ≤ j → j.toNat + d = n → Ev (fun k => spec_raUpTo.l0 k (n : Int) (upTo j.toNat) j) (upTo n) := by
  intro d
  induction d with
  | zero =>
    intro j h0 hd
    refine Ev.step (fun k => by rw [spec_raUpTo.l0]) ?_
    exact evNeg (by omega) (evEq (by rw [show j.toNat = n from by omega]))
  | succ d ih =>
    intro j h0 hd
    refine Ev.step (fun k => by rw [spec_raUpTo.l0]) ?_
    refine evPos (by omega) (evPos (by rw [upTo_length]; omega) ?_)
    have h := ih (j + 1) (by omega) (by omega)
    rw [show (j + 1).toNat = j.toNat + 1 from by omega, upTo_succ, Int.toNat_of_nonneg h0] at h
    rw [wr (by omega) (by omega)]
    exact h
theorem raUpTo_ev (n : Nat) (hn : n ≤ 1000000000) : Ev (fun k => spec_raUpTo.f k (n : Int)) (upTo n) := by
  unfold spec_raUpTo.f
  exact raUpTo_l0 n hn n 0 (by omega) (by simp)
theorem foStart_l0 (n : Nat) (hn : n ≤ 1000000) (a b c : List Int) : ∀ (d : Nat) (j : Int), 0 ≤ j → j.toNat + d = n → Ev (fun k => spec_foStart.l0 k (n : Int) j a b (List.replicate j.toNat true) c) (a, b, List.replicate n true, c) := by
  intro d
  induction d with
  | zero =>
    intro j h0 hd
    refine Ev.step (fun k => by rw [spec_foStart.l0]) ?_
    exact evNeg (by omega) (evEq (by rw [show j.toNat = n from by omega]))
  | succ d ih =>
    intro j h0 hd
    refine Ev.step (fun k => by rw [spec_foStart.l0]) ?_
    refine evPos (by omega) (evPos (by rw [List.length_replicate]; omega) ?_)
    rw [wr (by omega) (by omega), rep_snoc j h0]
    exact ih (j + 1) (by omega) (by omega)
theorem foStart_ev (l : List Int) (hn : l.length ≤ 1000) : Ev (fun k => spec_foStart.f k l) (stF l) := by
  unfold spec_foStart.f stF
  rw [l1Own_eq l (by omega)]
  refine evSome (evPos (by omega) (evPos (by omega) ?_))
  rw [wr (by omega) (by omega), show (l.length : Int) + 1 = ((l.length + 1 : Nat) : Int) from by omega, Int.toNat_natCast]
  refine Ev.bind (raUpTo_ev (l.length + 1) (by omega)) ?_
  exact foStart_l0 l.length (by omega) _ _ _ l.length 0 (by omega) (by simp)
theorem foRun_l0 (cs : List Nat) (h : Ok cs) : ∀ (m : Nat) (out : List Int) (r : Nat), r < prod cs → m ≤ 10000 → out.length + m ≤ 10000 →
    Ev (fun k => spec_foRun.l0 k (m : Int) out (bs cs) (st cs r).d (st cs r).u (st cs r).p) (out ++ run cs r m) := by
  intro m
  induction m with
  | zero =>
    intro out r hr hm ho
    refine Ev.step (fun k => by rw [spec_foRun.l0]) ?_
    exact evNeg (by omega) (evEq (by simp [run]))
  | succ m ih =>
    intro out r hr hm ho
    refine Ev.step (fun k => by rw [spec_foRun.l0]) ?_
    refine evPos (by omega) ?_
    by_cases c : fa cs r < cs.length
    · rw [foStep_go cs h r c]
      refine evSome (evNeg (by dsimp only; omega) (evPos (by omega) ?_))
      dsimp only
      rw [wr (by omega) (by omega), show ((m + 1 : Nat) : Int) - 1 = (m : Int) from by omega]
      refine evTo (ih _ (r + 1) ((last_rank cs h r hr).1 c) (by omega) (by simp; omega)) ?_
      rw [run, if_pos c]; simp
    · have := fa_le cs h r hr
      rw [foStep_end cs r (by omega)]
      refine evSome (evPos (by dsimp only; omega) (evEq ?_))
      rw [run, if_neg c]; simp
theorem foRun_ev (cs : List Nat) (h : Ok cs) (m : Nat) (hm : m ≤ 10000) : Ev (fun k => spec_foRun.f k (bs cs) (m : Int)) (run cs 0 m) := by
  unfold spec_foRun.f
  have hs := foStart_ev (bs cs) (by rw [bs_length]; have := h.len; omega)
  rw [stF_st cs h] at hs
  exact Ev.bind hs (evTo (foRun_l0 cs h m [] 0 (prod_pos cs h.rad) hm (by simp; omega)) (by simp))
theorem uSame_l0 (a : List Int) (hn : a.length ≤ 35184372088832) : ∀ (d : Nat) (j : Int), 0 ≤ j → j.toNat + d = a.length → Ev (fun k => laws_uSame.l0 k a a (a.length : Int) j) true := by
  intro d
  induction d with
  | zero =>
    intro j h0 hd
    refine Ev.step (fun k => by rw [laws_uSame.l0]) ?_
    exact evNeg (by omega) (Ev.now _)
  | succ d ih =>
    intro j h0 hd
    refine Ev.step (fun k => by rw [laws_uSame.l0]) ?_
    refine evPos (by omega) (evPos (by omega) (evPos (by omega) (evPos (by omega) (evPos rfl ?_))))
    rw [wr (by omega) (by omega)]
    exact ih _ (by omega) (by omega)
theorem uSame_self (a : List Int) (hn : a.length ≤ 35184372088832) : Ev (fun k => laws_uSame.f k a a) true := by
  unfold laws_uSame.f
  exact evPos rfl (uSame_l0 a hn a.length 0 (by omega) (by simp))
theorem counted_l0 (xs : List Int) (hn : xs.length ≤ 10000) : ∀ (d : Nat) (acc : List Int) (j : Int), 0 ≤ j → j.toNat + d = xs.length → (∀ x ∈ xs, 0 ≤ x ∧ x < acc.length) → (∀ y ∈ acc, 0 ≤ y ∧ y ≤ j) →
    Ev (fun k => impl_counted.l0 k acc xs (xs.length : Int) j) (tally acc (xs.drop j.toNat)) := by
  intro d
  induction d with
  | zero =>
    intro acc j h0 hd hx ha
    refine Ev.step (fun k => by rw [impl_counted.l0]) ?_
    refine evNeg (by omega) (evEq ?_)
    rw [drop_end xs j (by omega)]; rfl
  | succ d ih =>
    intro acc j h0 hd hx ha
    refine Ev.step (fun k => by rw [impl_counted.l0]) ?_
    have hxj := hx (rd xs j) (by rw [rd_get xs j (by omega)]; exact List.getElem_mem _)
    have hy := ha (rd acc (rd xs j)) (by rw [rd_get acc _ (by omega)]; exact List.getElem_mem _)
    refine evPos (by omega) (evPos (by omega) (evPos (by omega) (evPos hxj.1 (evPos hxj.2 ?_))))
    rw [wr (x := rd acc (rd xs j) + 1) (by omega) (by omega), wr (x := j + 1) (by omega) (by omega), drop_rd xs j h0 (by omega), tally]
    refine ih _ (j + 1) (by omega) (by omega) (fun x hx' => by rw [List.length_set]; exact hx x hx') (fun y hy' => ?_)
    rcases List.mem_or_eq_of_mem_set hy' with h | h
    · have := ha y h; omega
    · omega
theorem counted_ev (n : Nat) (hn : n ≤ 1000) (xs : List Int) (hl : xs.length ≤ 10000) (hx : ∀ x ∈ xs, 0 ≤ x ∧ x < (n : Int)) : Ev (fun k => impl_counted.f k (n : Int) xs) (tally (List.replicate n 0) xs) := by
  unfold impl_counted.f
  refine evPos (by omega) (evPos (by omega) ?_)
  rw [Int.toNat_natCast]
  exact counted_l0 xs hl xs.length (List.replicate n 0) 0 (by omega) (by simp) (fun x h => by rw [List.length_replicate]; exact hx x h) (fun y hy => by have := List.eq_of_mem_replicate hy; omega)
theorem CountTurnsS_l0 (xs : List Int) (hn : xs.length ≤ 10000) : ∀ (d : Nat) (acc : List Int) (j : Int), 0 ≤ j → j.toNat + d = xs.length → (∀ x ∈ xs, 0 ≤ x ∧ x < acc.length) → (∀ y ∈ acc, 0 ≤ y ∧ y ≤ j) →
    Ev (fun k => spec_CountTurns.l0 k acc xs (xs.length : Int) j) (tally acc (xs.drop j.toNat), true) := by
  intro d
  induction d with
  | zero =>
    intro acc j h0 hd hx ha
    refine Ev.step (fun k => by rw [spec_CountTurns.l0]) ?_
    refine evNeg (by omega) (evEq ?_)
    rw [drop_end xs j (by omega)]; rfl
  | succ d ih =>
    intro acc j h0 hd hx ha
    refine Ev.step (fun k => by rw [spec_CountTurns.l0]) ?_
    have hxj := hx (rd xs j) (by rw [rd_get xs j (by omega)]; exact List.getElem_mem _)
    have hy := ha (rd acc (rd xs j)) (by rw [rd_get acc _ (by omega)]; exact List.getElem_mem _)
    refine evPos (by omega) (evPos (by omega) (evPos (by omega) (evPos hxj.1 (evPos hxj.2 ?_))))
    rw [wr (x := rd acc (rd xs j) + 1) (by omega) (by omega), wr (x := j + 1) (by omega) (by omega), drop_rd xs j h0 (by omega), tally]
    refine ih _ (j + 1) (by omega) (by omega) (fun x hx' => by rw [List.length_set]; exact hx x hx') (fun y hy' => ?_)
    rcases List.mem_or_eq_of_mem_set hy' with h | h
    · have := ha y h; omega
    · omega
theorem focusAt_l0 (cs : List Nat) (h : Ok cs) : ∀ (m r : Nat) (i n : Int), r + m < prod cs → n ≤ 10000 → 0 ≤ i → i + m = n →
    Ev (fun k => impl_focusAt.l0 k n i (bs cs) (st cs r).d (st cs r).u (st cs r).p) (bs cs, (st cs (r + m)).d, (st cs (r + m)).u, (st cs (r + m)).p) := by
  intro m
  induction m with
  | zero =>
    intro r i n hr hm h0 hi
    refine Ev.step (fun k => by rw [impl_focusAt.l0]) ?_
    exact evNeg (by omega) (Ev.now _)
  | succ m ih =>
    intro r i n hr hm h0 hi
    refine Ev.step (fun k => by rw [impl_focusAt.l0]) ?_
    refine evPos (by omega) ?_
    have c := (last_rank cs h r (by omega)).2 (by omega)
    rw [stepF_st cs h r c]
    refine evSome ?_
    dsimp only
    rw [wr (by omega) (by omega), show r + (m + 1) = r + 1 + m from by omega]
    exact ih (r + 1) (i + 1) n (by omega) hm (by omega) (by omega)
theorem focusAt_ev (cs : List Nat) (h : Ok cs) (m : Nat) (hm : m ≤ 10000) (hp : m < prod cs) : Ev (fun k => impl_focusAt.f k (bs cs) (m : Int)) (bs cs, (st cs m).d, (st cs m).u, (st cs m).p) := by
  unfold impl_focusAt.f
  have hs := startFocus_ev (bs cs) (by rw [bs_length]; have := h.len; omega)
  rw [stF_st cs h] at hs
  have := focusAt_l0 cs h m 0 0 (m : Int) (by omega) (by omega) (by omega) (by omega)
  rw [Nat.zero_add] at this
  exact Ev.bind hs this
theorem mixedRank_ev : ∀ (b d : List Int), (∀ x ∈ b, 2 ≤ x ∧ x ≤ 12) → b.length ≤ 12 → prodI b ≤ 5040 → all2 b d = true → Ev (fun k => impl_mixedRank.f k b d) (mr b d)
  | [], [], _, _, _, _ => Ev.step (fun k => by rw [impl_mixedRank.f]) (evPos (by simp) (evEq (by simp [mr])))
  | [], _ :: _, _, _, _, h => by simp [all2] at h
  | b :: B, [], _, _, _, h => by simp [all2] at h
  | b :: B, d :: D, hx, hl, hp, h => by
    rw [all2, Bool.and_eq_true, decide_eq_true_eq] at h
    have hb := hx b (by simp)
    have hB : ∀ x ∈ B, 2 ≤ x ∧ x ≤ 12 := fun x hx' => hx x (by simp [hx'])
    have hP := prodI_pos B hB
    rw [prodI] at hp
    rw [List.length_cons] at hl
    have t := tail_le hb.1 hP
    obtain ⟨q1, q2⟩ := dig_le h.1.1 h.1.2 hP
    obtain ⟨m1, m2⟩ := mr_range B D (all2_len B D h.2) (all2_at B D h.2)
    have ih := mixedRank_ev B D hB (by omega) (by omega) h.2
    have hr := size_ev B (by omega) hB
    rw [capI_of B hB (by omega)] at hr
    refine Ev.step (fun k => by rw [impl_mixedRank.f]) ?_
    simp only [List.drop_succ_cons, List.drop_zero, List.length_cons]
    refine evNeg (by omega) (evPos (by omega) (Ev.bind hr (evPos (by omega) (Ev.bind ih (evPos (by omega) ?_)))))
    rw [show rd (d :: D) 0 = d from rfl]
    have e : mr (b :: B) (d :: D) = d * prodI B + (if d % 2 = 1 then prodI B - 1 - mr B D else mr B D) := by simp [mr]
    rw [e]
    have hm := Int.tmod_eq_emod_of_nonneg (b := 2) h.1.1
    generalize b * prodI B = Y at hp t q2
    generalize d * prodI B = X at q1 q2 ⊢
    generalize mr B D = M at m1 m2 ⊢
    generalize prodI B = P at *
    by_cases c : Int.tmod d 2 = 1
    · refine evPos c (evEq ?_)
      rw [if_pos (by omega), wr (x := X) (by omega) (by omega), wr (x := P - 1) (by omega) (by omega), wr (x := P - 1 - M) (by omega) (by omega), wr (by omega) (by omega)]
    · refine evNeg c (evEq ?_)
      rw [if_neg (by omega), wr (x := X) (by omega) (by omega), wr (by omega) (by omega)]
theorem areDigits_l0 (b d : List Int) (hb : ∀ x ∈ b, 2 ≤ x ∧ x ≤ 12) (hn : b.length ≤ 12) (hm : d.length ≤ 35184372088832) : ∀ (n : Nat) (j : Int), 0 ≤ j → j.toNat + n = d.length → j.toNat ≤ b.length →
    Ev (fun k => impl_areDigits.l0 k b d d (d.length : Int) j) (all2 (b.drop j.toNat) (d.drop j.toNat)) := by
  intro n
  induction n with
  | zero =>
    intro j h0 hd hj
    refine Ev.step (fun k => by rw [impl_areDigits.l0]) ?_
    refine evNeg (by omega) (evEq ?_)
    rw [drop_end d j (by omega)]
    by_cases c : b.length = j.toNat
    · rw [drop_end b j (by omega), show (d.length : Int) = (b.length : Int) from by omega]
      simp [all2]
    · rw [drop_rd b j h0 (by omega), all2]
      have : (d.length : Int) ≠ (b.length : Int) := by omega
      · simp [beq_eq_false_iff_ne, this]
      all_goals simp
  | succ n ih =>
    intro j h0 hd hj
    refine Ev.step (fun k => by rw [impl_areDigits.l0]) ?_
    refine evPos (by omega) (evPos (by omega) (evPos (by omega) ?_))
    by_cases cj : b.length = j.toNat
    · refine evPos (by omega) (evEq ?_)
      rw [drop_end b j (by omega), drop_rd d j h0 (by omega)]
      simp [all2]
    have hbj := hb (rd b j) (by rw [rd_get b j (by omega)]; exact List.getElem_mem _)
    refine evNeg (by omega) (evPos (by omega) ?_)
    rw [within_eq]
    refine evSome ?_
    rw [wr (x := rd b j - 1) (by omega) (by omega), wr (by omega) (by omega), drop_rd b j h0 (by omega), drop_rd d j h0 (by omega), all2]
    by_cases c : 0 ≤ rd d j ∧ rd d j ≤ rd b j - 1
    · refine evPos (decide_eq_true c) (evTo (ih _ (by omega) (by omega) (by omega)) ?_)
      simp [c]
    · refine evNeg (by simpa using c) (evEq ?_)
      rw [decide_eq_false c]; rfl
theorem areDigits_ev (b d : List Int) (hb : ∀ x ∈ b, 2 ≤ x ∧ x ≤ 12) (hn : b.length ≤ 12) (hm : d.length ≤ 35184372088832) : Ev (fun k => impl_areDigits.f k b d) (all2 b d) := by
  unfold impl_areDigits.f
  exact areDigits_l0 b d hb hn hm d.length 0 (by omega) (by simp) (by simp)
theorem slicesEqual_l0 (a b : List Int) (hn : a.length ≤ 35184372088832) (hb : a.length = b.length) : ∀ (d : Nat) (j : Int), 0 ≤ j → j.toNat + d = a.length →
    Ev (fun k => slices_Equal_int_int.l0 k a b (a.length : Int) j) (decide (a.drop j.toNat = b.drop j.toNat)) := by
  intro d
  induction d with
  | zero =>
    intro j h0 hd
    refine Ev.step (fun k => by rw [slices_Equal_int_int.l0]) ?_
    refine evNeg (by omega) ?_
    rw [drop_end a j (by omega), drop_end b j (by omega)]
    exact evEq rfl
  | succ d ih =>
    intro j h0 hd
    refine Ev.step (fun k => by rw [slices_Equal_int_int.l0]) ?_
    refine evPos (by omega) (evPos (by omega) (evPos (by omega) (evPos (by omega) ?_)))
    rw [wr (by omega) (by omega), drop_rd a j h0 (by omega), drop_rd b j h0 (by omega)]
    by_cases c : rd a j = rd b j
    · refine evPos c (evTo (ih _ (by omega) (by omega)) ?_)
      simp [c]
    · refine evNeg c (evEq ?_)
      simp [c]
theorem slicesEqual_ev (a b : List Int) (hn : a.length ≤ 35184372088832) : Ev (fun k => slices_Equal_int_int.f k a b) (decide (a = b)) := by
  unfold slices_Equal_int_int.f
  by_cases hb : a.length = b.length
  · exact evPos (by omega) (slicesEqual_l0 a b hn hb a.length 0 (by omega) (by simp))
  · refine evNeg (by omega) (evEq ?_)
    exact (decide_eq_false (fun e => hb (by rw [e]))).symm
theorem slicesEqualB_l0 (a b : List Bool) (hn : a.length ≤ 35184372088832) (hb : a.length = b.length) : ∀ (d : Nat) (j : Int), 0 ≤ j → j.toNat + d = a.length →
    Ev (fun k => slices_Equal_bool_bool.l0 k a b (a.length : Int) j) (decide (a.drop j.toNat = b.drop j.toNat)) := by
  intro d
  induction d with
  | zero =>
    intro j h0 hd
    refine Ev.step (fun k => by rw [slices_Equal_bool_bool.l0]) ?_
    refine evNeg (by omega) ?_
    rw [drop_end a j (by omega), drop_end b j (by omega)]
    exact evEq rfl
  | succ d ih =>
    intro j h0 hd
    refine Ev.step (fun k => by rw [slices_Equal_bool_bool.l0]) ?_
    refine evPos (by omega) (evPos (by omega) (evPos (by omega) (evPos (by omega) ?_)))
    rw [wr (by omega) (by omega), dropD false a j h0 (by omega), dropD false b j h0 (by omega), show rdOf false a j = a.getD j.toNat false from rfl, show rdOf false b j = b.getD j.toNat false from rfl]
    by_cases c : a.getD j.toNat false = b.getD j.toNat false
    · refine evNeg (by rw [c]; simp) (evTo (ih _ (by omega) (by omega)) ?_)
      simp only [c, List.cons.injEq, true_and]
    · refine evPos (by simpa using c) (evEq ?_)
      simp only [List.cons.injEq, c, false_and, decide_false]
theorem slicesEqualB_ev (a b : List Bool) (hn : a.length ≤ 35184372088832) : Ev (fun k => slices_Equal_bool_bool.f k a b) (decide (a = b)) := by
  unfold slices_Equal_bool_bool.f
  by_cases hb : a.length = b.length
  · exact evPos (by omega) (slicesEqualB_l0 a b hn hb a.length 0 (by omega) (by simp))
  · refine evNeg (by omega) (evEq ?_)
    exact (decide_eq_false (fun e => hb (by rw [e]))).symm
theorem Focus_same_ev (a b : List Int) (u : List Bool) (p a' b' : List Int) (u' : List Bool) (p' : List Int) (h0 : a.length ≤ 35184372088832) (h1 : b.length ≤ 35184372088832) (h2 : u.length ≤ 35184372088832) (h3 : p.length ≤ 35184372088832) :
    Ev (fun k => impl_Focus_same.f k a b u p a' b' u' p') (decide ((a, b, u, p) = (a', b', u', p'))) := by
  unfold impl_Focus_same.f
  refine Ev.bind (slicesEqual_ev a a' h0) ?_
  by_cases c0 : a = a'
  · refine evPos (decide_eq_true c0) (Ev.bind (slicesEqual_ev b b' h1) ?_)
    by_cases c1 : b = b'
    · refine evPos (decide_eq_true c1) (Ev.bind (slicesEqualB_ev u u' h2) ?_)
      by_cases c2 : u = u'
      · refine evPos (decide_eq_true c2) (Ev.bind (slicesEqual_ev p p' h3) (evEq ?_))
        subst c0 c1 c2
        simp only [Prod.mk.injEq, true_and]
      · refine evNeg (by simpa using c2) (evEq ?_)
        exact (decide_eq_false (fun e => c2 (by injection e with _ e; injection e with _ e; injection e))).symm
    · refine evNeg (by simpa using c1) (evEq ?_)
      exact (decide_eq_false (fun e => c1 (by injection e with _ e; injection e))).symm
  · refine evNeg (by simpa using c0) (evEq ?_)
    exact (decide_eq_false (fun e => c0 (by injection e))).symm
theorem IsFocus_ev (b d : List Int) (u : List Bool) (p : List Int) (h0 : b.length ≤ 1048576) (h1 : d.length ≤ 1048576) (h2 : u.length ≤ 1048576) (h3 : p.length ≤ 1048576) : Ev (fun k => impl_IsFocus.f k b d u p) (gF b d u p) := by
  unfold impl_IsFocus.f gF
  refine Ev.bind (areFocusBases_ev b (by omega)) ?_
  by_cases c : fob b = true
  · obtain ⟨q1, q2, q3⟩ := fob_of c
    refine evPos c (Ev.bind (areDigits_ev b d q2 q1 (by omega)) ?_)
    rw [c, Bool.true_and]
    by_cases ca : all2 b d = true
    · obtain ⟨hk, hb⟩ := csOf_ok c
      obtain ⟨m1, m2⟩ := mr_range b d (all2_len b d ca) (all2_at b d ca)
      have hm := mixedRank_ev b d q2 q1 q3 ca
      have hp := prodI_bs (csOf b)
      rw [hb] at hp
      have hf := focusAt_ev (csOf b) hk (mr b d).toNat (by omega) (by omega)
      rw [hb, Int.toNat_of_nonneg m1] at hf
      rw [ca, Bool.true_and]
      refine evPos rfl (Ev.bind hm (Ev.bind hf (Ev.bind (Focus_same_ev b d u p _ _ _ _ (by omega) (by omega) (by omega) (by omega)) (evEq ?_))))
      simp only [Prod.mk.injEq, true_and]
    · refine evNeg ca (evEq ?_)
      simp [ca]
  · refine evNeg c (evEq ?_)
    simp [c]
theorem Focus_own_eq (b d : List Int) (u : List Bool) (p : List Int) (hu : u.length ≤ 1048576) (hb : b.length ≤ 1048576) (hd : d.length ≤ 1048576) (hp : p.length ≤ 1048576) : impl_Focus_own.f b d u p = some (b, d, u, p) := by
  unfold impl_Focus_own.f
  rw [copied_eq b (by omega), copied_eq d (by omega), copied_eq p (by omega)]
  simp only [Option.bind_some]
  rw [if_pos (by simp; omega)]
  rfl
theorem StepFocus_st (cs : List Nat) (hk : Ok cs) (hf : fob (bs cs) = true) (r : Nat) (hr : r + 1 < prod cs) : Ev (fun k => impl_StepFocus.f k (bs cs) (st cs r).d (st cs r).u (st cs r).p) (bs cs, (st cs (r + 1)).d, (st cs (r + 1)).u, (st cs (r + 1)).p, (cs.length : Int) - 1 - ((fa cs r : Nat) : Int), true) := by
  have l3 := st_lens cs r
  have hl := bs_length cs
  have hln := hk.len
  have hfa := (last_rank cs hk r (by omega)).2 hr
  have hi := IsFocus_ev (bs cs) (st cs r).d (st cs r).u (st cs r).p (by omega) (by omega) (by omega) (by omega)
  rw [gF_st cs hk hf r (by omega)] at hi
  have hw := Focus_own_eq (bs cs) (st cs r).d (st cs r).u (st cs r).p (by omega) (by omega) (by omega) (by omega)
  have hj : rd (st cs r).p 0 = ((fa cs r : Nat) : Int) := st_head cs r
  unfold impl_StepFocus.f
  refine Ev.bind hi (evPos rfl (Ev.bind (evOk hw) (evNeg (by dsimp only; rw [hj]; omega) (Ev.bind (evOk (stepF_st cs hk r hfa)) (evEq ?_)))))
  simp only [Prod.mk.injEq, true_and, and_true]
  rw [hl, wr (x := (cs.length : Int) - 1) (by omega) (by omega), wr (by omega) (by omega)]
theorem cur_rank (l : List Int) (hl : Byt l) (a s n : Int) (h0 : 0 ≤ a) (h1 : a ≤ 700000000000) : ∃ r a' s', spec_l1Cur_rank.f l a s n = some (r, a', s') ∧ a ≤ a' ∧ a' ≤ a + 10 := by
  unfold spec_l1Cur_rank.f
  obtain ⟨v, a1, s1, e, h2, h3, h4, h5⟩ := cur_pick l hl a s 12 h0 (by omega)
  rw [e]
  simp only [Option.bind_some]
  by_cases c : v = 0
  · rw [if_pos c]
    obtain ⟨v4, a4, s4, e4, g5, g6, g7⟩ := cur_among l hl a1 s1 [-1, n, wrap64 (n + 1), 4611686018427387904] (by simp) (by omega) (by omega)
    rw [e4]
    simp only [Option.bind_some]
    exact ⟨_, _, _, rfl, by omega, by omega⟩
  rw [if_neg c]
  by_cases c2 : v = 1
  · rw [if_pos c2]; exact ⟨_, _, _, rfl, by omega, by omega⟩
  rw [if_neg c2]
  by_cases c3 : v = 2
  · rw [if_pos c3]; exact ⟨_, _, _, rfl, by omega, by omega⟩
  rw [if_neg c3]
  by_cases c4 : n < 2
  · rw [if_pos c4]; exact ⟨_, _, _, rfl, by omega, by omega⟩
  rw [if_neg c4]
  obtain ⟨v2, a2, s2, e2, g1, g2, g3, g4⟩ := cur_pick l hl a1 s1 60000 (by omega) (by omega)
  rw [e2]
  simp only [Option.bind_some]
  obtain ⟨v3, a3, s3, e3, g5, g6, g7, g8⟩ := cur_pick l hl a2 s2 60000 (by omega) (by omega)
  rw [e3]
  simp only [Option.bind_some]
  rw [if_neg (by omega)]
  exact ⟨_, _, _, rfl, by omega, by omega⟩
theorem raProduct_any0 (xs : List Int) (hn : xs.length ≤ 1000) : ∀ (d : Nat) (n j : Int), 0 ≤ j → j.toNat + d = xs.length → ∃ v, Ev (fun k => spec_raProduct.l0 k n xs (xs.length : Int) j) v := by
  intro d
  induction d with
  | zero =>
    intro n j h0 hd
    exact ⟨n, Ev.step (fun k => by rw [spec_raProduct.l0]) (by exact evNeg (by omega) (Ev.now _))⟩
  | succ d ih =>
    intro n j h0 hd
    by_cases c : wrap64 (n * rd xs j) > 1000000
    · exact ⟨_, Ev.step (fun k => by rw [spec_raProduct.l0]) (by exact evPos (by omega) (evPos h0 (evPos (by omega) (evPos c (Ev.now _)))))⟩
    · obtain ⟨v, h⟩ := ih (wrap64 (n * rd xs j)) (j + 1) (by omega) (by omega)
      refine ⟨v, Ev.step (fun k => by rw [spec_raProduct.l0]) ?_⟩
      refine evPos (by omega) (evPos h0 (evPos (by omega) (evNeg c ?_)))
      rw [wr (x := j + 1) (by omega) (by omega)]
      exact h
theorem drawFocusAt_ev (l : List Int) (hl : Byt l) : ∃ ys r, Ev (fun k => spec_DrawFocusAt.f k l) (ys, r) ∧ ys.length ≤ 1000 := by
  unfold spec_DrawFocusAt.f
  obtain ⟨ys, a1, s1, h, hy, j1, j2⟩ := cur_small l hl 0 0 (by omega) (by omega)
  obtain ⟨v, hv⟩ := raProduct_any0 ys hy ys.length 1 0 (by omega) (by simp)
  obtain ⟨r, a2, s2, e, i1, i2⟩ := cur_rank l hl a1 s1 v (by omega) (by omega)
  exact ⟨ys, r, Ev.bind h (Ev.bind (by unfold spec_raProduct.f; exact hv) (Ev.bind (evOk e) (Ev.now _))), hy⟩
theorem foAt_l0 (cs : List Nat) (h : Ok cs) : ∀ (m r : Nat), r + m < prod cs → m ≤ 10000 →
    Ev (fun k => spec_foAt.l0 k (m : Int) (bs cs) (st cs r).d (st cs r).u (st cs r).p) (bs cs, (st cs (r + m)).d, (st cs (r + m)).u, (st cs (r + m)).p, true) := by
  intro m
  induction m with
  | zero =>
    intro r hr hm
    refine Ev.step (fun k => by rw [spec_foAt.l0]) ?_
    exact evNeg (by omega) (Ev.now _)
  | succ m ih =>
    intro r hr hm
    refine Ev.step (fun k => by rw [spec_foAt.l0]) ?_
    refine evPos (by omega) ?_
    have c := (last_rank cs h r (by omega)).2 (by omega)
    rw [foStep_go cs h r c]
    refine evSome (evNeg (by dsimp only; omega) ?_)
    dsimp only
    rw [wr (by omega) (by omega), show ((m + 1 : Nat) : Int) - 1 = (m : Int) from by omega, show r + (m + 1) = r + 1 + m from by omega]
    exact ih (r + 1) (by omega) (by omega)
theorem foAt_ev (cs : List Nat) (h : Ok cs) (m : Nat) (hm : m ≤ 10000) (hp : m < prod cs) : Ev (fun k => spec_foAt.f k (bs cs) (m : Int)) (bs cs, (st cs m).d, (st cs m).u, (st cs m).p, true) := by
  unfold spec_foAt.f
  have hs := foStart_ev (bs cs) (by rw [bs_length]; have := h.len; omega)
  rw [stF_st cs h] at hs
  have := foAt_l0 cs h m 0 (by omega) hm
  rw [Nat.zero_add] at this
  exact Ev.bind hs this
theorem uBools_l0 (a : List Bool) (hn : a.length ≤ 35184372088832) : ∀ (d : Nat) (j : Int), 0 ≤ j → j.toNat + d = a.length → Ev (fun k => laws_uBools.l0 k a a (a.length : Int) j) true := by
  intro d
  induction d with
  | zero =>
    intro j h0 hd
    exact Ev.step (fun k => by rw [laws_uBools.l0]) (evNeg (by omega) (Ev.now _))
  | succ d ih =>
    intro j h0 hd
    refine Ev.step (fun k => by rw [laws_uBools.l0]) (evPos (by omega) (evPos h0 (evPos (by omega) (evPos (by omega) (evNeg (by simp) ?_)))))
    rw [wr (by omega) (by omega)]
    exact ih (j + 1) (by omega) (by omega)
theorem uBools_self (a : List Bool) (hn : a.length ≤ 35184372088832) : Ev (fun k => laws_uBools.f k a a) true := by
  unfold laws_uBools.f
  exact evPos rfl (uBools_l0 a hn a.length 0 (by omega) (by simp))
theorem uFocus_self (a b : List Int) (c : List Bool) (d : List Int) (ha : a.length ≤ 2000000) (hb : b.length ≤ 2000000) (hc : c.length ≤ 2000000) (hd : d.length ≤ 2000000) : Ev (fun k => laws_uFocus.f k a b c d a b c d) true := by
  unfold laws_uFocus.f
  exact Ev.bind (uSame_self a (by omega)) (evPos rfl (Ev.bind (uSame_self b (by omega)) (evPos rfl (Ev.bind (uBools_self c (by omega)) (evPos rfl (Ev.bind (uSame_self d (by omega)) (Ev.now _)))))))
theorem prodI_drop : ∀ (n : Nat) (B : List Int), (∀ x ∈ B, 2 ≤ x ∧ x ≤ 12) → prodI (B.drop n) ≤ prodI B
  | 0, B, _ => by simp
  | n + 1, [], _ => by simp
  | n + 1, b :: B, h => by
    have h1 := prodI_drop n B (fun x hx => h x (by simp [hx]))
    have h2 := tail_le (h b (by simp)).1 (prodI_pos B (fun x hx => h x (by simp [hx])))
    rw [List.drop_succ_cons, prodI]
    omega
theorem mixedAt_l0 (B : List Int) (hx : ∀ x ∈ B, 2 ≤ x ∧ x ≤ 12) (hl : B.length ≤ 12) (hp : prodI B ≤ 5040) : ∀ (d : Nat) (j : Int) (out : List Int) (r : Int), 0 ≤ j → j.toNat + d = B.length → out.length + d ≤ 1000 → 0 ≤ r → r < prodI (B.drop j.toNat) →
    Ev (fun k => impl_mixedAt.l0 k B r out B (B.length : Int) j) (out ++ md (B.drop j.toNat) r) := by
  intro d
  induction d with
  | zero =>
    intro j out r h0 hd ho hr0 hr
    refine Ev.step (fun k => by rw [impl_mixedAt.l0]) ?_
    refine evNeg (by omega) (evEq ?_)
    rw [List.drop_of_length_le (by omega), md, List.append_nil]
  | succ d ih =>
    intro j out r h0 hd ho hr0 hr
    have e := drop_rd B j h0 (by omega)
    have hb : rd B j ∈ B := by rw [rd_get B j (by omega)]; exact List.getElem_mem _
    have hbb := hx _ hb
    have hxs : ∀ x ∈ B.drop (j + 1).toNat, 2 ≤ x ∧ x ≤ 12 := fun x hx' => hx x (List.mem_of_mem_drop hx')
    have hP0 := prodI_pos (B.drop (j + 1).toNat) hxs
    have hP1 := prodI_drop (j + 1).toNat B hx
    rw [e, prodI] at hr
    have hq0 : 0 ≤ r / prodI (B.drop (j + 1).toNat) := Int.ediv_nonneg hr0 (by omega)
    have hq1 : r / prodI (B.drop (j + 1).toNat) < rd B j := Int.ediv_lt_of_lt_mul (by omega) hr
    have hm0 := Int.emod_nonneg r (show prodI (B.drop (j + 1).toNat) ≠ 0 by omega)
    have hm1 := Int.emod_lt_of_pos r (show 0 < prodI (B.drop (j + 1).toNat) by omega)
    have hs := size_ev (B.drop (j + 1).toNat) (by rw [List.length_drop]; omega) hxs
    rw [capI_of _ hxs (by omega)] at hs
    refine Ev.step (fun k => by rw [impl_mixedAt.l0]) ?_
    refine evPos (by omega) (evPos h0 (evPos (by omega) ?_))
    rw [wr (x := j + 1) (by omega) (by omega)]
    refine evPos (by omega) (evPos (by omega) (Ev.bind hs (evNeg (by omega) ?_)))
    rw [Int.tdiv_eq_ediv_of_nonneg hr0, Int.tmod_eq_emod_of_nonneg hr0]
    generalize hP : prodI (B.drop (j + 1).toNat) = P at *
    generalize hq : r / P = q at *
    have w1 : wrap64 q = q := wr (by omega) (by omega)
    have w2 : wrap64 (rd B j - 1) = rd B j - 1 := wr (by omega) (by omega)
    have hmn : mn q (rd B j - 1) = q := by unfold mn; omega
    rw [w1, w2, hmn, Int.tmod_eq_emod_of_nonneg hq0]
    have eo : ∀ R : Int, (out ++ [q]) ++ md (B.drop (j + 1).toNat) R = out ++ (q :: md (B.drop (j + 1).toNat) R) := fun R => by simp
    have em : md (B.drop j.toNat) r = q :: md (B.drop (j + 1).toNat) (if q % 2 = 1 then P - 1 - r % P else r % P) := by rw [e, md, hP, hq]
    by_cases c : q % 2 = 1
    · refine evPos c (evPos (by omega) ?_)
      rw [wr (x := P - 1) (by omega) (by omega), wr (by omega) (by omega)]
      refine evTo (ih (j + 1) (out ++ [q]) _ (by omega) (by omega) (by simp; omega) (by omega) (by rw [hP]; omega)) ?_
      rw [eo, em, if_pos c]
    · refine evNeg c (evPos (by omega) ?_)
      refine evTo (ih (j + 1) (out ++ [q]) _ (by omega) (by omega) (by simp; omega) (by omega) (by rw [hP]; omega)) ?_
      rw [eo, em, if_neg c]
theorem MixedAt_st (cs : List Nat) (hk : Ok cs) (hf : fob (bs cs) = true) (r : Nat) (hr : r < prod cs) : Ev (fun k => impl_MixedAt.f k (bs cs) (r : Int)) ((st cs r).d, true) := by
  obtain ⟨q1, q2, q3⟩ := fob_of hf
  have hb := prodI_bs cs
  have hs := size_ev (bs cs) (by omega) q2
  rw [capI_of _ q2 (by omega), hb] at hs
  have hm := mixedAt_l0 (bs cs) q2 q1 q3 (bs cs).length 0 [] (r : Int) (by omega) (by simp) (by simp; omega) (by omega) (by simp only [Int.toNat_zero, List.drop_zero]; rw [hb]; exact_mod_cast hr)
  simp only [Int.toNat_zero, List.drop_zero, List.nil_append] at hm
  rw [md_st cs hk r hr] at hm
  unfold impl_MixedAt.f impl_mixedAt.f
  simp only [within_eq]
  refine Ev.bind (areBases_fob _ hf) (evPos rfl (Ev.bind hs (evSome (evPos ?_ (Ev.bind hm (Ev.now _))))))
  rw [wr (by omega) (by omega), decide_eq_true_eq]
  omega
theorem FocusRank_st (cs : List Nat) (hk : Ok cs) (hf : fob (bs cs) = true) (r : Nat) (hr : r < prod cs) : Ev (fun k => impl_FocusRank.f k (bs cs) (st cs r).d (st cs r).u (st cs r).p) ((r : Int), true) := by
  have l3 := st_lens cs r
  have hl := bs_length cs
  have hln := hk.len
  obtain ⟨q1, q2, q3⟩ := fob_of hf
  have e : mr (bs cs) (st cs r).d = r := mr_gd cs r hk.rad hr
  have hi := IsFocus_ev (bs cs) (st cs r).d (st cs r).u (st cs r).p (by omega) (by omega) (by omega) (by omega)
  rw [gF_st cs hk hf r hr] at hi
  have hm := mixedRank_ev (bs cs) (st cs r).d q2 q1 q3 (st_all2 cs hk.rad r)
  rw [e] at hm
  unfold impl_FocusRank.f
  exact Ev.bind hi (evPos rfl (Ev.bind hm (Ev.now _)))
theorem runsJ7 (x28 : List Int) (x29 : Int) (a b : List Int) (c : List Bool) (d : List Int) : Ev (fun k => laws_FnFocusRuns.j7 k x28 x29 false false a b c d) true :=
  Ev.step (fun k => by rw [laws_FnFocusRuns.j7]) (by exact evNeg (by simp) (evNeg (by simp) (Ev.now _)))
theorem runsJ6 (l : List Int) (hl : Byt l) : Ev (fun k => laws_FnFocusRuns.j6 k l) true := by
  obtain ⟨b, r, hd, hb⟩ := drawFocusAt_ev l hl
  refine Ev.step (fun k => by rw [laws_FnFocusRuns.j6]) ?_
  refine Ev.bind hd ?_
  have h1 := foBases_ev b (by omega)
  have h2 := areFocusBases_ev b (by omega)
  unfold impl_FocusAt.f spec_FocusAt.f
  simp only [l1In_eq, within_eq]
  by_cases c : fob b = true
  rotate_left
  · refine Ev.bind (Ev.bind h2 (evNeg c (Ev.now _))) (Ev.bind (Ev.bind h1 (evNeg c (Ev.now _))) (evNeg (by simp) (Ev.bind (uFocus_self [] [] [] [] (by simp) (by simp) (by simp) (by simp)) ?_)))
    exact runsJ7 b r [] [] [] []
  obtain ⟨q1, q2, q3⟩ := fob_of c
  obtain ⟨cs, hk, hb2⟩ := ok_of c
  have hpp := prod_pos cs hk.rad
  have hln := hk.len
  have e5 := prodI_bs cs
  rw [hb2] at e5
  have h3 := raProduct_ev b (by omega) q2
  have h4 := size_ev b (by omega) q2
  rw [capI_of b q2 (by omega), e5] at h4
  rw [prS_of b 1 q2 (by omega) (by omega), Int.one_mul, e5] at h3
  by_cases ca : 0 ≤ r ∧ r ≤ (prod cs : Int) - 1
  rotate_left
  · refine Ev.bind (Ev.bind h2 (evPos c (Ev.bind h4 (evSome (evNeg (by rw [wr (by omega) (by omega)]; simpa using ca) (Ev.now _)))))) (Ev.bind (Ev.bind h1 (evPos c (Ev.bind h3 (evSome (evNeg (by rw [wr (by omega) (by omega)]; simpa using ca) (Ev.now _)))))) (evNeg (by simp) (Ev.bind (uFocus_self [] [] [] [] (by simp) (by simp) (by simp) (by simp)) ?_)))
    exact runsJ7 b r [] [] [] []
  obtain ⟨m, rfl⟩ := Int.eq_ofNat_of_zero_le ca.1
  have l3 := st_lens cs m
  have hl := bs_length cs
  have hm : m < prod cs := by omega
  have g1 := focusAt_ev cs hk m (by omega) hm
  have g2 := foAt_ev cs hk m (by omega) hm
  subst hb2
  refine Ev.bind (Ev.bind h2 (evPos c (Ev.bind h4 (evSome (evPos (by rw [wr (by omega) (by omega)]; simpa using ca) (Ev.bind g1 (Ev.now _))))))) (Ev.bind (Ev.bind h1 (evPos c (Ev.bind h3 (evSome (evPos (by rw [wr (by omega) (by omega)]; simpa using ca) (Ev.bind g2 (Ev.now _))))))) (evNeg (by simp) (Ev.bind (uFocus_self (bs cs) (st cs m).d (st cs m).u (st cs m).p (by omega) (by omega) (by omega) (by omega)) ?_)))
  refine Ev.step (fun k => by rw [laws_FnFocusRuns.j7]) (by exact evNeg (by simp) (evPos rfl (Ev.bind (MixedAt_st cs hk c m hm) (Ev.bind (FocusRank_st cs hk c m hm) (evPos rfl (Ev.bind (uSame_self _ (by (try dsimp only); omega)) (evPos rfl (evPos rfl (evEq (by simp))))))))))
theorem runsL2 (l1 : List Int) (y1 : Byt l1) (cs : List Nat) (hk : Ok cs) (hf : fob (bs cs) = true) (m : Nat) (hm : m ≤ 10000) : ∀ (d j : Nat), j + d = (run cs 0 m).length →
    Ev (fun k => laws_FnFocusRuns.l2 k l1 true (run cs 0 m) ((run cs 0 m).length : Int) (j : Int) (bs cs) (st cs j).d (st cs j).u (st cs j).p) true := by
  intro d
  have hrl := run_len cs hk m 0 (prod_pos cs hk.rad)
  induction d with
  | zero =>
    intro j hj
    exact Ev.step (fun k => by rw [laws_FnFocusRuns.l2]) (by exact evNeg (by omega) (runsJ6 l1 y1))
  | succ d ih =>
    intro j hj
    refine Ev.step (fun k => by rw [laws_FnFocusRuns.l2]) ?_
    refine evPos (by omega) (evPos (by omega) (evPos (by omega) ?_))
    by_cases c : (j : Int) = 60
    · exact evPos c (runsJ6 l1 y1)
    refine evNeg c (Ev.bind (StepFocus_st cs hk hf j (by omega)) (evPos rfl (evPos rfl (evPos ?_ ?_))))
    · obtain ⟨g1, g2⟩ := run_get cs m 0 j (by omega)
      rw [Nat.zero_add] at g2
      unfold rd
      rw [Int.toNat_natCast, getD_get _ _ _ (by omega), g2]
    · dsimp only
      rw [wr (by omega) (by omega), show (j : Int) + 1 = ((j + 1 : Nat) : Int) from by omega]
      exact ih (j + 1) (by omega)
theorem runsL1 (l1 : List Int) (y1 : Byt l1) (cs : List Nat) (hk : Ok cs) (hf : fob (bs cs) = true) (m : Nat) (hm : m ≤ 10000) (T : List Int) (hT : T.length ≤ 1000) (hT0 : ∀ y ∈ T, 0 ≤ y) (hS : sumI T = (prod cs : Int) - 1) (hp : prod cs ≤ 5040) : ∀ (d : Nat) (j x : Int), 0 ≤ j → j.toNat + d = T.length → 0 ≤ x → x + sumI (T.drop j.toNat) = (prod cs : Int) - 1 →
    Ev (fun k => laws_FnFocusRuns.l1 k l1 (bs cs) (run cs 0 m) (prod cs : Int) x T (T.length : Int) j) true := by
  intro d
  have hln := hk.len
  have hl := bs_length cs
  have hz : ∀ (L : List Int), (∀ y ∈ L, 0 ≤ y) → 0 ≤ sumI L := by
    intro L
    induction L with
    | nil => intro _; simp [sumI]
    | cons y t ih => intro h; have := ih (fun z hz => h z (by simp [hz])); have := h y (by simp); rw [sumI]; omega
  induction d with
  | zero =>
    intro j x h0 hd hx hs
    rw [List.drop_of_length_le (by omega), sumI] at hs
    refine Ev.step (fun k => by rw [laws_FnFocusRuns.l1]) ?_
    refine evNeg (by omega) (evPos (by rw [wr (by omega) (by omega)]; omega) ?_)
    unfold impl_StartFocus.f
    have h2 := areFocusBases_ev (bs cs) (by omega)
    have h3 := startFocus_ev (bs cs) (by omega)
    rw [stF_st cs hk] at h3
    exact Ev.bind (Ev.bind h2 (evPos hf (Ev.bind h3 (Ev.now _)))) (runsL2 l1 y1 cs hk hf m hm (run cs 0 m).length 0 (by omega))
  | succ d ih =>
    intro j x h0 hd hx hs
    have e := drop_rd T j h0 (by omega)
    have hy : rd T j ∈ T := by rw [rd_get T j (by omega)]; exact List.getElem_mem _
    have hy0 := hT0 _ hy
    have hr0 := hz (T.drop (j + 1).toNat) (fun y hy => hT0 y (List.mem_of_mem_drop hy))
    rw [e, sumI] at hs
    refine Ev.step (fun k => by rw [laws_FnFocusRuns.l1]) ?_
    refine evPos (by omega) (evPos h0 (evPos (by omega) ?_))
    rw [wr (x := x + rd T j) (by omega) (by omega), wr (by omega) (by omega)]
    exact ih (j + 1) _ (by omega) (by omega) (by omega) (by omega)
theorem runsL0 (l1 : List Int) (y1 : Byt l1) (cs : List Nat) (hk : Ok cs) (hf : fob (bs cs) = true) (m : Nat) (hm : m ≤ 5040) (T : List Int) (hT : T.length ≤ 1000) (hT0 : ∀ y ∈ T, 0 ≤ y) (hS : sumI T = (prod cs : Int) - 1) : ∀ (d : Nat) (j x : Int), 0 ≤ j → j.toNat + d = (bs cs).length → 1 ≤ x → x * prodI ((bs cs).drop j.toNat) = (prod cs : Int) →
    Ev (fun k => laws_FnFocusRuns.l0 k l1 (bs cs) (m : Int) (run cs 0 m) T x (bs cs) ((bs cs).length : Int) j) true := by
  intro d
  obtain ⟨q1, q2, q3⟩ := fob_of hf
  have e5 := prodI_bs cs
  have hln := hk.len
  have hl := bs_length cs
  have hpp := prod_pos cs hk.rad
  have hrl := run_len cs hk m 0 hpp
  induction d with
  | zero =>
    intro j x h0 hd hx hs
    rw [List.drop_of_length_le (by omega), prodI, Int.mul_one] at hs
    subst hs
    have hj3 : Ev (fun k => laws_FnFocusRuns.j3 k l1 (bs cs) (run cs 0 m) T (prod cs : Int) false) true :=
      Ev.step (fun k => by rw [laws_FnFocusRuns.j3]) (by exact evNeg (by simp) (runsL1 l1 y1 cs hk hf m (by omega) T hT hT0 hS (by omega) T.length 0 0 (by omega) (by simp) (by omega) (by simpa using hS)))
    have hw : wrap64 ((prod cs : Int) - 1) = (prod cs : Int) - 1 := wr (by omega) (by omega)
    refine Ev.step (fun k => by rw [laws_FnFocusRuns.l0]) ?_
    refine evNeg (by omega) ?_
    rw [hw]
    by_cases c : (m : Int) < (prod cs : Int) - 1
    · exact evPos c (evPos (by omega) (evNeg (by omega) hj3))
    · refine evNeg c (evPos (by omega) ?_)
      rw [show (((run cs 0 m).length : Int) != (prod cs : Int) - 1) = false from by rw [bne_eq_false_iff_eq]; omega]
      exact hj3
  | succ d ih =>
    intro j x h0 hd hx hs
    have e := drop_rd (bs cs) j h0 (by omega)
    have hb : rd (bs cs) j ∈ bs cs := by rw [rd_get _ j (by omega)]; exact List.getElem_mem _
    have hbb := q2 _ hb
    have hP := prodI_pos ((bs cs).drop (j + 1).toNat) (fun y hy => q2 y (List.mem_of_mem_drop hy))
    rw [e, prodI, ← Int.mul_assoc] at hs
    have hxb : x * 2 ≤ x * rd (bs cs) j := Int.mul_le_mul_of_nonneg_left hbb.1 (by omega)
    have h1 : x * rd (bs cs) j * 1 ≤ x * rd (bs cs) j * prodI ((bs cs).drop (j + 1).toNat) := Int.mul_le_mul_of_nonneg_left hP (by omega)
    refine Ev.step (fun k => by rw [laws_FnFocusRuns.l0]) ?_
    refine evPos (by omega) (evPos h0 (evPos (by omega) ?_))
    rw [wr (x := x * rd (bs cs) j) (by omega) (by omega), wr (by omega) (by omega)]
    exact ih (j + 1) _ (by omega) (by omega) (by omega) hs
theorem FnFocusRuns : laws_FnFocusRuns.Pure := by
  intro l0 l1 hm0 hb0 hw0 hm1 hb1 hw1
  refine Ev.rounds (g := fun q => laws_FnFocusRuns.f q l0 l1) ?_
  unfold laws_FnFocusRuns.f
  obtain ⟨t, ht, hbig⟩ := big_eq l0 l1
  rw [ht]
  refine evSome ?_
  cases t
  rotate_left
  · exact evPos rfl (Ev.now _)
  obtain ⟨q0, q1⟩ := hbig rfl
  have y0 := byt_of q0 hw0
  have y1 := byt_of q1 hw1
  refine evNeg (by simp) ?_
  obtain ⟨b, m, hd, hbl⟩ := drawRunFocus_ev l0 y0
  refine Ev.bind hd ?_
  have h1 := foBases_ev b (by omega)
  have h2 := areFocusBases_ev b (by omega)
  by_cases c : fob b = true
  rotate_left
  · have hs : Ev (fun k => spec_RunFocus.f k b m) ([], false) := by
      unfold spec_RunFocus.f
      exact Ev.bind h1 (evNeg c (Ev.now _))
    have hi : Ev (fun k => impl_RunFocus.f k b m) ([], false) := by
      unfold impl_RunFocus.f
      exact Ev.bind h2 (evNeg c (Ev.now _))
    have ct : Ev (fun k => spec_CountTurns.f k b) ([], false) := by
      unfold spec_CountTurns.f
      exact Ev.bind h1 (evNeg c (Ev.now _))
    have ci : Ev (fun k => impl_CountTurns.f k b) ([], false) := by
      unfold impl_CountTurns.f
      exact Ev.bind h2 (evNeg c (Ev.now _))
    refine Ev.bind hi (Ev.bind hs (evNeg (by simp) (Ev.bind (uSame_self [] (by simp)) ?_)))
    refine Ev.step (fun k => by rw [laws_FnFocusRuns.j0]) ?_
    refine evNeg (by simp) (Ev.bind ci (Ev.bind ct (evNeg (by simp) (Ev.bind (uSame_self [] (by simp)) ?_))))
    exact Ev.step (fun k => by rw [laws_FnFocusRuns.j1]) (by exact evNeg (by simp) (evNeg (by simp) (runsJ6 l1 y1)))
  obtain ⟨cs, hk, hb2⟩ := ok_of c
  obtain ⟨f1, f2, f3⟩ := fob_of c
  have hpp := prod_pos cs hk.rad
  have hln := hk.len
  have hll := bs_length cs
  have e5 := prodI_bs cs
  subst hb2
  
  have hm := run_mem cs 5040 0
  have hr := run_len cs hk 5040 0 hpp
  have e1 := foRun_ev cs hk 5040 (by omega)
  have e2 := runFocus_ev cs hk 5040 (by omega)
  have e3 := counted_ev (bs cs).length (by omega) (run cs 0 5040) (by omega) (fun x hx => by have := hm x hx; omega)
  have e4 := CountTurnsS_l0 (run cs 0 5040) (by omega) (run cs 0 5040).length (List.replicate (bs cs).length 0) 0 (by omega) (by simp) (fun x h => by rw [List.length_replicate]; have := hm x h; omega) (fun y hy => by have := List.eq_of_mem_replicate hy; omega)
  have ct : Ev (fun k => spec_CountTurns.f k (bs cs)) (tally (List.replicate (bs cs).length 0) (run cs 0 5040), true) := by
    unfold spec_CountTurns.f
    refine Ev.bind h1 (evPos c (evPos (by omega) (evPos (by omega) (Ev.bind e1 ?_))))
    rw [Int.toNat_natCast]
    exact e4
  have ci : Ev (fun k => impl_CountTurns.f k (bs cs)) (tally (List.replicate (bs cs).length 0) (run cs 0 5040), true) := by
    unfold impl_CountTurns.f
    exact Ev.bind h2 (evPos c (Ev.bind e2 (Ev.bind e3 (Ev.now _))))
  have hTl : (tally (List.replicate (bs cs).length 0) (run cs 0 5040)).length ≤ 1000 := by rw [tally_length]; simp; omega
  have hT0 := tally_nonneg (run cs 0 5040) (List.replicate (bs cs).length 0) (fun y hy => by have := List.eq_of_mem_replicate hy; omega)
  have hTs := tally_sum (run cs 0 5040) (List.replicate (bs cs).length 0) (fun x hx => by rw [List.length_replicate]; have := hm x hx; omega)
  rw [sum_replicate] at hTs
  have tail : ∀ (R : List Int) (o : Bool), (o = true → 0 ≤ m ∧ m ≤ 5040 ∧ R = run cs 0 m.toNat) → Ev (fun k => laws_FnFocusRuns.j0 k l1 (bs cs) m R o false) true := by
    intro R o ho
    refine Ev.step (fun k => by rw [laws_FnFocusRuns.j0]) ?_
    refine evNeg (by simp) (Ev.bind ci (Ev.bind ct (evNeg (by simp) (Ev.bind (uSame_self _ (by (try dsimp only); omega)) ?_))))
    refine Ev.step (fun k => by rw [laws_FnFocusRuns.j1]) ?_
    refine evNeg (by simp) ?_
    cases o
    · exact evNeg (by simp) (runsJ6 l1 y1)
    · obtain ⟨m0, m1, rfl⟩ := ho rfl
      obtain ⟨M, rfl⟩ := Int.eq_ofNat_of_zero_le m0
      rw [Int.toNat_natCast]
      exact evPos rfl (runsL0 l1 y1 cs hk c M (by omega) _ hTl hT0 (by omega) (bs cs).length 0 1 (by omega) (by simp) (by omega) (by simp only [Int.toNat_zero, List.drop_zero]; omega))
  by_cases ca : 0 ≤ m ∧ m ≤ 5040
  · obtain ⟨M, rfl⟩ := Int.eq_ofNat_of_zero_le ca.1
    have hrl := run_len cs hk M 0 hpp
    have hs : Ev (fun k => spec_RunFocus.f k (bs cs) (M : Int)) (run cs 0 M, true) := by
      unfold spec_RunFocus.f
      simp only [l1In_eq]
      exact Ev.bind h1 (evPos c (evSome (evPos (by simpa using ca) (Ev.bind (foRun_ev cs hk M (by omega)) (Ev.now _)))))
    have hi : Ev (fun k => impl_RunFocus.f k (bs cs) (M : Int)) (run cs 0 M, true) := by
      unfold impl_RunFocus.f
      simp only [within_eq]
      exact Ev.bind h2 (evPos c (evSome (evPos (by simpa using ca) (Ev.bind (runFocus_ev cs hk M (by omega)) (Ev.now _)))))
    refine Ev.bind hi (Ev.bind hs (evNeg (by simp) (Ev.bind (uSame_self _ (by (try dsimp only); omega)) ?_)))
    exact tail _ true (fun _ => ⟨ca.1, ca.2, by rw [Int.toNat_natCast]⟩)
  · have hs : Ev (fun k => spec_RunFocus.f k (bs cs) m) ([], false) := by
      unfold spec_RunFocus.f
      simp only [l1In_eq]
      exact Ev.bind h1 (evPos c (evSome (evNeg (by simpa using ca) (Ev.now _))))
    have hi : Ev (fun k => impl_RunFocus.f k (bs cs) m) ([], false) := by
      unfold impl_RunFocus.f
      simp only [within_eq]
      exact Ev.bind h2 (evPos c (evSome (evNeg (by simpa using ca) (Ev.now _))))
    refine Ev.bind hi (Ev.bind hs (evNeg (by simp) (Ev.bind (uSame_self [] (by simp)) ?_)))
    exact tail [] false (fun h => by cases h)
end Go.Proofs.Ytapbbmicfkbafaa.Pure
