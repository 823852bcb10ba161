/- The pure statement of FnMoves: for all arguments that fit, the law as a Lean function answers true after enough rounds. -/
import Derived.Test.YtcpdgfmljhfbmaaMFnMovesx1
import Derived.Test.YtcpdgfmljhfbmaaMFnMovesx2
import Derived.Test.YtcpdgfmljhfbmaaMFnMovesx3
import Derived.Test.YtcpdgfmljhfbmaaMFnMovesx4
import Derived.Test.YtcpdgfmljhfbmaaMFnMovesx5
import Derived.Test.YtcpdgfmljhfbmaaMFnMovesx6
import Derived.Test.YtcpdgfmljhfbmaaMFnMovesx7
import Derived.Test.YtcpdgfmljhfbmaaMFnMovesx8
import Derived.Test.YtcpdgfmljhfbmaaMFnMovesx9
import Derived.Test.YtcpdgfmljhfbmaaBase
import Derived.Test.YtcpdgfmljhfbmaaMoves
import Derived.Test.YtcpdgfmljhfbmaaPerms
import Derived.Test.YtcpdgfmljhfbmaaSgn
import Derived.Test.YtcpdgfmljhfbmaaPmX
namespace Go.Proofs.Ytcpdgfmljhfbmaa.Pure
open Go.RowKit Go.Proofs.Ytcpdgfmljhfbmaa.MFnMoves Go.Proofs.YtcpdgfmljhfbmaaW.PrintWords Go.Proofs.YtcpdgfmljhfbmaaW.PrintLast Go.Proofs.Ytcpdgfmljhfbmaa.Base Go.Proofs.Ytcpdgfmljhfbmaa.Moves Go.Proofs.Ytcpdgfmljhfbmaa.Perms Go.Proofs.Ytcpdgfmljhfbmaa.Sgn Go.Proofs.Ytcpdgfmljhfbmaa.PmX
set_option linter.unusedVariables false
set_option linter.unusedSimpArgs false

/-! laws_big -/
theorem big_eq (a b : List Int) : ∃ t, laws_big.f a b = some t ∧ (t = false → a.length ≤ 1048576 ∧ b.length ≤ 1048576) := by
  unfold laws_big.f
  by_cases c : (a.length : Int) > 1048576
  · exact ⟨true, by rw [if_pos c], fun h => by cases h⟩
  · rw [if_neg c, wr (by omega) (by omega)]
    exact ⟨_, rfl, fun h => by have := of_decide_eq_false h; omega⟩
/-! spec_l1Cur_next -/
theorem u64_lt (x : Int) : 0 ≤ IntKind.u64.wrap x ∧ IntKind.u64.wrap x < 18446744073709551616 := by rw [IntKind.wrap_u64]; omega
theorem low8 (x : Int) : 0 ≤ wrap64 (Go.bits .and .u64 (IntKind.u64.wrap x / 1099511627776) 255) ∧ wrap64 (Go.bits .and .u64 (IntKind.u64.wrap x / 1099511627776) 255) ≤ 255 := by
  have hu := u64_lt x
  generalize IntKind.u64.wrap x = y at hu ⊢
  have h := Go.bits_mask .u64 63 (by decide) (fun n h0 h1 => by rw [IntKind.wrap_u64]; omega) 8 (by decide) (y / 1099511627776) (by omega) (by omega)
  have e : ((2 : Int) ^ 8 - 1) = 255 := by decide
  have e2 : ((2 : Int) ^ 8) = 256 := by decide
  rw [e, e2] at h
  rw [h, wr (by omega) (by omega)]
  omega
/-- The bytes of a reader. -/
def Byt (l : List Int) : Prop := l.length ≤ 2000000 ∧ ∀ x ∈ l, 0 ≤ x ∧ x ≤ 255
theorem byt_of {l : List Int} (h1 : l.length ≤ 1048576) (h2 : ∀ x ∈ l, (Lit.int .u8 x).wf = true) : Byt l := by
  refine ⟨by omega, fun x hx => ?_⟩
  have := h2 x hx
  simp [Lit.wf, IntKind.min, IntKind.max, IntKind.signed, IntKind.bits] at this
  omega
theorem cur_next (l : List Int) (hl : Byt l) (a s : Int) (h0 : 0 ≤ a) (h1 : a ≤ 1000000000000) : ∃ v s', spec_l1Cur_next.f l a s = some (v, a + 1, s') ∧ 0 ≤ v ∧ v ≤ 255 := by
  obtain ⟨hn, hb⟩ := hl
  unfold spec_l1Cur_next.f
  rw [wr (x := a + 1) (by omega) (by omega)]
  by_cases c : a < l.length
  · have hr := hb (rd l a) (by rw [rd_get l a (by omega)]; exact List.getElem_mem _)
    rw [if_pos c, if_pos h0, if_pos (by omega)]
    refine ⟨_, _, rfl, ?_⟩
    rw [wr (by omega) (by omega)]
    exact hr
  · rw [if_neg c, if_neg (by omega)]
    exact ⟨_, _, rfl, low8 _⟩
/-! spec_l1Cur_pick -/
theorem cur_pick (l : List Int) (hl : Byt l) (a s n : Int) (h0 : 0 ≤ a) (h1 : a ≤ 900000000000) : ∃ v a' s', spec_l1Cur_pick.f l a s n = some (v, a', s') ∧ a ≤ a' ∧ a' ≤ a + 2 ∧ 0 ≤ v ∧ (v = 0 ∨ v < n) := by
  unfold spec_l1Cur_pick.f
  by_cases c : n ≤ 1
  · rw [if_pos c]; exact ⟨_, _, _, rfl, by omega, by omega, by omega, .inl rfl⟩
  rw [if_neg c]
  obtain ⟨v, s', e, h2, h3⟩ := cur_next l hl a s h0 (by omega)
  rw [e]
  simp only [Option.bind_some]
  by_cases c2 : n > 200
  · rw [if_pos c2]
    obtain ⟨v2, s2, e2, h4, h5⟩ := cur_next l hl (a + 1) s' (by omega) (by omega)
    rw [e2]
    simp only [Option.bind_some]
    rw [if_neg (by omega), wr (x := v * 256) (by omega) (by omega), wr (by omega) (by omega)]
    exact ⟨_, _, _, rfl, by omega, by omega, Int.tmod_nonneg _ (by omega), .inr (Int.tmod_lt_of_pos _ (by omega))⟩
  · rw [if_neg c2, if_neg (by omega)]
    exact ⟨_, _, _, rfl, by omega, by omega, Int.tmod_nonneg _ (by omega), .inr (Int.tmod_lt_of_pos _ (by omega))⟩
/-! spec_l1Cur_one -/
theorem cur_one (l : List Int) (hl : Byt l) (a s n : Int) (h0 : 0 ≤ a) (h1 : a ≤ 900000000000) : ∃ b a' s', spec_l1Cur_one.f l a s n = some (b, a', s') ∧ a ≤ a' ∧ a' ≤ a + 2 := by
  unfold spec_l1Cur_one.f
  obtain ⟨v, a', s', e, h2, h3, h4, h5⟩ := cur_pick l hl a s n h0 h1
  rw [e]
  simp only [Option.bind_some]
  exact ⟨_, _, _, rfl, h2, h3⟩
/-! spec_l1Least -/
theorem least_eq (a b : Int) : spec_l1Least.f a b = some (if a < b then a else b) := by
  unfold spec_l1Least.f
  split <;> rfl
/-! spec_l1Cur_among -/
theorem cur_among (l : List Int) (hl : Byt l) (a s : Int) (xs : List Int) (hx : 0 < xs.length) (h0 : 0 ≤ a) (h1 : a ≤ 900000000000) : ∃ v a' s', spec_l1Cur_among.f l a s xs = some (v, a', s') ∧ a ≤ a' ∧ a' ≤ a + 2 ∧ v ∈ xs := by
  unfold spec_l1Cur_among.f
  obtain ⟨v, a', s', e, h2, h3, h4, h5⟩ := cur_pick l hl a s (xs.length : Int) h0 h1
  rw [e]
  simp only [Option.bind_some]
  rw [if_pos h4, if_pos (by omega)]
  refine ⟨_, _, _, rfl, h2, h3, ?_⟩
  rw [rd_get xs v (by omega)]
  exact List.getElem_mem _
/-! spec_l1Cur_order -/
theorem order_j1 (l : List Int) (hl : Byt l) (out : List Int) (b : Bool) (a s : Int) (ho : out.length ≤ 20) (hb : b = true → 0 < out.length) (h0 : 0 ≤ a) (h1 : a ≤ 700000000000) :
    ∃ r a' s', r.length ≤ 20 ∧ a ≤ a' ∧ a' ≤ a + 4 ∧ Ev (fun k => spec_l1Cur_order.j1 k out b l a s) (r, a', s') := by
  cases b
  · exact ⟨out, a, s, ho, by omega, by omega, Ev.step (fun k => by rw [spec_l1Cur_order.j1]) (evNeg (by simp) (Ev.now _))⟩
  · have hpos := hb rfl
    obtain ⟨v, a1, s1, e, g1, g2, g3, g4⟩ := cur_pick l hl a s (out.length : Int) h0 (by omega)
    obtain ⟨v2, a2, s2, e2, g5, g6, _⟩ := cur_among l hl a1 s1 [-1, 0, (out.length : Int), 4611686018427387904] (by simp) (by omega) (by omega)
    refine ⟨out.set v.toNat v2, a2, s2, by simpa using ho, by omega, by omega, Ev.step (fun k => by rw [spec_l1Cur_order.j1]) ?_⟩
    refine evPos rfl ?_
    rw [e]
    refine evSome ?_
    rw [e2]
    exact evSome (evPos g3 (evPos (by omega) (Ev.now _)))
theorem order_l0 (l : List Int) (hl : Byt l) (n : Int) : ∀ (d : Nat) (out : List Int) (a s : Int), out.length + d = 20 → 0 ≤ a → a + 2 * d + 20 ≤ 700000000000 →
    ∃ r a' s', r.length ≤ 20 ∧ a ≤ a' ∧ a' ≤ a + 2 * d + 20 ∧ Ev (fun k => spec_l1Cur_order.l0 k n out (out.length : Int) l a s) (r, a', s') := by
  have hend : ∀ (d : Nat) (out : List Int) (a s : Int), out.length ≤ 20 → 0 ≤ a → a + 2 * d + 20 ≤ 700000000000 → ¬ (out.length : Int) < (if n < 20 then n else 20) → ∃ r a' s', r.length ≤ 20 ∧ a ≤ a' ∧ a' ≤ a + 2 * d + 20 ∧ Ev (fun k => spec_l1Cur_order.l0 k n out (out.length : Int) l a s) (r, a', s') := by
    intro d out a s ho h1 h2 hc
    by_cases c : (out.length : Int) > 0
    · obtain ⟨b, a1, s1, e, g1, g2⟩ := cur_one l hl a s 25 h1 (by omega)
      obtain ⟨r, a', s', r1, r2, r3, hr⟩ := order_j1 l hl out b a1 s1 ho (fun _ => by omega) (by omega) (by omega)
      refine ⟨r, a', s', r1, by omega, by omega, Ev.step (fun k => by rw [spec_l1Cur_order.l0]) ?_⟩
      rw [least_eq]
      refine evSome (evNeg hc (evPos c ?_))
      rw [e]
      exact evSome hr
    · obtain ⟨r, a', s', r1, r2, r3, hr⟩ := order_j1 l hl out false a s ho (fun h => by cases h) (by omega) (by omega)
      refine ⟨r, a', s', r1, by omega, by omega, Ev.step (fun k => by rw [spec_l1Cur_order.l0]) ?_⟩
      rw [least_eq]
      exact evSome (evNeg hc (evNeg c hr))
  intro d
  induction d with
  | zero =>
    intro out a s hd h1 h2
    exact hend 0 out a s (by omega) h1 h2 (by split <;> omega)
  | succ d ih =>
    intro out a s hd h1 h2
    by_cases hc : (out.length : Int) < (if n < 20 then n else 20)
    · obtain ⟨v, a1, s1, e, g1, g2, g3, g4⟩ := cur_pick l hl a s ((out.length : Int) + 1) h1 (by omega)
      have hv : v.toNat ≤ out.length := by omega
      have hlen : (([] ++ out.take v.toNat) ++ [(out.length : Int)] ++ out.drop v.toNat).length = out.length + 1 := by simp; omega
      obtain ⟨r, a', s', r1, r2, r3, hr⟩ := ih (([] ++ out.take v.toNat) ++ [(out.length : Int)] ++ out.drop v.toNat) a1 s1 (by rw [hlen]; omega) (by omega) (by omega)
      rw [hlen] at hr
      refine ⟨r, a', s', r1, by omega, by omega, Ev.step (fun k => by rw [spec_l1Cur_order.l0]) ?_⟩
      rw [least_eq, wr (x := (out.length : Int) + 1) (by omega) (by omega)]
      refine evSome (evPos hc ?_)
      rw [e]
      have h6 : (out.take v.toNat).length ≤ 20 := by rw [List.length_take]; omega
      have h7 : (out.drop v.toNat).length ≤ 20 := by rw [List.length_drop]; omega
      refine evSome (evSome (evPos g3 (evPos (by omega) (evSome (evPos (by simp; omega) (evSome (evPos (by simp; omega) (evSome (evSome (evPos (by simp; omega) ?_))))))))))
      rw [show (out.length : Int) + 1 = ((out.length + 1 : Nat) : Int) from by omega]
      exact hr
    · exact hend (d + 1) out a s (by omega) h1 h2 hc
theorem cur_order (l : List Int) (hl : Byt l) (a s n : Int) (h0 : 0 ≤ a) (h1 : a ≤ 600000000000) : ∃ r a' s', r.length ≤ 20 ∧ a ≤ a' ∧ a' ≤ a + 60 ∧ Ev (fun k => spec_l1Cur_order.f k l a s n) (r, a', s') := by
  unfold spec_l1Cur_order.f
  obtain ⟨r, a', s', r1, r2, r3, hr⟩ := order_l0 l hl n 20 [] a s (by simp) h0 (by omega)
  exact ⟨r, a', s', r1, r2, by omega, hr⟩
/-! spec_l1Cur_items -/
theorem cur_items (l : List Int) (hl : Byt l) (a s : Int) (h0 : 0 ≤ a) (h1 : a ≤ 800000000000) : ∃ v a' s', spec_l1Cur_items.f l a s = some (v, a', s') ∧ a ≤ a' ∧ a' ≤ a + 4 ∧ -1 ≤ v ∧ v ≤ 13 := by
  unfold spec_l1Cur_items.f
  obtain ⟨b, a1, s1, e, h2, h3⟩ := cur_one l hl a s 15 h0 (by omega)
  rw [e]
  simp only [Option.bind_some]
  by_cases c : b = true
  · rw [if_pos c]
    obtain ⟨v4, a4, s4, e4, g5, g6, g7⟩ := cur_among l hl a1 s1 [-1, 0, 12, 13] (by simp) (by omega) (by omega)
    rw [e4]
    simp only [Option.bind_some]
    simp at g7
    exact ⟨_, _, _, rfl, by omega, by omega, by omega, by omega⟩
  · rw [if_neg c]
    obtain ⟨v4, a4, s4, e4, g5, g6, g7, g8⟩ := cur_pick l hl a1 s1 9 (by omega) (by omega)
    rw [e4]
    simp only [Option.bind_some]
    exact ⟨_, _, _, rfl, by omega, by omega, by omega, by omega⟩
/-! spec_l1Cur_move -/
theorem move_j0 (l : List Int) (hl : Byt l) (n : Int) (b : Bool) (a s : Int) (h0 : 0 ≤ a) (h1 : a ≤ 600000000000) : ∃ x y z a' s', Ev (fun k => spec_l1Cur_move.j0 k n b l a s) (x, y, z, a', s') := by
  cases b
  · obtain ⟨v, a1, s1, e, g1, g2, g3, g4⟩ := cur_pick l hl a s 3 h0 (by omega)
    obtain ⟨v2, a2, s2, e2, g5, g6, _, _⟩ := cur_pick l hl a1 s1 (wrap64 (n - 1)) (by omega) (by omega)
    by_cases c : v = 0
    · obtain ⟨v3, a3, s3, e3, _, _, _, _⟩ := cur_pick l hl a2 s2 (wrap64 (1 + v2)) (by omega) (by omega)
      refine ⟨0, v3, wrap64 (1 + v2), a3, s3, Ev.step (fun k => by rw [spec_l1Cur_move.j0]) (evNeg (by simp) ?_)⟩
      rw [e]
      refine evSome (evPos c ?_)
      rw [e2]
      refine evSome ?_
      rw [e3]
      exact evSome (Ev.now _)
    · by_cases c2 : v = 1
      · refine ⟨1, wrap64 (2 + v2), 0, a2, s2, Ev.step (fun k => by rw [spec_l1Cur_move.j0]) (evNeg (by simp) ?_)⟩
        rw [e]
        refine evSome (evNeg c (evPos c2 ?_))
        rw [e2]
        exact evSome (Ev.now _)
      · refine ⟨2, wrap64 (2 + v2), 0, a2, s2, Ev.step (fun k => by rw [spec_l1Cur_move.j0]) (evNeg (by simp) ?_)⟩
        rw [e]
        refine evSome (evNeg c (evNeg c2 ?_))
        rw [e2]
        exact evSome (Ev.now _)
  · obtain ⟨v, a1, s1, e, g1, g2, _⟩ := cur_among l hl a s [-1, 0, 1, 2, 3] (by simp) h0 (by omega)
    obtain ⟨v2, a2, s2, e2, g3, g4, _⟩ := cur_among l hl a1 s1 [-1, 0, 1, 2, 99] (by simp) (by omega) (by omega)
    obtain ⟨v3, a3, s3, e3, g5, g6, _⟩ := cur_among l hl a2 s2 [0, 1, -9223372036854775808] (by simp) (by omega) (by omega)
    refine ⟨v, v2, v3, a3, s3, Ev.step (fun k => by rw [spec_l1Cur_move.j0]) (evPos rfl ?_)⟩
    rw [e]
    refine evSome ?_
    rw [e2]
    refine evSome ?_
    rw [e3]
    exact evSome (Ev.now _)
theorem cur_move (l : List Int) (hl : Byt l) (a s n : Int) (h0 : 0 ≤ a) (h1 : a ≤ 500000000000) : ∃ x y z a' s', Ev (fun k => spec_l1Cur_move.f k l a s n) (x, y, z, a', s') := by
  unfold spec_l1Cur_move.f
  obtain ⟨b, a1, s1, e, g1, g2⟩ := cur_one l hl a s 40 h0 (by omega)
  by_cases c : b = true
  · obtain ⟨x, y, z, a', s', h⟩ := move_j0 l hl n true a1 s1 (by omega) (by omega)
    refine ⟨x, y, z, a', s', ?_⟩
    rw [e]
    exact evSome (evPos c h)
  · obtain ⟨x, y, z, a', s', h⟩ := move_j0 l hl n (decide (n < 2)) a1 s1 (by omega) (by omega)
    refine ⟨x, y, z, a', s', ?_⟩
    rw [e]
    exact evSome (evNeg c h)
/-! spec_DrawApplyMove -/
theorem drawApplyMove_ev (l : List Int) (hl : Byt l) : ∃ r a b c, r.length ≤ 20 ∧ Ev (fun k => spec_DrawApplyMove.f k l) (r, a, b, c) := by
  unfold spec_DrawApplyMove.f
  obtain ⟨n, a1, s1, e, g1, g2, _, _⟩ := cur_items l hl 0 0 (by omega) (by omega)
  obtain ⟨r, a2, s2, r1, r2, r3, hr⟩ := cur_order l hl a1 s1 n (by omega) (by omega)
  obtain ⟨x, y, z, a', s', h⟩ := cur_move l hl a2 s2 (r.length : Int) (by omega) (by omega)
  refine ⟨r, x, y, z, r1, ?_⟩
  rw [e]
  exact evSome (Ev.bind hr (Ev.bind h (Ev.now _)))
/-! impl_identity -/
theorem identity_l0 (n : Nat) (hn : n ≤ 1000000000) : ∀ (d : Nat) (j : Int), 0 ≤ j → j.toNat + d = n → Ev (fun k => impl_identity.l0 k (upTo j.toNat) (n : Int) j) (upTo n) := by
  intro d
  induction d with
  | zero =>
    intro j h0 hd
    refine Ev.step (fun k => by rw [impl_identity.l0]) ?_
    exact evNeg (by omega) (evEq (by rw [show j.toNat = n from by omega]))
  | succ d ih =>
    intro j h0 hd
    refine Ev.step (fun k => by rw [impl_identity.l0]) ?_
    refine evPos (by omega) (evPos (by rw [upTo_length]; omega) ?_)
    have h := ih (j + 1) (by omega) (by omega)
    rw [show (j + 1).toNat = j.toNat + 1 from by omega, upTo_succ, Int.toNat_of_nonneg h0] at h
    rw [wr (by omega) (by omega)]
    exact h
theorem identity_ev (n : Nat) (hn : n ≤ 1000000000) : Ev (fun k => impl_identity.f k (n : Int)) (upTo n) := by
  unfold impl_identity.f
  exact identity_l0 n hn n 0 (by omega) (by simp)
/-! slices_Equal_int_int -/
theorem slicesEqual_l0 (a b : List Int) (hn : a.length ≤ 35184372088832) (hb : a.length = b.length) : ∀ (d : Nat) (j : Int), 0 ≤ j → j.toNat + d = a.length →
    Ev (fun k => slices_Equal_int_int.l0 k a b (a.length : Int) j) (decide (a.drop j.toNat = b.drop j.toNat)) := by
  intro d
  induction d with
  | zero =>
    intro j h0 hd
    refine Ev.step (fun k => by rw [slices_Equal_int_int.l0]) ?_
    refine evNeg (by omega) ?_
    rw [drop_end a j (by omega), drop_end b j (by omega)]
    exact evEq rfl
  | succ d ih =>
    intro j h0 hd
    refine Ev.step (fun k => by rw [slices_Equal_int_int.l0]) ?_
    refine evPos (by omega) (evPos (by omega) (evPos (by omega) (evPos (by omega) ?_)))
    rw [wr (by omega) (by omega), drop_rd a j h0 (by omega), drop_rd b j h0 (by omega)]
    by_cases c : rd a j = rd b j
    · refine evPos c (evTo (ih _ (by omega) (by omega)) ?_)
      simp [c]
    · refine evNeg c (evEq ?_)
      simp [c]
theorem slicesEqual_ev (a b : List Int) (hn : a.length ≤ 35184372088832) : Ev (fun k => slices_Equal_int_int.f k a b) (decide (a = b)) := by
  unfold slices_Equal_int_int.f
  by_cases hb : a.length = b.length
  · exact evPos (by omega) (slicesEqual_l0 a b hn hb a.length 0 (by omega) (by simp))
  · refine evNeg (by omega) (evEq ?_)
    exact (decide_eq_false (fun e => hb (by rw [e]))).symm
/-! impl_IsPermutation -/
theorem IsPermutation_ev (l : List Int) (hl : l.length ≤ 35184372088832) : Ev (fun q => impl_IsPermutation.f q l) (isPm l) := by
  unfold impl_IsPermutation.f isPm
  by_cases c : l.length ≤ 12
  · refine evPos c (Ev.bind (identity_ev l.length (by omega)) ?_)
    have hs : (srt l).length = l.length := (srt_perm l).length_eq
    refine evTo (slicesEqual_ev (srt l) (upTo l.length) (by omega)) ?_
    rw [decide_eq_true c, Bool.true_and]
  · refine evNeg c (evEq ?_)
    rw [decide_eq_false c, Bool.false_and]
/-! impl_within -/
theorem within_eq (x a b : Int) : impl_within.f x a b = some (decide (a ≤ x ∧ x ≤ b)) := by
  unfold impl_within.f
  by_cases h : x ≥ a
  · rw [if_pos h]; have h' : a ≤ x := h; simp [h']
  · rw [if_neg h]; have h' : ¬ a ≤ x := h; simp [h']
/-! impl_isMove -/
theorem isMove_eq (n c i j : Int) (h0 : 0 ≤ n) (hn : n ≤ 12) : impl_isMove.f n c i j = some (isMv n c i j) := by
  unfold impl_isMove.f isMv
  simp only [within_eq, Option.bind_some]
  by_cases c0 : c = 0
  · rw [if_pos c0]
    by_cases c1 : 0 ≤ i
    · rw [if_pos c1]
      by_cases c2 : i < j
      · rw [if_pos c2]; congr 1; apply decide_eq_decide.2; omega
      · rw [if_neg c2]; congr 1; exact (decide_eq_false (by omega)).symm
    · rw [if_neg c1]; congr 1; exact (decide_eq_false (by omega)).symm
  · rw [if_neg c0]
    by_cases c1 : c = 1
    · rw [if_pos c1]
      by_cases c3 : 2 ≤ i ∧ i ≤ n
      · rw [if_pos (by simpa using c3)]
        congr 1; rw [Bool.eq_iff_iff]; simp; omega
      · rw [if_neg (by simpa using c3)]
        congr 1; exact (decide_eq_false (by omega)).symm
    · rw [if_neg c1]
      by_cases c2 : c = 2
      · rw [if_pos c2]
        by_cases c3 : 2 ≤ i ∧ i ≤ n
        · rw [if_pos (by simpa using c3)]
          congr 1; rw [Bool.eq_iff_iff]; simp; omega
        · rw [if_neg (by simpa using c3)]
          congr 1; exact (decide_eq_false (by omega)).symm
      · rw [if_neg c2]
        congr 1; exact (decide_eq_false (by omega)).symm
/-! impl_copied -/
theorem copied_eq (l : List Int) (hn : l.length ≤ 10000000000000) : impl_copied.f l = some l := by
  unfold impl_copied.f
  simp only [Option.bind_some, List.nil_append, List.length_nil, Nat.zero_add]
  rw [if_pos (by omega)]
/-! impl_moved -/
theorem moved_r0 : ∀ (n : Nat) (p m s : List Int), m.length ≤ n → Ev (fun k => impl_moved.r0 k (p ++ m ++ s) (p.length : Int) ((p.length : Int) + m.length - 1)) (p ++ m.reverse ++ s) := by
  intro n
  induction n with
  | zero =>
    intro p m s hm
    obtain rfl : m = [] := List.length_eq_zero_iff.1 (by omega)
    refine Ev.step (fun q => by rw [impl_moved.r0]) ?_
    exact evNeg (by simp; omega) (evEq (by simp))
  | succ n ih =>
    intro p m s hm
    refine Ev.step (fun q => by rw [impl_moved.r0]) ?_
    match m, hm with
    | [], _ => exact evNeg (by simp; omega) (evEq (by simp))
    | [x], _ => exact evNeg (by simp) (evEq (by simp))
    | x :: y :: t, hm =>
      obtain ⟨u, z, hz⟩ : ∃ u z, y :: t = u ++ [z] := ⟨(y :: t).dropLast, (y :: t).getLast (by simp), (List.dropLast_concat_getLast (by simp)).symm⟩
      rw [hz]
      have hl : u.length + 1 = t.length + 1 := by have := congrArg List.length hz; simp at this; omega
      simp only [List.length_cons] at hm
      refine evPos (by simp; omega) ?_
      have e1 : (p.length : Int).toNat = p.length := Int.toNat_natCast _
      have e2 : ((p.length : Int) + ((x :: (u ++ [z])).length : Nat) - 1).toNat = p.length + u.length + 1 := by simp; omega
      have r1 : rd (p ++ x :: (u ++ [z]) ++ s) (p.length : Int) = x := by
        unfold rd; rw [e1]; simp
      have r2 : rd (p ++ x :: (u ++ [z]) ++ s) ((p.length : Int) + ((x :: (u ++ [z])).length : Nat) - 1) = z := by
        unfold rd; rw [e2]
        rw [List.getD_eq_getElem?_getD, List.append_assoc, List.getElem?_append_right (by omega), show p.length + u.length + 1 - p.length = u.length + 1 by omega]
        simp
      rw [r1, r2, e1, e2]
      have hset : ((p ++ x :: (u ++ [z]) ++ s).set p.length z).set (p.length + u.length + 1) x = (p ++ [z]) ++ u ++ ([x] ++ s) := by
        rw [List.append_assoc p, List.set_append_right _ _ (by omega), Nat.sub_self, List.cons_append, List.set_cons_zero, List.set_append_right _ _ (by omega), show p.length + u.length + 1 - p.length = u.length + 1 by omega, List.set_cons_succ]
        rw [List.append_assoc u, List.set_append_right _ _ (by omega), Nat.sub_self]
        simp
      rw [hset]
      refine evTo (Ev.congr (fun k => ?_) (ih (p ++ [z]) u ([x] ++ s) (by omega))) ?_
      · congr 1
        · simp
        · simp; omega
      · simp
theorem moved_ev (l : List Int) (hl : l.length ≤ 1000) (a b c : Int) (hg : Mgood l.length a b c) : Ev (fun q => impl_moved.f q l a b c) (mv l a b c) := by
  unfold impl_moved.f
  rw [copied_eq l (by omega)]
  refine evSome (evPos (by omega) ?_)
  rcases hg with ⟨rfl, h1, h2, h3⟩ | ⟨rfl, h1, h2, rfl⟩ | ⟨rfl, h1, h2, rfl⟩
  · exact evPos rfl (evPos (by omega) (evPos (by omega) (evPos (by omega) (evPos (by omega) (evEq rfl)))))
  · refine evNeg (by decide) (evPos rfl (evPos (by omega) (evPos (by omega) ?_)))
    have h := moved_r0 b.toNat [] (l.take b.toNat) (l.drop b.toNat) (by rw [List.length_take]; omega)
    rw [List.length_take, show min b.toNat l.length = b.toNat by omega] at h
    refine evTo (Ev.congr (fun k => ?_) h) (by simp [mv])
    rw [List.nil_append, List.take_append_drop]
    congr 1
    simp; omega
  · refine evNeg (by decide) (evNeg (by decide) (evPos rfl (evPos (by omega) (evPos (by omega) (evEq ?_)))))
    obtain ⟨n, hn⟩ : ∃ n : Nat, b = (n : Int) + 1 := ⟨b.toNat - 1, by omega⟩
    subst hn
    rw [show ((n : Int) + 1).toNat = n + 1 by omega, show ((n : Int) + 1 - 1).toNat = n by omega]
    match l, h2 with
    | x :: t, h2 =>
      simp at h2
      have e : rd (x :: t) 0 = x := rfl
      rw [e]
      simp only [mv, List.take_succ_cons, List.drop_succ_cons, List.drop_zero]
      rw [show ((n : Int) + 1).toNat = n + 1 by omega]
      simp only [List.take_succ_cons, List.drop_succ_cons, List.drop_zero, List.take_zero]
      rw [if_neg (by decide), if_neg (by decide)]
      have hd : (x :: t).drop n = (x :: t)[n]'(by simp; omega) :: t.drop n := by
        rw [List.drop_eq_getElem_cons (by simp; omega)]; simp
      rw [hd, List.set_append_right _ _ (by rw [List.length_take]; omega), List.length_take, show n - min n t.length = 0 by omega]
      simp
/-! impl_ApplyMove -/
/-- A permutation behind a move. -/
def apM (l : List Int) (a b c : Int) : List Int × Bool := if isPm l = true ∧ isMv l.length a b c = true then (mv l a b c, true) else ([], false)
theorem isMv_good {n a b c : Int} (h : isMv n a b c = true) : Mgood n a b c := by
  simp only [isMv, decide_eq_true_eq] at h; unfold Mgood; omega
theorem ApplyMove_ev (l : List Int) (hl : l.length ≤ 1048576) (a b c : Int) : Ev (fun q => impl_ApplyMove.f q l a b c) (apM l a b c) := by
  unfold impl_ApplyMove.f apM
  refine Ev.bind (IsPermutation_ev l (by omega)) ?_
  by_cases hp : isPm l = true
  · have h12 := (isPm_perm hp).1
    refine evPos hp ?_
    rw [isMove_eq _ _ _ _ (by omega) (by omega)]
    by_cases hv : isMv l.length a b c = true
    · exact evSome (evPos hv (Ev.bind (moved_ev l (by omega) a b c (isMv_good hv)) (evEq (by rw [if_pos ⟨hp, hv⟩]))))
    · exact evSome (evNeg hv (evEq (by rw [if_neg (fun h => hv h.2)])))
  · exact evNeg hp (evEq (by rw [if_neg (fun h => hp h.1)]))
/-! spec_l1In -/
theorem l1In_eq (x a b : Int) : spec_l1In.f x a b = some (decide (a ≤ x ∧ x ≤ b)) := by
  unfold spec_l1In.f
  by_cases h : x ≥ a
  · rw [if_pos h]; have h' : a ≤ x := h; simp [h']
  · rw [if_neg h]; have h' : ¬ a ≤ x := h; simp [h']
/-! spec_l1Has -/
theorem l1Has_l0 (x : Int) (xs : List Int) (hn : xs.length ≤ 35184372088832) : ∀ (d : Nat) (j : Int), 0 ≤ j → j.toNat + d = xs.length →
    Ev (fun k => spec_l1Has.l0 k x xs (xs.length : Int) j) (decide (x ∈ xs.drop j.toNat)) := by
  intro d
  induction d with
  | zero =>
    intro j h0 hd
    refine Ev.step (fun k => by rw [spec_l1Has.l0]) ?_
    refine evNeg (by omega) (evEq ?_)
    rw [drop_end _ _ (by omega)]; simp
  | succ d ih =>
    intro j h0 hd
    refine Ev.step (fun k => by rw [spec_l1Has.l0]) ?_
    refine evPos (by omega) (evPos (by omega) (evPos (by omega) ?_))
    rw [wr (by omega) (by omega), drop_rd xs j h0 (by omega)]
    by_cases c : rd xs j = x
    · exact evPos c (evEq (by simp [c]))
    · exact evNeg c (evTo (ih _ (by omega) (by omega)) (by simp [List.mem_cons, Ne.symm c]))
theorem l1Has_ev (xs : List Int) (x : Int) (hn : xs.length ≤ 35184372088832) : Ev (fun k => spec_l1Has.f k xs x) (decide (x ∈ xs)) := by
  unfold spec_l1Has.f
  exact evTo (l1Has_l0 x xs hn xs.length 0 (by omega) (by simp)) (by simp)
/-! spec_raPermutation -/
theorem raPermutation_l0 (l : List Int) (hl : l.length ≤ 1048576) : ∀ (d : Nat) (i : Int), 0 ≤ i → i.toNat + d = l.length →
    Ev (fun q => spec_raPermutation.l0 q l l (l.length : Int) i) (decide (∀ j (h : j < l.length), i.toNat ≤ j → j < 12 ∧ (0 ≤ l[j] ∧ l[j] ≤ (l.length : Int) - 1) ∧ l[j] ∉ l.take j)) := by
  intro d
  induction d with
  | zero =>
    intro i h0 hd
    refine Ev.step (fun k => by rw [spec_raPermutation.l0]) ?_
    refine evNeg (by omega) (evEq (decide_eq_true ?_).symm)
    intro j h hj; omega
  | succ d ih =>
    intro i h0 hd
    refine Ev.step (fun k => by rw [spec_raPermutation.l0]) ?_
    have hil : i.toNat < l.length := by omega
    have e : rd l i = l[i.toNat] := by unfold rd; rw [List.getD_eq_getElem?_getD, List.getElem?_eq_getElem hil]; rfl
    refine evPos (by omega) (evPos h0 (evPos (by omega) ?_))
    by_cases c1 : i ≥ 12
    · refine evPos c1 (evEq (decide_eq_false ?_).symm)
      intro h
      have := (h i.toNat hil (Nat.le_refl _)).1
      omega
    · refine evNeg c1 ?_
      rw [l1In_eq, wr (by omega) (by omega), wr (by omega) (by omega)]
      refine evSome ?_
      by_cases c2 : 0 ≤ rd l i ∧ rd l i ≤ (l.length : Int) - 1
      · refine evPos (by simpa using c2) (evPos (by omega) (Ev.bind (l1Has_ev _ _ (by rw [List.length_take]; omega)) ?_))
        by_cases c3 : rd l i ∈ l.take i.toNat
        · refine evPos (decide_eq_true c3) (evEq (decide_eq_false ?_).symm)
          intro h
          rw [e] at c3
          exact (h i.toNat hil (Nat.le_refl _)).2.2 c3
        · refine evNeg (by simpa using c3) (evTo (ih (i + 1) (by omega) (by omega)) ?_)
          apply decide_eq_decide.2
          constructor
          · intro h j hj hij
            by_cases ej : j = i.toNat
            · subst ej
              rw [e] at c2 c3
              exact ⟨by omega, c2, c3⟩
            · exact h j hj (by omega)
          · intro h j hj hij
            exact h j hj (by omega)
      · refine evNeg (by simpa using c2) (evEq (decide_eq_false ?_).symm)
        intro h
        rw [e] at c2
        exact c2 (h i.toNat hil (Nat.le_refl _)).2.1
theorem raPermutation_ev (l : List Int) (hl : l.length ≤ 1048576) : Ev (fun q => spec_raPermutation.f q l) (isPm l) := by
  unfold spec_raPermutation.f
  refine evTo (raPermutation_l0 l hl l.length 0 (by omega) (by simp)) ?_
  rw [Bool.eq_iff_iff, isPm_iff, decide_eq_true_eq]
  constructor
  · intro h j hj; exact h j hj (by simp)
  · intro h j hj _; exact h j hj
/-! spec_moGood -/
theorem moGood_eq (n c i j : Int) (h0 : 0 ≤ n) (hn : n ≤ 12) : spec_moGood.f n c i j = some (isMv n c i j) := by
  unfold spec_moGood.f isMv
  rw [wr (x := n - 1) (by omega) (by omega)]
  simp only [l1In_eq, Option.bind_some]
  by_cases c0 : c = 0
  · rw [if_pos c0]
    by_cases c1 : 1 ≤ j ∧ j ≤ n - 1
    · rw [if_pos (by simpa using c1), wr (by omega) (by omega)]
      congr 1; apply decide_eq_decide.2; omega
    · rw [if_neg (by simpa using c1)]
      congr 1; exact (decide_eq_false (by omega)).symm
  · rw [if_neg c0]
    by_cases c1 : c = 1
    · rw [if_pos c1]
      by_cases c3 : 2 ≤ i ∧ i ≤ n
      · rw [if_pos (by simpa using c3)]
        congr 1; rw [Bool.eq_iff_iff]; simp; omega
      · rw [if_neg (by simpa using c3)]
        congr 1; exact (decide_eq_false (by omega)).symm
    · rw [if_neg c1]
      by_cases c2 : c = 2
      · rw [if_pos c2]
        by_cases c3 : 2 ≤ i ∧ i ≤ n
        · rw [if_pos (by simpa using c3)]
          congr 1; rw [Bool.eq_iff_iff]; simp; omega
        · rw [if_neg (by simpa using c3)]
          congr 1; exact (decide_eq_false (by omega)).symm
      · rw [if_neg c2]
        congr 1; exact (decide_eq_false (by omega)).symm
/-! spec_l1Own -/
theorem l1Own_eq (l : List Int) (hn : l.length ≤ 10000000000000) : spec_l1Own.f l = some l := by
  unfold spec_l1Own.f
  simp only [Option.bind_some, List.nil_append, List.length_nil, Nat.zero_add]
  rw [if_pos (by omega)]
/-! spec_moApply -/
theorem moApply_l0 (l : List Int) (hl : l.length ≤ 1000) (b : Int) (hb : b ≤ l.length) (a c : Int) : ∀ (d : Nat) (x5 : List Int) (i : Int), 0 ≤ i → i + d = b → x5.length = l.length → x5.take i.toNat = (l.take b.toNat).reverse.take i.toNat → x5.drop i.toNat = l.drop i.toNat →
    Ev (fun k => spec_moApply.l0 k l x5 i a b c) ((l.take b.toNat).reverse ++ l.drop b.toNat) := by
  intro d
  induction d with
  | zero =>
    intro x5 i h0 hi h5 ht hd
    refine Ev.step (fun k => by rw [spec_moApply.l0]) ?_
    refine evNeg (by omega) (evEq ?_)
    obtain rfl : i = b := by omega
    rw [← List.take_append_drop i.toNat x5, ht, hd, List.take_of_length_le (by rw [List.length_reverse, List.length_take]; omega)]
  | succ d ih =>
    intro x5 i h0 hi h5 ht hd
    refine Ev.step (fun k => by rw [spec_moApply.l0]) ?_
    simp (disch := omega) only [wr]
    refine evPos (by omega) (evPos (by omega) (evPos (by omega) (evPos (by omega) (evPos (by omega) ?_))))
    refine ih _ (i + 1) (by omega) (by omega) (by simpa using h5) ?_ ?_
    · rw [set_takeI _ _ _ h0 (by omega), ht, show (i + 1).toNat = i.toNat + 1 by omega, List.take_add_one, List.getElem?_reverse (by rw [List.length_take]; omega), List.length_take, show min b.toNat l.length - 1 - i.toNat = (b - 1 - i).toNat by omega, List.getElem?_take, if_pos (by omega)]
      unfold rd
      rw [List.getD_eq_getElem?_getD, List.getElem?_eq_getElem (show (b - 1 - i).toNat < l.length by omega)]
      rfl
    · rw [show (i + 1).toNat = i.toNat + 1 by omega, List.drop_set_of_lt (by omega), ← List.drop_drop, ← List.drop_drop, hd]
theorem moApply_l1 (l : List Int) (hl : l.length ≤ 1000) (b : Int) (hb0 : 1 ≤ b) (hb : b ≤ l.length) (a c : Int) : ∀ (d : Nat) (x5 : List Int) (i : Int), 0 ≤ i → i + d = b → x5.length = l.length → x5.take i.toNat = ((l.take b.toNat).drop 1 ++ (l.take b.toNat).take 1).take i.toNat → x5.drop i.toNat = l.drop i.toNat →
    Ev (fun k => spec_moApply.l1 k l x5 i a b c) ((l.take b.toNat).drop 1 ++ (l.take b.toNat).take 1 ++ l.drop b.toNat) := by
  intro d
  have hlen : ((l.take b.toNat).drop 1 ++ (l.take b.toNat).take 1).length = b.toNat := by
    simp; omega
  induction d with
  | zero =>
    intro x5 i h0 hi h5 ht hd
    refine Ev.step (fun k => by rw [spec_moApply.l1]) ?_
    refine evNeg (by omega) (evEq ?_)
    obtain rfl : i = b := by omega
    rw [← List.take_append_drop i.toNat x5, ht, hd, List.take_of_length_le (by omega)]
  | succ d ih =>
    intro x5 i h0 hi h5 ht hd
    refine Ev.step (fun k => by rw [spec_moApply.l1]) ?_
    simp (disch := omega) only [wr]
    rw [Int.tmod_eq_emod_of_nonneg (by omega)]
    have hm : (i + 1) % b = if i + 1 < b then i + 1 else 0 := by
      split
      · exact Int.emod_eq_of_lt (by omega) (by omega)
      · rw [show i + 1 = b by omega, Int.emod_self]
    rw [hm]
    refine evPos (by omega) (evNeg (by omega) (evPos (by split <;> omega) (evPos (by split <;> omega) (evPos (by omega) (evPos (by omega) ?_)))))
    refine ih _ (i + 1) (by omega) (by omega) (by simpa using h5) ?_ ?_
    · rw [set_takeI _ _ _ h0 (by omega), ht, show (i + 1).toNat = i.toNat + 1 by omega, List.take_add_one (l := _ ++ _)]
      congr 1
      unfold rd
      by_cases c : i + 1 < b
      · rw [if_pos c, List.getElem?_append_left (by simp; omega), List.getElem?_drop, List.getElem?_take, if_pos (by omega), show 1 + i.toNat = (i + 1).toNat by omega, List.getD_eq_getElem?_getD, List.getElem?_eq_getElem (by omega)]
        rfl
      · rw [if_neg c, List.getElem?_append_right (by simp; omega)]
        have e : i.toNat - ((l.take b.toNat).drop 1).length = 0 := by simp; omega
        rw [e, List.getElem?_take, if_pos (by omega), List.getElem?_take, if_pos (by omega), List.getD_eq_getElem?_getD, show (0 : Int).toNat = 0 from rfl, List.getElem?_eq_getElem (show 0 < l.length by omega)]
        rfl
    · rw [show (i + 1).toNat = i.toNat + 1 by omega, List.drop_set_of_lt (by omega), ← List.drop_drop, ← List.drop_drop, hd]
theorem moApply_ev (l : List Int) (hl : l.length ≤ 1000) (a b c : Int) (hg : Mgood l.length a b c) : Ev (fun q => spec_moApply.f q l a b c) (mv l a b c) := by
  unfold spec_moApply.f
  rw [l1Own_eq l (by omega)]
  refine evSome ?_
  rcases hg with ⟨rfl, h1, h2, h3⟩ | ⟨rfl, h1, h2, rfl⟩ | ⟨rfl, h1, h2, rfl⟩
  · exact evPos rfl (evPos (by omega) (evPos (by omega) (evPos (by omega) (evPos (by omega) (evPos (by omega) (evPos (by omega) (evEq rfl)))))))
  · refine evNeg (by decide) (evPos rfl ?_)
    refine evTo (moApply_l0 l hl b h2 1 0 b.toNat l 0 (by omega) (by omega) rfl (by simp) (by simp)) (by simp [mv])
  · refine evNeg (by decide) (evNeg (by decide) ?_)
    refine evTo (moApply_l1 l hl b (by omega) h2 2 0 b.toNat l 0 (by omega) (by omega) rfl (by simp) (by simp)) (by simp [mv])
/-! spec_ApplyMove -/
theorem spec_ApplyMove_ev (l : List Int) (hl : l.length ≤ 1048576) (a b c : Int) : Ev (fun q => spec_ApplyMove.f q l a b c) (apM l a b c) := by
  unfold spec_ApplyMove.f apM
  refine Ev.bind (raPermutation_ev l (by omega)) ?_
  by_cases hp : isPm l = true
  · have h12 := (isPm_perm hp).1
    refine evPos hp ?_
    rw [moGood_eq _ _ _ _ (by omega) (by omega)]
    by_cases hv : isMv l.length a b c = true
    · exact evSome (evPos hv (Ev.bind (moApply_ev l (by omega) a b c (isMv_good hv)) (evEq (by rw [if_pos ⟨hp, hv⟩]))))
    · exact evSome (evNeg hv (evEq (by rw [if_neg (fun h => hv h.2)])))
  · exact evNeg hp (evEq (by rw [if_neg (fun h => hp h.1)]))
/-! laws_uSame -/
theorem uSame_l0 (a : List Int) (hn : a.length ≤ 35184372088832) : ∀ (d : Nat) (j : Int), 0 ≤ j → j.toNat + d = a.length → Ev (fun k => laws_uSame.l0 k a a (a.length : Int) j) true := by
  intro d
  induction d with
  | zero =>
    intro j h0 hd
    refine Ev.step (fun k => by rw [laws_uSame.l0]) ?_
    exact evNeg (by omega) (Ev.now _)
  | succ d ih =>
    intro j h0 hd
    refine Ev.step (fun k => by rw [laws_uSame.l0]) ?_
    refine evPos (by omega) (evPos (by omega) (evPos (by omega) (evPos (by omega) (evPos rfl ?_))))
    rw [wr (by omega) (by omega)]
    exact ih _ (by omega) (by omega)
theorem uSame_self (a : List Int) (hn : a.length ≤ 35184372088832) : Ev (fun k => laws_uSame.f k a a) true := by
  unfold laws_uSame.f
  exact evPos rfl (uSame_l0 a hn a.length 0 (by omega) (by simp))
/-! impl_inversions -/
theorem inversions_l1 (l out x10 : List Int) (v x11 x12 : Int) (T : List Int) (hT : T.length ≤ 1000) (ho : out.length ≤ 1000) (r : List Int) : ∀ (d : Nat) (j c : Int), 0 ≤ j → j.toNat + d = T.length → 0 ≤ c → c ≤ j →
    Ev (fun k => impl_inversions.l0 k l (out ++ [c + cnt v (T.drop j.toNat)]) x10 x11 (wrap64 (x12 + 1))) r → Ev (fun k => impl_inversions.l1 k l out v c x10 x11 x12 T (T.length : Int) j) r := by
  intro d
  induction d with
  | zero =>
    intro j c h0 hd hc hcj h
    refine Ev.step (fun k => by rw [impl_inversions.l1]) ?_
    rw [drop_end T j (by omega), cnt] at h
    exact evNeg (by omega) (evPos (by omega) (by simpa using h))
  | succ d ih =>
    intro j c h0 hd hc hcj h
    refine Ev.step (fun k => by rw [impl_inversions.l1]) ?_
    refine evPos (by omega) (evPos (by omega) (evPos (by omega) ?_))
    rw [drop_rd T j h0 (by omega), cnt] at h
    rw [wr (x := c + 1) (by omega) (by omega), wr (x := j + 1) (by omega) (by omega)]
    by_cases q : rd T j > v
    · rw [if_pos q] at h
      refine evPos q (ih (j + 1) (c + 1) (by omega) (by omega) (by omega) (by omega) ?_)
      have e : c + 1 + (cnt v (T.drop (j + 1).toNat) : Int) = c + ((1 + cnt v (T.drop (j + 1).toNat) : Nat) : Int) := by push_cast; omega
      rw [e]; exact h
    · rw [if_neg q] at h
      refine evNeg q (ih (j + 1) c (by omega) (by omega) (by omega) (by omega) ?_)
      have e : c + (cnt v (T.drop (j + 1).toNat) : Int) = c + ((0 + cnt v (T.drop (j + 1).toNat) : Nat) : Int) := by push_cast; omega
      rw [e]; exact h
theorem inversions_l0 (l : List Int) (hl : l.length ≤ 1000) : ∀ (d : Nat) (out : List Int) (i : Int), 0 ≤ i → i.toNat + d = l.length → out.length = i.toNat →
    Ev (fun k => impl_inversions.l0 k l out l (l.length : Int) i) (out ++ invL (l.take i.toNat) (l.drop i.toNat)) := by
  intro d
  induction d with
  | zero =>
    intro out i h0 hd ho
    refine Ev.step (fun k => by rw [impl_inversions.l0]) ?_
    refine evNeg (by omega) (evEq ?_)
    rw [drop_end l i (by omega), invL, List.append_nil]
  | succ d ih =>
    intro out i h0 hd ho
    refine Ev.step (fun k => by rw [impl_inversions.l0]) ?_
    refine evPos (by omega) (evPos (by omega) (evPos (by omega) (evPos (by omega) ?_)))
    refine inversions_l1 l out l (rd l i) (l.length : Int) i (l.take i.toNat) (by rw [List.length_take]; omega) (by omega) _ (l.take i.toNat).length 0 0 (by omega) (by simp) (by omega) (by omega) ?_
    rw [wr (by omega) (by omega)]
    refine evTo (ih _ (i + 1) (by omega) (by omega) (by simp; omega)) ?_
    rw [drop_rd l i h0 (by omega), invL, take_rd l i h0 (by omega)]
    simp
theorem inversions_ev (l : List Int) (hl : l.length ≤ 1000) : Ev (fun k => impl_inversions.f k l) (invL [] l) := by
  unfold impl_inversions.f
  exact evTo (inversions_l0 l hl l.length [] 0 (by omega) (by simp) rfl) (by simp)
/-! impl_sign -/
theorem sign_l0 (L : List Int) (hL : L.length ≤ 1000) (hb : ∀ x ∈ L, 0 ≤ x ∧ x ≤ 1000) : ∀ (d : Nat) (s j : Int), 0 ≤ j → j.toNat + d = L.length → 0 ≤ s → s + 1000 * d ≤ 10000000 →
    Ev (fun k => impl_sign.l0 k s L (L.length : Int) j) (1 - 2 * Int.tmod (s + sumL (L.drop j.toNat)) 2) := by
  intro d
  induction d with
  | zero =>
    intro s j h0 hd hs hk
    refine Ev.step (fun k => by rw [impl_sign.l0]) ?_
    rw [drop_end L j (by omega), sumL, Int.add_zero]
    have h1 : 0 ≤ Int.tmod s 2 := Int.tmod_nonneg _ hs
    have h2 : Int.tmod s 2 < 2 := Int.tmod_lt_of_pos _ (by omega)
    refine evNeg (by omega) (evEq ?_)
    rw [wr (x := 2 * Int.tmod s 2) (by omega) (by omega), wr (by omega) (by omega)]
  | succ d ih =>
    intro s j h0 hd hs hk
    refine Ev.step (fun k => by rw [impl_sign.l0]) ?_
    have hx := hb (rd L j) (by rw [rd_get L j (by omega)]; exact List.getElem_mem _)
    refine evPos (by omega) (evPos (by omega) (evPos (by omega) ?_))
    rw [wr (x := s + rd L j) (by omega) (by omega), wr (x := j + 1) (by omega) (by omega), drop_rd L j h0 (by omega), sumL]
    refine evTo (ih (s + rd L j) (j + 1) (by omega) (by omega) (by omega) (by omega)) ?_
    rw [Int.add_assoc]
theorem sign_ev (l : List Int) (hl : l.length ≤ 500) : Ev (fun k => impl_sign.f k l) (sg l) := by
  unfold impl_sign.f
  refine Ev.bind (inversions_ev l (by omega)) ?_
  have hlen := invL_length l []
  have hb := invL_mem l []
  refine evTo (sign_l0 (invL [] l) (by omega) (fun x hx => by have := hb x hx; simp at this; omega) l.length 0 0 (by omega) (by omega) (by omega) (by omega)) ?_
  rw [show (0 : Int).toNat = 0 from rfl, List.drop_zero, Int.zero_add, sumL_invL]
  unfold sg
  rw [Int.tmod_eq_emod_of_nonneg (by omega)]
  push_cast
  rfl
/-! impl_SignOf -/
theorem SignOf_ev (l : List Int) (hl : l.length ≤ 1048576) : Ev (fun q => impl_SignOf.f q l) (if isPm l = true then (sg l, true) else (0, false)) := by
  unfold impl_SignOf.f
  refine Ev.bind (IsPermutation_ev l (by omega)) ?_
  by_cases c : isPm l = true
  · rw [if_pos c]; exact evPos c (Ev.bind (sign_ev l (by have := (isPm_perm c).1; omega)) (Ev.now _))
  · rw [if_neg c]; exact evNeg c (Ev.now _)
/-! spec_DrawMoveSign -/
theorem drawMoveSign_ev (l : List Int) (hl : Byt l) : ∃ a b c, Ev (fun k => spec_DrawMoveSign.f k l) (a, b, c) := by
  unfold spec_DrawMoveSign.f
  obtain ⟨v, a1, s1, e, g1, g2, _⟩ := cur_among l hl 0 0 [2, 4, 7, 12, 13] (by simp) (by omega) (by omega)
  obtain ⟨x, y, z, a', s', h⟩ := cur_move l hl a1 s1 v (by omega) (by omega)
  refine ⟨x, y, z, ?_⟩
  rw [e]
  exact evSome (Ev.bind h (Ev.now _))
/-! spec_DrawMoveOrder -/
theorem drawMoveOrder_ev (l : List Int) (hl : Byt l) : ∃ a b c, Ev (fun k => spec_DrawMoveOrder.f k l) (a, b, c) := by
  unfold spec_DrawMoveOrder.f
  obtain ⟨a, b, c, h⟩ := drawMoveSign_ev l hl
  exact ⟨a, b, c, Ev.bind h (Ev.now _)⟩
/-! spec_raUpTo -/
theorem raUpTo_l0 (n : Nat) (hn : n ≤ 1000000000) : ∀ (d : Nat) (j : Int), 0 ≤ j → j.toNat + d = n → Ev (fun k => spec_raUpTo.l0 k (n : Int) (upTo j.toNat) j) (upTo n) := by
  intro d
  induction d with
  | zero =>
    intro j h0 hd
    refine Ev.step (fun k => by rw [spec_raUpTo.l0]) ?_
    exact evNeg (by omega) (evEq (by rw [show j.toNat = n from by omega]))
  | succ d ih =>
    intro j h0 hd
    refine Ev.step (fun k => by rw [spec_raUpTo.l0]) ?_
    refine evPos (by omega) (evPos (by rw [upTo_length]; omega) ?_)
    have h := ih (j + 1) (by omega) (by omega)
    rw [show (j + 1).toNat = j.toNat + 1 from by omega, upTo_succ, Int.toNat_of_nonneg h0] at h
    rw [wr (by omega) (by omega)]
    exact h
theorem raUpTo_ev (n : Nat) (hn : n ≤ 1000000000) : Ev (fun k => spec_raUpTo.f k (n : Int)) (upTo n) := by
  unfold spec_raUpTo.f
  exact raUpTo_l0 n hn n 0 (by omega) (by simp)
/-! spec_l1Same -/
theorem l1Same_l0 (a b : List Int) (hn : a.length ≤ 35184372088832) (hb : a.length = b.length) : ∀ (d : Nat) (j : Int), 0 ≤ j → j.toNat + d = a.length →
    Ev (fun k => spec_l1Same.l0 k a b (a.length : Int) j) (decide (a.drop j.toNat = b.drop j.toNat)) := by
  intro d
  induction d with
  | zero =>
    intro j h0 hd
    refine Ev.step (fun k => by rw [spec_l1Same.l0]) ?_
    refine evNeg (by omega) ?_
    rw [drop_end a j (by omega), drop_end b j (by omega)]
    exact evEq rfl
  | succ d ih =>
    intro j h0 hd
    refine Ev.step (fun k => by rw [spec_l1Same.l0]) ?_
    refine evPos (by omega) (evPos (by omega) (evPos (by omega) (evPos (by omega) ?_)))
    rw [wr (by omega) (by omega), drop_rd a j h0 (by omega), drop_rd b j h0 (by omega)]
    by_cases c : rd a j = rd b j
    · refine evPos c (evTo (ih _ (by omega) (by omega)) ?_)
      simp [c]
    · refine evNeg c (evEq ?_)
      simp [c]
theorem l1Same_ev (a b : List Int) (hn : a.length ≤ 35184372088832) : Ev (fun k => spec_l1Same.f k a b) (decide (a = b)) := by
  unfold spec_l1Same.f
  by_cases hb : a.length = b.length
  · exact evPos (by omega) (l1Same_l0 a b hn hb a.length 0 (by omega) (by simp))
  · refine evNeg (by omega) (evEq ?_)
    exact (decide_eq_false (fun e => hb (by rw [e]))).symm
/-! spec_DrawIsMove -/
theorem drawIsMove_ev (l : List Int) (hl : Byt l) : ∃ n a b c, Ev (fun k => spec_DrawIsMove.f k l) (n, a, b, c) := by
  unfold spec_DrawIsMove.f
  obtain ⟨n, a1, s1, e, g1, g2, _, _⟩ := cur_items l hl 0 0 (by omega) (by omega)
  obtain ⟨x, y, z, a', s', h⟩ := cur_move l hl a1 s1 n (by omega) (by omega)
  refine ⟨n, x, y, z, ?_⟩
  rw [e]
  exact evSome (Ev.bind h (Ev.now _))
/-! spec_raItems -/
theorem raItems_eq (x : Int) : spec_raItems.f x = some (decide (0 ≤ x ∧ x ≤ 12)) := by
  unfold spec_raItems.f; rw [l1In_eq]; rfl
-- mvN sg WITHPMX
-- NOLIB TrotRank
-- NOLIB TrotX
-- NOLIB Comb
-- NOLIB Trot
theorem order_swap : ((List.range 12).all fun i => (List.range 12).all fun j => if i < j then spec_MoveOrder.f 70 0 (i : Int) (j : Int) == some (2, true) else true) = true := by decide +kernel
theorem order_turn : ((List.range 13).all fun i => if 2 ≤ i then spec_MoveOrder.f 70 1 (i : Int) 0 == some (2, true) else true) = true := by decide +kernel
theorem order_rot : ((List.range 13).all fun i => if 2 ≤ i then spec_MoveOrder.f 70 2 (i : Int) 0 == some ((i : Int), true) else true) = true := by decide +kernel
theorem MoveOrder_both (c i j : Int) : ∃ r : Int × Bool, Ev (fun q => spec_MoveOrder.f q c i j) r ∧ impl_MoveOrder.f c i j = some r := by
  unfold impl_MoveOrder.f
  rw [isMove_eq 12 c i j (by omega) (by omega)]
  by_cases h : isMv 12 c i j = true
  · simp only [Option.bind_some]
    rw [if_pos h]
    have h' := of_decide_eq_true h
    rcases h' with ⟨rfl, h0, h1, h2⟩ | ⟨h0, h1, h2, rfl⟩
    · refine ⟨(2, true), ?_, by rw [if_neg (by omega)]⟩
      obtain ⟨I, rfl⟩ := Int.eq_ofNat_of_zero_le h0
      obtain ⟨J, rfl⟩ := Int.eq_ofNat_of_zero_le (show 0 ≤ j by omega)
      have t := List.all_eq_true.1 (List.all_eq_true.1 order_swap I (List.mem_range.2 (by omega))) J (List.mem_range.2 (by omega))
      rw [if_pos (by omega)] at t
      exact evTab (g := fun q => spec_MoveOrder.f q 0 (I : Int) (J : Int)) (spec_MoveOrder.mono _ _ _) 70 (beq_iff_eq.1 t)
    · obtain ⟨I, rfl⟩ := Int.eq_ofNat_of_zero_le (show 0 ≤ i by omega)
      rcases h0 with rfl | rfl
      · refine ⟨(2, true), ?_, by rw [if_neg (by omega)]⟩
        have t := List.all_eq_true.1 order_turn I (List.mem_range.2 (by omega))
        rw [if_pos (by omega)] at t
        exact evTab (g := fun q => spec_MoveOrder.f q 1 (I : Int) 0) (spec_MoveOrder.mono _ _ _) 70 (beq_iff_eq.1 t)
      · refine ⟨((I : Int), true), ?_, by rw [if_pos rfl]⟩
        have t := List.all_eq_true.1 order_rot I (List.mem_range.2 (by omega))
        rw [if_pos (by omega)] at t
        exact evTab (g := fun q => spec_MoveOrder.f q 2 (I : Int) 0) (spec_MoveOrder.mono _ _ _) 70 (beq_iff_eq.1 t)
  · simp only [Option.bind_some]
    rw [if_neg h]
    refine ⟨_, ?_, rfl⟩
    unfold spec_MoveOrder.f
    rw [moGood_eq 12 c i j (by omega) (by omega)]
    exact evSome (evNeg h (Ev.now _))
/-- Both sides answer the same within so many rounds. -/
def signOk (c i j : Int) : Bool := spec_MoveSign.f 100 c i j == impl_MoveSign.f 100 c i j && (spec_MoveSign.f 100 c i j).isSome
theorem sign_swap : ((List.range 12).all fun i => (List.range 12).all fun j => if i < j then signOk 0 (i : Int) (j : Int) else true) = true := by decide +kernel
theorem sign_turn : ((List.range 13).all fun i => if 2 ≤ i then signOk 1 (i : Int) 0 && signOk 2 (i : Int) 0 else true) = true := by decide +kernel
theorem sign_use {c i j : Int} (h : signOk c i j = true) : ∃ r, Ev (fun q => spec_MoveSign.f q c i j) r ∧ Ev (fun q => impl_MoveSign.f q c i j) r := by
  unfold signOk at h
  simp only [Bool.and_eq_true, beq_iff_eq] at h
  obtain ⟨r, hr⟩ := Option.isSome_iff_exists.1 h.2
  exact ⟨r, evTab (g := fun q => spec_MoveSign.f q c i j) (spec_MoveSign.mono _ _ _) 100 hr, evTab (g := fun q => impl_MoveSign.f q c i j) (impl_MoveSign.mono _ _ _) 100 (h.1 ▸ hr)⟩
theorem MoveSign_both (c i j : Int) : ∃ r : Int × Bool, Ev (fun q => spec_MoveSign.f q c i j) r ∧ Ev (fun q => impl_MoveSign.f q c i j) r := by
  by_cases h : isMv 12 c i j = true
  · have h' := of_decide_eq_true h
    rcases h' with ⟨rfl, h0, h1, h2⟩ | ⟨h0, h1, h2, rfl⟩
    · obtain ⟨I, rfl⟩ := Int.eq_ofNat_of_zero_le h0
      obtain ⟨J, rfl⟩ := Int.eq_ofNat_of_zero_le (show 0 ≤ j by omega)
      have t := List.all_eq_true.1 (List.all_eq_true.1 sign_swap I (List.mem_range.2 (by omega))) J (List.mem_range.2 (by omega))
      rw [if_pos (by omega)] at t
      exact sign_use t
    · obtain ⟨I, rfl⟩ := Int.eq_ofNat_of_zero_le (show 0 ≤ i by omega)
      have t := List.all_eq_true.1 sign_turn I (List.mem_range.2 (by omega))
      rw [if_pos (by omega)] at t
      simp only [Bool.and_eq_true] at t
      rcases h0 with rfl | rfl
      · exact sign_use t.1
      · exact sign_use t.2
  · refine ⟨(0, false), ?_, ?_⟩
    · unfold spec_MoveSign.f
      rw [moGood_eq 12 c i j (by omega) (by omega)]
      exact evSome (evNeg h (Ev.now _))
    · unfold impl_MoveSign.f
      rw [isMove_eq 12 c i j (by omega) (by omega)]
      exact evSome (evNeg h (Ev.now _))
theorem IsMove_both (n c i j : Int) : ∃ r : Bool × Bool, impl_IsMove.f n c i j = some r ∧ spec_IsMove.f n c i j = some r := by
  unfold spec_IsMove.f impl_IsMove.f
  simp only [raItems_eq, within_eq, Option.bind_some]
  by_cases h : 0 ≤ n ∧ n ≤ 12
  · rw [if_pos (by simpa using h), if_pos (by simpa using h), moGood_eq n c i j h.1 h.2, isMove_eq n c i j h.1 h.2]
    exact ⟨_, rfl, rfl⟩
  · rw [if_neg (by simpa using h), if_neg (by simpa using h)]
    exact ⟨_, rfl, rfl⟩
theorem mvTail3 (l : List Int) (hl : Byt l) : Ev (fun q => laws_FnMoves.j3 q l) true := by
  refine Ev.step (fun k => by rw [laws_FnMoves.j3]) ?_
  obtain ⟨a, b, c, hd⟩ := drawMoveOrder_ev l hl
  obtain ⟨⟨o1, o2⟩, h2, h1⟩ := MoveOrder_both a b c
  obtain ⟨⟨s1, s2⟩, h4, h3⟩ := MoveSign_both a b c
  obtain ⟨n, x, y, z, he⟩ := drawIsMove_ev l hl
  obtain ⟨⟨m1, m2⟩, h5, h6⟩ := IsMove_both n x y z
  refine Ev.bind hd ?_
  dsimp only
  rw [h1]
  refine evSome (Ev.bind h2 (Ev.bind h3 (Ev.bind h4 (Ev.bind he ?_))))
  dsimp only
  rw [h5]
  refine evSome ?_
  rw [h6]
  exact evSome (evPos (by simp) (evPos rfl (evPos (by simp) (evPos rfl (evPos (by simp) (evEq (by simp)))))))
theorem mvLoop (l1 : List Int) (hl : Byt l1) (l : List Int) (a b c : Int) (hg : Mgood l.length a b c) (o : Int) (ho : o ≤ 1000) : ∀ (d : Nat) (now : List Int) (k : Int), isPm now = true → now.length = l.length → 1 ≤ k → k + d = o + 1 → mvN a b c d now = l →
    Ev (fun q => laws_FnMoves.l0 q l1 l o now k a b c) true := by
  intro d
  induction d with
  | zero =>
    intro now k hp hn hk hd h
    have : now = l := h
    subst this
    have h12 := (isPm_perm hp).1
    refine Ev.step (fun k => by rw [laws_FnMoves.l0]) ?_
    exact evNeg (by omega) (Ev.bind (uSame_self now (by omega)) (evPos rfl (mvTail3 l1 hl)))
  | succ d ih =>
    intro now k hp hn hk hd h
    have h12 := (isPm_perm hp).1
    have hg2 : Mgood now.length a b c := by rw [hn]; exact hg
    have hv : isMv now.length a b c = true := by
      simp only [isMv, decide_eq_true_eq]; unfold Mgood at hg2; omega
    have hap := ApplyMove_ev now (by omega) a b c
    unfold apM at hap
    rw [if_pos ⟨hp, hv⟩] at hap
    refine Ev.step (fun k => by rw [laws_FnMoves.l0]) ?_
    refine evPos (by omega) (Ev.bind hap (evPos rfl ?_))
    rw [wr (x := k + 1) (by omega) (by omega)]
    exact ih (mv now a b c) (k + 1) (isPm_mvX hp a b c hg2) (by rw [mv_length]; exact hn) (by omega) (by omega) h
theorem FnMoves : laws_FnMoves.Pure := by
  intro l0 l1 hm0 hb0 hw0 hm1 hb1 hw1
  refine Ev.rounds (g := fun q => laws_FnMoves.f q l0 l1) ?_
  unfold laws_FnMoves.f
  obtain ⟨t, ht, hbig⟩ := big_eq l0 l1
  rw [ht]
  refine evSome ?_
  cases t
  rotate_left
  · exact evPos rfl (Ev.now _)
  obtain ⟨q0, q1⟩ := hbig rfl
  have y0 := byt_of q0 hw0
  have y1 := byt_of q1 hw1
  refine evNeg (by simp) ?_
  obtain ⟨l, a, b, c, hl, hd⟩ := drawApplyMove_ev l0 y0
  have h1 := ApplyMove_ev l (by omega) a b c
  have h2 := spec_ApplyMove_ev l (by omega) a b c
  refine Ev.bind hd (Ev.bind h1 (Ev.bind h2 (evNeg (by simp) ?_)))
  by_cases hc : isPm l = true ∧ isMv l.length a b c = true
  rotate_left
  · unfold apM
    rw [if_neg hc]
    refine Ev.bind (uSame_self [] (by simp)) (Ev.step (fun k => by rw [laws_FnMoves.j0]) ?_)
    exact evNeg (by simp) (evNeg (by simp) (mvTail3 l1 y1))
  obtain ⟨hp, hv⟩ := hc
  have hg := isMv_good hv
  have h12 := (isPm_perm hp).1
  have hnd := isPm_nodup hp
  have hp2 := isPm_mvX hp a b c hg
  have hml := mv_length l a b c
  have hv12 : isMv 12 a b c = true := by
    simp only [isMv, decide_eq_true_eq]; unfold Mgood at hg; omega
  have hg12 : Mgood 12 a b c := isMv_good hv12
  have ho : impl_MoveOrder.f a b c = some (((ord a b : Nat) : Int), true) := by
    unfold impl_MoveOrder.f
    rw [isMove_eq 12 a b c (by omega) (by omega), hv12, Option.bind_some, if_pos rfl]
    unfold ord
    by_cases e : a = 2
    · rw [if_pos e, if_pos e]
      unfold Mgood at hg12
      congr 2; omega
    · rw [if_neg e, if_neg e]; rfl
  have hs : Ev (fun q => impl_MoveSign.f q a b c) (sgm a b c, true) := by
    unfold impl_MoveSign.f
    rw [isMove_eq 12 a b c (by omega) (by omega), hv12]
    have h3 := sign_ev (mv (upTo 12) a b c) (by rw [mv_length, upTo_length]; omega)
    rw [sgm_id a b c hg12] at h3
    exact evSome (evPos rfl (Ev.bind (identity_ev 12 (by omega)) (Ev.bind (moved_ev (upTo 12) (by rw [upTo_length]; omega) a b c (by rw [upTo_length]; exact hg12)) (Ev.bind h3 (Ev.now _)))))
  have hs1 := SignOf_ev l (by omega)
  rw [if_pos hp] at hs1
  have hs2 := SignOf_ev (mv l a b c) (by omega)
  rw [if_pos hp2, sg_mv l hnd a b c hg] at hs2
  have him : impl_IsMove.f (l.length : Int) a b c = some (true, true) := by
    unfold impl_IsMove.f
    simp only [within_eq, Option.bind_some]
    rw [if_pos (by simp; omega), isMove_eq _ a b c (by omega) (by omega), hv]
    rfl
  have hpm : ∀ x y : Int, (x = 1 ∨ x = -1) → (y = 1 ∨ y = -1) → wrap64 (x * y) = x * y := by
    rintro _ _ (rfl | rfl) (rfl | rfl) <;> exact wr (by omega) (by omega)
  have hpr : wrap64 (sgm a b c * sg l) = sgm a b c * sg l := by
    refine hpm _ _ ?_ ?_
    · unfold sgm; omega
    · unfold sg; omega
  unfold apM
  rw [if_pos ⟨hp, hv⟩]
  refine Ev.bind (uSame_self (mv l a b c) (by omega)) (Ev.step (fun k => by rw [laws_FnMoves.j0]) ?_)
  refine evNeg (by simp) (evPos rfl ?_)
  rw [ho]
  refine evSome (Ev.bind hs (Ev.bind hs1 (Ev.bind hs2 ?_)))
  rw [him]
  refine evSome (evPos rfl (evPos rfl (evPos rfl (evPos rfl (evPos ?_ (evPos rfl ?_))))))
  · rw [hpr]
  refine Ev.step (fun k => by rw [laws_FnMoves.j1]) ?_
  refine evNeg (by simp) ?_
  have ho2 : ord a b ≤ 12 := by
    unfold ord; unfold Mgood at hg12
    split <;> omega
  exact mvLoop l1 y1 l a b c hg ((ord a b : Nat) : Int) (by omega) (ord a b) l 1 hp rfl (by omega) (by omega) (mvN_ord l a b c hg)

end Go.Proofs.Ytcpdgfmljhfbmaa.Pure
