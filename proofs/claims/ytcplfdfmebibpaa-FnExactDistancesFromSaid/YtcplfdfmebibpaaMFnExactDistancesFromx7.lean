/- Functions of the program as Lean functions, each with the proof that its call comes to just that: laid for this claim by this session's own program. -/
import Derived.Test.YtcplfdfmebibpaaMFnExactDistancesFromx0
import Derived.Test.YtcplfdfmebibpaaMFnExactDistancesFromx6
namespace Go.Proofs.Ytcplfdfmebibpaa.MFnExactDistancesFrom
open Go.RowKit Go.Proofs.YtcplfdfmebibpaaW.PrintWords Go.Proofs.YtcplfdfmebibpaaW.PrintLast Go.Proofs.YtcplfdfmebibpaaW.PrintMore
attribute [local go_sem] max2_int min2_int max_two min_two max_three min_three max_four min_four   -- for this text's walks alone
set_option linter.unusedVariables false
set_option linter.unusedSimpArgs false

/-! ### impl_moved: function 66 -/
/-- A beginning turned over, from the ends inward. -/
def impl_moved.r0 : Nat → List Int → Int → Int → Option (List Int)
  | 0, _, _, _ => none
  | k + 1, x0, x2, x3 => if x2 < x3 then (impl_moved.r0 k ((x0.set x2.toNat (rd x0 x3)).set x3.toNat (rd x0 x2)) (x2 + 1) (x3 - 1)) else (some x0)
def impl_moved.f (k : Nat) (l0 : List Int) (a1_0 : Int) (a1_1 : Int) (a1_2 : Int) : Option (List Int) :=
  (impl_copied.f l0).bind fun t => (if l0.length ≤ 1000000 then (if a1_0 = 0 then (if 0 ≤ a1_1 then (if a1_1 < (l0.length : Int) then (if 0 ≤ a1_2 then (if a1_2 < (l0.length : Int) then (some ((l0.set a1_1.toNat (rd l0 a1_2)).set a1_2.toNat (rd l0 a1_1))) else (none)) else (none)) else (none)) else (none))
    else (if a1_0 = 1 then (if 1 ≤ a1_1 then (if a1_1 ≤ (l0.length : Int) then (impl_moved.r0 k l0 0 (a1_1 - 1)) else (none)) else (none))
    else (if a1_0 = 2 then (if 1 ≤ a1_1 then (if a1_1 ≤ (l0.length : Int) then (some (((l0.take a1_1.toNat).drop 1 ++ l0.drop (a1_1 - 1).toNat).set (a1_1 - 1).toNat (rd l0 0))) else (none)) else (none))
    else (none)))) else (none))
theorem impl_moved.mono_l : ∀ k, (∀ y0 y1 y2, LeO (impl_moved.r0 k y0 y1 y2) (impl_moved.r0 (k + 1) y0 y1 y2))
  | 0 => fun _ _ _ r h => by simp [impl_moved.r0] at h
  | k + 1 => by
    have ih0 := impl_moved.mono_l k
    · intro y0 y1 y2
      unfold impl_moved.r0
      repeat' first
      | (with_reducible exact ih0 _ _ _)
      | (with_reducible exact LeO.refl _)
      | (with_reducible exact LeO.none _)
      | (with_reducible refine LeO.ite ?_ ?_)
      | (with_reducible refine LeO.bind ?_ (fun _ => ?_))
      | exact ih0 _ _ _
      | exact LeO.none _
      | refine LeO.ite ?_ ?_
      | refine LeO.bind ?_ (fun _ => ?_)
theorem impl_moved.mono : ∀ a0 a1 a2 a3 k, LeO (impl_moved.f k a0 a1 a2 a3) (impl_moved.f (k + 1) a0 a1 a2 a3) := by
  intro a0 a1 a2 a3 k
  have ih0 := impl_moved.mono_l k
  unfold impl_moved.f
  repeat' first
      | (with_reducible exact ih0 _ _ _)
      | (with_reducible exact LeO.refl _)
      | (with_reducible exact LeO.none _)
      | (with_reducible refine LeO.ite ?_ ?_)
      | (with_reducible refine LeO.bind ?_ (fun _ => ?_))
      | exact ih0 _ _ _
      | exact LeO.none _
      | refine LeO.ite ?_ ?_
      | refine LeO.bind ?_ (fun _ => ?_)
theorem impl_copied_is {l0 t : List Int} (h : impl_copied.f l0 = some t) : t = l0 := by
  unfold impl_copied.f at h
  simp only [Option.bind_some, List.nil_append] at h
  split at h
  · exact (Option.some.inj h).symm
  · cases h
set_option maxHeartbeats 8000000 in
set_option maxRecDepth 100000 in
theorem slices_Reverse_begin (k : Nat) (L r : List Int) (i : Int) (go co base : Nat) (ok : Nat → Prop) (w0 w : World) (hB : Below w0.heap.size w0 w) (hg : w0.heap.size ≤ go)
    (ho : Kd.R (Kd.int .i64) 3 w base ok (.slice (some ⟨go, 0, none⟩) L.length co) L) (h0 : 0 ≤ i) (hm : i ≤ L.length) (hl : L.length ≤ 1000000) (h : impl_moved.r0 k L 0 (i - 1) = some r) :
    Calls Try.prog 99 #[.slice (some ⟨go, 0, none⟩) i.toNat co] w fun e w' => e = .returned (.tuple #[]) ∧ Kd.R (Kd.int .i64) 3 w' base ok (.slice (some ⟨go, 0, none⟩) L.length co) r ∧ Below w0.heap.size w0 w' := by
  obtain ⟨m, rfl⟩ := Int.eq_ofNat_of_zero_le h0
  rw [Int.toNat_natCast]
  have HB := Aside0.mk hB
  have HO := Aside0.mk ho
  have H' := Aside0.mk h
  clear hB ho h
  go_enter Try.func99, Try.ntmps99
  go_wp2
  go_loopg [2, 3] k (fun kq v2 v3 w' => ∃ (x0_1 : List Int) (x2_1 : Int) (x3_1 : Int), v2 = .int .i64 x2_1 ∧ v3 = .int .i64 x3_1 ∧ 0 ≤ x2_1 ∧ x2_1 ≤ m ∧ x3_1 < (m : Int) ∧ -1 ≤ x2_1 + x3_1 ∧ Aside0 (x0_1.length = L.length) ∧ Aside0 (impl_moved.r0 kq x0_1 x2_1 x3_1 = some r) ∧ Aside0 (kq ≤ k) ∧ Aside0 (Kd.R (Kd.int .i64) 3 w' base ok (.slice (some ⟨go, 0, none⟩) L.length co) x0_1) ∧ Aside0 (Below w0.heap.size w0 w'))
  case atStart => exact ⟨L, 0, (m : Int) - 1, rfl, rfl, by omega, by omega, by omega, by omega, ⟨rfl⟩, H', ⟨Nat.le_refl _⟩, HO, HB⟩
  case round =>
    clear H' HO HB
    obtain ⟨x0_1, x2_1, x3_1, rfl, rfl, g0, g1, g2, g3, HLen, HA, HK1, HO, HB⟩ := hrel
    cases gk with
    | zero => exact absurd HA.out (by simp [impl_moved.r0])
    | succ k1 =>
      have H := HA.out
      clear HA
      simp only [impl_moved.r0] at H
      by_cases c : x2_1 < x3_1
      · rw [if_pos c] at H
        have H' := Aside0.mk H
        clear H
        have cb : decide (x2_1 < x3_1) = true := decide_eq_true c
        have q2 : x2_1 < (L.length : Int) := by omega
        have q3 : x3_1 < (L.length : Int) := by omega
        have p3 : 0 ≤ x3_1 := by omega
        have q2m : x2_1 < (m : Int) := by omega
        obtain ⟨hx2, hf2⟩ := Kd.R_celln 0 HO.out x2_1 g0 q2
        obtain ⟨hx3, hf3⟩ := Kd.R_celln 0 HO.out x3_1 p3 q3
        obtain ⟨vj, hyj⟩ := cell?_setCell_some (w := wr) (p := ⟨go, x2_1.toNat, none⟩) (x := .int .i64 (rdOf 0 x0_1 x3_1)) (q := ⟨go, x3_1.toNat, none⟩) hx3
        have HP := Aside0.mk (Kd.R_putg HO.out x2_1 (rdOf 0 x0_1 x3_1)).1
        have HQ := Aside0.mk (Kd.R_putg HP.out x3_1 (rdOf 0 x0_1 x2_1)).1
        clear q2 q3
        go_wp2_with fail
        go_region
        go_wp2
        go_roundg k1
        case measure => have := HK1.out; omega
        case rel => exact ⟨_, x2_1 + 1, x3_1 - 1, rfl, rfl, by omega, by omega, by omega, by omega, ⟨by rw [List.length_set, List.length_set]; exact HLen.out⟩, H', ⟨by have := HK1.out; omega⟩, ⟨Kd.R_drew HQ.out⟩, ⟨below_drew1 (below_set (below_set HB.out hg) hg)⟩⟩
      · rw [if_neg c] at H
        obtain rfl := Option.some.inj H
        have cb : decide (x2_1 < x3_1) = false := decide_eq_false c
        go_wp2
        go_end0
        exact ⟨rfl, HO.out, HB.out⟩
set_option maxHeartbeats 8000000 in
set_option maxRecDepth 100000 in
theorem impl_moved.calls (k : Nat) (A0 : Option Addr) (c0 : Nat) (l0 : List Int) (a1_0 : Int) (a1_1 : Int) (a1_2 : Int) (r : List Int) (w : World) (hr0 : Kd.C (Kd.int .i64) w A0 l0.length l0) (hc0 : l0.length ≤ c0) (h : impl_moved.f k l0 a1_0 a1_1 a1_2 = some r) :
    Calls Try.prog 66 #[.slice A0 l0.length c0, .agg #[.int .i64 a1_0, .int .i64 a1_1, .int .i64 a1_2]] w fun e w' => ∃ v0_ : Value, e = .returned (v0_) ∧ Kd.R (Kd.int .i64) 3 w' w.heap.size (fun _ => True) v0_ r ∧ Below w.heap.size w w' := by
  have hu26 := Try.underlying55
  have HR0 := Aside0.mk hr0
  have HC0 := Aside0.mk hc0
  clear hr0 hc0
  have HB := Aside0.mk (Below.refl w.heap.size w)
  unfold impl_moved.f at h
  obtain ⟨t, A1, H⟩ := Option.bind_eq_some_iff.mp h
  clear h
  obtain rfl := impl_copied_is A1
  have Hc := Aside0.mk A1
  clear A1
  by_cases hl : t.length ≤ 1000000
  rotate_left
  · rw [if_neg hl] at H; cases H
  rw [if_pos hl] at H
  by_cases e0 : a1_0 = 0
  · subst e0
    rw [if_pos rfl] at H
    by_cases hi0 : 0 ≤ a1_1
    rotate_left
    · rw [if_neg hi0] at H; cases H
    rw [if_pos hi0] at H
    by_cases hi : a1_1 < (t.length : Int)
    rotate_left
    · rw [if_neg hi] at H; cases H
    rw [if_pos hi] at H
    by_cases hj0 : 0 ≤ a1_2
    rotate_left
    · rw [if_neg hj0] at H; cases H
    rw [if_pos hj0] at H
    by_cases hj : a1_2 < (t.length : Int)
    rotate_left
    · rw [if_neg hj] at H; cases H
    rw [if_pos hj] at H
    obtain rfl := Option.some.inj H
    clear H
    go_enter Try.func66, Try.ntmps66
    go_wp2_with (first | ((with_reducible refine gate_dst (N := 3) rfl ?_); refine box_event ?hg (N := 3) ?hd (cs := #[.int .i64 0, .int .i64 a1_1, .int .i64 a1_2]) (t := 55) ?hr ?_; (case hd => rfl); (case hg => rfl); (case hr => first | (go_simp; done) | (go_simp; rfl)); intro gb hgb w1 hbox hb; have HB1 := Aside0.mk hb; have BK1 := Aside0.mk hbox; have HG := Aside0.mk hgb; clear HB hb hbox hgb))
    refine (impl_copied.calls A0 c0 t t _ (Kd.C_below HR0.out HB1.out) HC0.out Hc.out).mono ?_
    rintro e w2 ⟨v, rfl, ho, hb2⟩
    have BK2 := Aside0.mk (blk_below BK1.out hb2)
    have HB2 := Aside0.mk (HB1.out.trans (hb2.mono HB1.out.size))
    have HO := Aside0.mk ho
    obtain ⟨go, co, ev, gb9, gl9, cl9, HG9⟩ := Kd.R_form HO.out (by omega)
    subst ev
    have hx0 : w2.cell? ⟨gb, 0, none⟩ = some (.int .i64 0) := (blk_cell BK2.out 0).trans rfl
    have hx1 : w2.cell? ⟨gb, 1, none⟩ = some (.int .i64 a1_1) := (blk_cell BK2.out 1).trans rfl
    have hx2 : w2.cell? ⟨gb, 2, none⟩ = some (.int .i64 a1_2) := (blk_cell BK2.out 2).trans rfl
    obtain ⟨hxi, hfi⟩ := Kd.R_celln 0 HO.out a1_1 hi0 hi
    obtain ⟨hxj, hfj⟩ := Kd.R_celln 0 HO.out a1_2 hj0 hj
    have hne : gb ≠ go := by have := HG.out; have := blk_lt BK1.out; omega
    have hgo : w.heap.size ≤ go := Nat.le_trans HB1.out.size gb9
    have hlt : decide (a1_1 < (t.length : Int)) = true := decide_eq_true hi
    have hltj : decide (a1_2 < (t.length : Int)) = true := decide_eq_true hj
    obtain ⟨vj, hyj⟩ := cell?_setCell_some (w := w2) (p := ⟨go, a1_1.toNat, none⟩) (x := .int .i64 (rdOf 0 t a1_2)) (q := ⟨go, a1_2.toNat, none⟩) hxj
    have HP := Aside0.mk (Kd.R_putg HO.out a1_1 (rdOf 0 t a1_2)).1
    have HQ := Aside0.mk (Kd.R_lower (Kd.R_putg HP.out a1_2 (rdOf 0 t a1_1)).1 HB1.out.size)
    clear ho hb2 HG9 HR0 HC0 Hc BK1 BK2 HB1 HO HP
    go_wp2_with fail
    go_region
    go_wp2
    go_ret
    exact ⟨_, rfl, Kd.R_drew HQ.out, below_drew1 (below_set (below_set HB2.out hgo) hgo)⟩
  · rw [if_neg e0] at H
    have e0b : (a1_0 == 0) = false := beq_eq_false_iff_ne.mpr e0
    by_cases e1 : a1_0 = 1
    · subst e1
      clear e0 e0b
      rw [if_pos rfl] at H
      by_cases hi0 : 1 ≤ a1_1
      rotate_left
      · rw [if_neg hi0] at H; cases H
      rw [if_pos hi0] at H
      by_cases hi : a1_1 ≤ (t.length : Int)
      rotate_left
      · rw [if_neg hi] at H; cases H
      rw [if_pos hi] at H
      have H' := Aside0.mk H
      clear H
      go_enter Try.func66, Try.ntmps66
      go_wp2_with (first | ((with_reducible refine gate_dst (N := 3) rfl ?_); refine box_event ?hg (N := 3) ?hd (cs := #[.int .i64 1, .int .i64 a1_1, .int .i64 a1_2]) (t := 55) ?hr ?_; (case hd => rfl); (case hg => rfl); (case hr => first | (go_simp; done) | (go_simp; rfl)); intro gb hgb w1 hbox hb; have HB1 := Aside0.mk hb; have BK1 := Aside0.mk hbox; have HG := Aside0.mk hgb; clear HB hb hbox hgb))
      refine (impl_copied.calls A0 c0 t t _ (Kd.C_below HR0.out HB1.out) HC0.out Hc.out).mono ?_
      rintro e w2 ⟨v, rfl, ho, hb2⟩
      have BK2 := Aside0.mk (blk_below BK1.out hb2)
      have HB2 := Aside0.mk (HB1.out.trans (hb2.mono HB1.out.size))
      have HO := Aside0.mk ho
      have hx0 : w2.cell? ⟨gb, 0, none⟩ = some (.int .i64 1) := (blk_cell BK2.out 0).trans rfl
      have hx1 : w2.cell? ⟨gb, 1, none⟩ = some (.int .i64 a1_1) := (blk_cell BK2.out 1).trans rfl
      obtain ⟨go, co, ev, gb9, gl9, cl9, HG9⟩ := Kd.R_form HO.out (by omega)
      subst ev
      have hgo : w.heap.size ≤ go := Nat.le_trans HB1.out.size gb9
      have Hco := (Kd.R_reads' HO.out).2.1
      obtain ⟨inf0, hinf, hz1, hsz1, hb1⟩ := info_parts info3
      have hcut := cut_to (P := Try.prog) 22 3 .i64 Try.underlying22 hinf (some ⟨go, 0, none⟩) t.length co a1_1 (by omega) hi Hco
      have Hgo := Aside0.mk hgo
      clear ho hb2 HG9 HR0 HC0 Hc BK1 BK2 hinf hz1 hsz1 hb1 gb9 gl9 hgo Hco
      go_wp2_with fail
      refine (slices_Reverse_begin k t r a1_1 go co w1.heap.size (fun _ => True) w w2 HB2.out Hgo.out HO.out (by omega) hi hl H'.out).mono ?_
      rintro e w3 ⟨rfl, ho3, hb3⟩
      have HO3 := Aside0.mk (Kd.R_lower ho3 HB1.out.size)
      have HB3 := Aside0.mk hb3
      clear ho3 hb3
      go_wp2
      go_ret
      exact ⟨_, rfl, HO3.out, HB3.out⟩
    · rw [if_neg e1] at H
      have e1b : (a1_0 == 1) = false := beq_eq_false_iff_ne.mpr e1
      by_cases e2 : a1_0 = 2
      rotate_left
      · rw [if_neg e2] at H; cases H
      subst e2
      clear e0 e0b e1 e1b
      rw [if_pos rfl] at H
      by_cases hi0 : 1 ≤ a1_1
      rotate_left
      · rw [if_neg hi0] at H; cases H
      rw [if_pos hi0] at H
      by_cases hi : a1_1 ≤ (t.length : Int)
      rotate_left
      · rw [if_neg hi] at H; cases H
      rw [if_pos hi] at H
      obtain rfl := Option.some.inj H
      clear H
      obtain ⟨inf0, hinf, hz1, hsz1, hb1⟩ := info_parts info3
      obtain ⟨A1, hA1⟩ : ∃ A1, A1 = (if c0 = (1 : Int).toNat then A0 else A0.map (·.add ((1 : Int).toNat * 1))) := ⟨_, rfl⟩
      have hcut := cut_mid (P := Try.prog) 22 3 .i64 .i64 Try.underlying22 hinf 1 hsz1 A0 t.length c0 1 a1_1 (by omega) hi0 hi HC0.out
      rw [← hA1] at hcut
      have HR1 := Aside0.mk (Kd.C_mid (lo := 1) (hi := a1_1.toNat) HR0.out (by omega) (by omega) HC0.out)
      rw [show (if c0 = 1 then A0 else A0.map (·.add (1 * (Kd.int .i64).sz))) = A1 from hA1.symm, show ((t.take a1_1.toNat).drop 1).length = a1_1.toNat - 1 from by rw [List.length_drop, List.length_take]; omega] at HR1
      clear hA1
      obtain ⟨ad0, ed0, hxl⟩ := Kd.at_int HR0.out 0 (by omega) (by omega)
      cases ed0
      have hszI : (Try.prog.info? 3).map (·.size) = some 1 := by rw [hinf]; exact congrArg some hsz1
      clear hinf hz1 hsz1 hb1
      have HSZ := Aside0.mk hszI
      have HXL := Aside0.mk hxl
      clear hszI hxl
      go_enter Try.func66, Try.ntmps66
      go_wp2_with (first | ((with_reducible refine gate_dst (N := 3) rfl ?_); refine box_event ?hg (N := 3) ?hd (cs := #[.int .i64 2, .int .i64 a1_1, .int .i64 a1_2]) (t := 55) ?hr ?_; (case hd => rfl); (case hg => rfl); (case hr => first | (go_simp; done) | (go_simp; rfl)); intro gb hgb w1 hbox hb; have HB1 := Aside0.mk hb; have BK1 := Aside0.mk hbox; have HG := Aside0.mk hgb; clear HB hb hbox hgb))
      refine (impl_copied.calls (some ad0) c0 t t _ (Kd.C_below HR0.out HB1.out) HC0.out Hc.out).mono ?_
      rintro e w2 ⟨v, rfl, ho, hb2⟩
      have BK2 := Aside0.mk (blk_below BK1.out hb2)
      have HB2 := Aside0.mk (HB1.out.trans (hb2.mono HB1.out.size))
      obtain ⟨go, co, ev, gb9, gl9, cl9, HG9⟩ := Kd.R_form ho (by omega)
      subst ev
      have HO := Aside0.mk (Kd.R_lower ho HB1.out.size)
      have hx0 : w2.cell? ⟨gb, 0, none⟩ = some (.int .i64 2) := (blk_cell BK2.out 0).trans rfl
      have hx1 : w2.cell? ⟨gb, 1, none⟩ = some (.int .i64 a1_1) := (blk_cell BK2.out 1).trans rfl
      have hne : gb ≠ go := by have := HG.out; have := blk_lt BK1.out; omega
      have Hgo := Aside0.mk (Nat.le_trans HB1.out.size gb9)
      clear ho hb2 HG9 HC0 Hc BK1 BK2 gb9 gl9
      go_wp2_with (first | ((with_reducible refine gate_builtin (b := .copy) (xs := #[.tmp 39, .tmp 43]) rfl ?_); refine Kd.R_copy (enc := Value.int .i64) (d := 0) (w0 := w) w.heap.size rfl (.tmp 39) (.tmp 43) 22 22 3 rfl Try.underlying22 HSZ.out (.slice (some ⟨go, 0, none⟩) t.length co) t ((t.take a1_1.toNat).drop 1) A1 (a1_1.toNat - 1) (c0 - 1) (fun _ => True) rfl rfl HO.out (Kd.C_below HR1.out HB2.out) HB2.out HB2.out.size ?_; intro w3 ho3 hb3 hg3; rw [show min (a1_1.toNat - 1) t.length = a1_1.toNat - 1 from by omega, List.take_of_length_le (show ((t.take a1_1.toNat).drop 1).length ≤ a1_1.toNat - 1 by rw [List.length_drop, List.length_take]; omega), show a1_1.toNat - 1 = (a1_1 - 1).toNat from by omega] at ho3; have HO3 := Aside0.mk ho3; have HB3 := Aside0.mk hb3; have hx13 := cell_grown hg3 hx1 (fun e_ => hne (Option.some.inj e_)); clear HO HR1 HB2 hcut hx0 hx1 ho3 hb3 hg3))
      have hxl3 := (HB3.out.cell (World.block_lt_of_cell? w _ HXL.out)).trans HXL.out
      rw [show ad0.add (Int.toNat 0) = ad0 from by simp [Addr.add]] at hxl3
      have htl : 0 < t.length := by omega
      have hlen : ((t.take a1_1.toNat).drop 1 ++ t.drop (a1_1 - 1).toNat).length = t.length := by rw [List.length_append, List.length_drop, List.length_drop, List.length_take]; omega
      obtain ⟨hxi, hfi⟩ := Kd.R_celln 0 HO3.out (a1_1 - 1) (by omega) (by omega)
      have HQ := Aside0.mk (Kd.R_putg HO3.out (a1_1 - 1) (rd t 0)).1
      clear HXL HSZ HB1 hlen
      have hwr : IntKind.i64.wrap (a1_1 - 1) = a1_1 - 1 := IntWalk.i64_in _ (by omega)
      have hp1 : 0 ≤ a1_1 - 1 := by omega
      have hq1 : a1_1 - 1 < (t.length : Int) := by omega
      have HE := Aside0.mk (show (a1_1 - 1).toNat = a1_1.toNat - 1 from by omega)
      rw [HE.out] at hxi hfi
      go_wp2_with fail
      go_region
      all_goals
        clear hwr
        go_wp2
        go_ret
        exact ⟨_, rfl, by rw [← HE.out]; exact Kd.R_drew HQ.out, below_drew1 (below_set HB3.out Hgo.out)⟩

/-! ### impl_permutationRank: function 78 -/
mutual
def impl_permutationRank.l0 : Nat → List Int → Int → List Int → Int → Int → Option (Int)
  | 0, _, _, _, _, _ => none
  | k + 1, x0, x3, x9, x10, x11 => if x11 < x10 then (if 0 ≤ x11 then (if x11 < (x9.length : Int) then (if 0 ≤ (wrap64 (x11 + 1)) then (if (wrap64 (x11 + 1)) ≤ (x0.length : Int) then (impl_permutationRank.l1 k x0 x3 x11 (rd x9 x11) 0 x9 x10 x11 (x0.drop ((wrap64 (x11 + 1)) : Int).toNat) ((x0.drop ((wrap64 (x11 + 1)) : Int).toNat).length : Int) 0) else (none)) else (none)) else (none)) else (none)) else (some x3)
def impl_permutationRank.l1 : Nat → List Int → Int → Int → Int → Int → List Int → Int → Int → List Int → Int → Int → Option (Int)
  | 0, _, _, _, _, _, _, _, _, _, _, _ => none
  | k + 1, x0, x3, x4, x5, x6, x9, x10, x11, x19, x20, x21 => if x21 < x20 then (if 0 ≤ x21 then (if x21 < (x19.length : Int) then (if (rd x19 x21) < x5 then (impl_permutationRank.l1 k x0 x3 x4 x5 (wrap64 (x6 + 1)) x9 x10 x11 x19 x20 (wrap64 (x21 + 1))) else (impl_permutationRank.l1 k x0 x3 x4 x5 x6 x9 x10 x11 x19 x20 (wrap64 (x21 + 1)))) else (none)) else (none)) else ((impl_factorial.f k (wrap64 ((wrap64 ((x0.length : Int) - x4)) - 1))).bind fun t211 => (impl_permutationRank.l0 k x0 (wrap64 (x3 + (wrap64 (x6 * t211)))) x9 x10 (wrap64 (x11 + 1))))
end
def impl_permutationRank.f (k : Nat) (l0 : List Int) : Option (Int) := impl_permutationRank.l0 k l0 0 l0 (l0.length : Int) 0
theorem impl_permutationRank.mono_l : ∀ k, (∀ y0 y1 y2 y3 y4, LeO (impl_permutationRank.l0 k y0 y1 y2 y3 y4) (impl_permutationRank.l0 (k + 1) y0 y1 y2 y3 y4)) ∧ (∀ y0 y1 y2 y3 y4 y5 y6 y7 y8 y9 y10, LeO (impl_permutationRank.l1 k y0 y1 y2 y3 y4 y5 y6 y7 y8 y9 y10) (impl_permutationRank.l1 (k + 1) y0 y1 y2 y3 y4 y5 y6 y7 y8 y9 y10))
  | 0 => ⟨fun _ _ _ _ _ r h => by simp [impl_permutationRank.l0] at h, fun _ _ _ _ _ _ _ _ _ _ _ r h => by simp [impl_permutationRank.l1] at h⟩
  | k + 1 => by
    obtain ⟨ih0, ih1⟩ := impl_permutationRank.mono_l k
    refine ⟨?_, ?_⟩
    · intro y0 y1 y2 y3 y4
      unfold impl_permutationRank.l0
      repeat' first
      | (with_reducible exact ih0 _ _ _ _ _)
      | (with_reducible exact ih1 _ _ _ _ _ _ _ _ _ _ _)
      | (with_reducible exact impl_factorial.mono _ _)
      | (with_reducible exact LeO.refl _)
      | (with_reducible exact LeO.none _)
      | (with_reducible refine LeO.ite ?_ ?_)
      | (with_reducible refine LeO.bind ?_ (fun _ => ?_))
      | exact ih0 _ _ _ _ _
      | exact ih1 _ _ _ _ _ _ _ _ _ _ _
      | exact impl_factorial.mono _ _
      | exact LeO.none _
      | refine LeO.ite ?_ ?_
      | refine LeO.bind ?_ (fun _ => ?_)
    · intro y0 y1 y2 y3 y4 y5 y6 y7 y8 y9 y10
      unfold impl_permutationRank.l1
      repeat' first
      | (with_reducible exact ih0 _ _ _ _ _)
      | (with_reducible exact ih1 _ _ _ _ _ _ _ _ _ _ _)
      | (with_reducible exact impl_factorial.mono _ _)
      | (with_reducible exact LeO.refl _)
      | (with_reducible exact LeO.none _)
      | (with_reducible refine LeO.ite ?_ ?_)
      | (with_reducible refine LeO.bind ?_ (fun _ => ?_))
      | exact ih0 _ _ _ _ _
      | exact ih1 _ _ _ _ _ _ _ _ _ _ _
      | exact impl_factorial.mono _ _
      | exact LeO.none _
      | refine LeO.ite ?_ ?_
      | refine LeO.bind ?_ (fun _ => ?_)
theorem impl_permutationRank.mono : ∀ a0 k, LeO (impl_permutationRank.f k a0) (impl_permutationRank.f (k + 1) a0) := by
  intro a0 k
  obtain ⟨ih0, ih1⟩ := impl_permutationRank.mono_l k
  unfold impl_permutationRank.f
  repeat' first
      | (with_reducible exact ih0 _ _ _ _ _)
      | (with_reducible exact ih1 _ _ _ _ _ _ _ _ _ _ _)
      | (with_reducible exact impl_factorial.mono _ _)
      | (with_reducible exact LeO.refl _)
      | (with_reducible exact LeO.none _)
      | (with_reducible refine LeO.ite ?_ ?_)
      | (with_reducible refine LeO.bind ?_ (fun _ => ?_))
      | exact ih0 _ _ _ _ _
      | exact ih1 _ _ _ _ _ _ _ _ _ _ _
      | exact impl_factorial.mono _ _
      | exact LeO.none _
      | refine LeO.ite ?_ ?_
      | refine LeO.bind ?_ (fun _ => ?_)
set_option maxHeartbeats 8000000 in
set_option maxRecDepth 100000 in
theorem impl_permutationRank.calls (k : Nat) (A0 : Option Addr) (c0 : Nat) (l0 : List Int) (r : Int) (w : World) (hr0 : Kd.C (Kd.int .i64) w A0 l0.length l0) (hc0 : l0.length ≤ c0) (h : impl_permutationRank.f k l0 = some r) :
    Calls Try.prog 78 #[.slice A0 l0.length c0] w fun e w' => e = .returned (.int .i64 r) ∧ Drawn0 w w' := by
  have HR0 := Aside0.mk hr0
  have HC0 := Aside0.mk hc0
  clear hr0 hc0
  have H : (impl_permutationRank.l0 k l0 0 l0 (l0.length : Int) 0) = some r := h
  clear h
  have H' := Aside0.mk H
  clear H
  go_enter Try.func78, Try.ntmps78
  go_wp2
  go_loopg [3, 11] k (fun kq v3 v11 w' => ∃ (x3_1 : Int) (x11_1 : Int), v3 = .int .i64 x3_1 ∧ v11 = .int .i64 x11_1 ∧ Aside0 (impl_permutationRank.l0 kq l0 x3_1 l0 (l0.length : Int) x11_1 = some r) ∧ Aside0 (kq ≤ k) ∧ Drawn0 w w')
  case atStart => exact ⟨(0), (0), (by first | rfl | (simp; done) | (simp [*]; done)), (by first | rfl | (simp; done) | (simp [*]; done)), H', ⟨Nat.le_refl _⟩, by repeat (first | exact Drawn0.refl _ | apply Drawn0.step)⟩
  case round =>
    clear H'
    obtain ⟨x3_1, x11_1, rfl, rfl, HA, HK1, ⟨m1, rfl⟩⟩ := hrel
    cases gk with
    | zero => exact absurd HA.out (by simp [impl_permutationRank.l0])
    | succ k1 =>
      have H := HA.out
      clear HA
      simp only [impl_permutationRank.l0] at H
      by_cases c2 : x11_1 < (l0.length : Int)
      · rw [if_pos c2] at H
        have c2b0 : decide (x11_1 < (l0.length : Int)) = true := decide_eq_true c2
        clear c2
        by_cases c3 : 0 ≤ x11_1
        · rw [if_pos c3] at H
          have c3b0 : decide (0 ≤ x11_1) = true := decide_eq_true c3
          clear c3
          by_cases c4 : x11_1 < (l0.length : Int)
          · rw [if_pos c4] at H
            have c4b0 : decide (x11_1 < (l0.length : Int)) = true := decide_eq_true c4
            clear c4
            obtain ⟨ji5, hji5⟩ : ∃ j_ : Int, (wrap64 (x11_1 + 1)) = j_ := ⟨_, rfl⟩
            replace H : (if 0 ≤ (ji5) then (if (ji5) ≤ (l0.length : Int) then (impl_permutationRank.l1 k1 l0 x3_1 x11_1 (rd l0 x11_1) 0 l0 (l0.length : Int) x11_1 (l0.drop ((ji5) : Int).toNat) ((l0.drop ((ji5) : Int).toNat).length : Int) 0) else (none)) else (none)) = some r := by first | (rw [hji5] at H; exact H) | (simp only [hji5] at H ⊢; exact H)
            have hji5w : (IntKind.i64.wrap (x11_1 + 1)) = ji5 := (i64_w _).trans hji5
            by_cases c6 : 0 ≤ (ji5)
            · rw [if_pos c6] at H
              have c6b0 := eq_true c6
              have c6b1 : decide (0 ≤ (ji5)) = true := decide_eq_true c6
              clear c6
              by_cases c7 : (ji5) ≤ (l0.length : Int)
              · rw [if_pos c7] at H
                have c7b0 := eq_true c7
                have c7b1 : decide ((ji5) ≤ (l0.length : Int)) = true := decide_eq_true c7
                clear c7
                have H' := Aside0.mk H
                clear H
                have p208 : 0 ≤ (x11_1 : Int) := of_decide_eq_true (by first | (with_reducible assumption) | assumption)
                have q208 : x11_1 < (l0.length : Int) := of_decide_eq_true (by first | (with_reducible assumption) | assumption)
                obtain ⟨ad208, e208, hx208_0⟩ := Kd.at_int HR0.out x11_1 p208 q208
                cases e208
                replace p208 := eq_true p208
                replace q208 := eq_true q208
                obtain ⟨i08, hi08, _, hsz8, _⟩ := info_parts info3
                obtain ⟨A8, hcut8, hA8, hC8⟩ := print_drop_of (P := Try.prog) (Value.int .i64) 0 22 3 .i64 Try.underlying22 hi08 hsz8 (some ad208) c0 l0 (ji5) (of_decide_eq_true (by first | (with_reducible assumption) | assumption)) (of_decide_eq_true (by first | (with_reducible assumption) | assumption)) HC0.out
                have HR209 := Aside0.mk (Kd.C_of_reads (h1 := fun _ => rfl) (hA8 _ (Kd.reads_of_C HR0.out)))
                have HC209 := Aside0.mk hC8
                clear hA8 hC8 hi08 hsz8
                go_wp2
                go_loopg [6, 21] k1 (fun kq v6 v21 w' => ∃ (x6_2 : Int) (x21_2 : Int), v6 = .int .i64 x6_2 ∧ v21 = .int .i64 x21_2 ∧ Aside0 (impl_permutationRank.l1 kq l0 x3_1 x11_1 (rd l0 x11_1) x6_2 l0 (l0.length : Int) x11_1 (l0.drop ((ji5) : Int).toNat) ((l0.drop ((ji5) : Int).toNat).length : Int) x21_2 = some r) ∧ Aside0 (kq ≤ k1) ∧ Drawn0 w w')
                case atStart => exact ⟨(0), (0), (by first | rfl | (simp; done) | (simp [*]; done)), (by first | rfl | (simp; done) | (simp [*]; done)), H', ⟨Nat.le_refl _⟩, by repeat (first | exact Drawn0.refl _ | apply Drawn0.step)⟩
                case round =>
                  clear H'
                  try clear c2
                  try clear c2b0
                  try clear p2
                  try clear q2
                  try clear hx2
                  try clear c3
                  try clear c3b0
                  try clear c4
                  try clear c4b0
                  try clear c6
                  try clear c6b0
                  try clear c6b1
                  try clear p6
                  try clear c7
                  try clear c7b0
                  try clear c7b1
                  try clear hx208_0
                  try clear p208
                  try clear q208
                  obtain ⟨x6_2, x21_2, rfl, rfl, HA, HK2, ⟨m2, rfl⟩⟩ := hrel
                  cases gk with
                  | zero => exact absurd HA.out (by simp [impl_permutationRank.l1])
                  | succ k2 =>
                    have H := HA.out
                    clear HA
                    simp only [impl_permutationRank.l1] at H
                    by_cases c9 : x21_2 < ((l0.drop ((ji5) : Int).toNat).length : Int)
                    · rw [if_pos c9] at H
                      have c9b0 : decide (x21_2 < ((l0.drop ((ji5) : Int).toNat).length : Int)) = true := decide_eq_true c9
                      (try (have c9b1 : decide (x21_2 < ((l0.length - (ji5 : Int).toNat : Nat) : Int)) = true := by have hc_ := c9; rw [List.length_drop] at hc_; exact decide_eq_true hc_))
                      (try (have c9b2 : (x21_2 < ((l0.length - (ji5 : Int).toNat : Nat) : Int)) = True := eq_true (by have hc_ := c9; rw [List.length_drop] at hc_; exact hc_)))
                      clear c9
                      by_cases c10 : 0 ≤ x21_2
                      · rw [if_pos c10] at H
                        have c10b0 : decide (0 ≤ x21_2) = true := decide_eq_true c10
                        clear c10
                        by_cases c11 : x21_2 < ((l0.drop ((ji5) : Int).toNat).length : Int)
                        · rw [if_pos c11] at H
                          have c11b0 : decide (x21_2 < ((l0.drop ((ji5) : Int).toNat).length : Int)) = true := decide_eq_true c11
                          (try (have c11b1 : decide (x21_2 < ((l0.length - (ji5 : Int).toNat : Nat) : Int)) = true := by have hc_ := c11; rw [List.length_drop] at hc_; exact decide_eq_true hc_))
                          (try (have c11b2 : (x21_2 < ((l0.length - (ji5 : Int).toNat : Nat) : Int)) = True := eq_true (by have hc_ := c11; rw [List.length_drop] at hc_; exact hc_)))
                          clear c11
                          by_cases c12 : (rd (l0.drop ((ji5) : Int).toNat) x21_2) < (rd l0 x11_1)
                          · rw [if_pos c12] at H
                            have c12b0 : decide ((rd (l0.drop ((ji5) : Int).toNat) x21_2) < (rd l0 x11_1)) = true := decide_eq_true c12
                            clear c12
                            have H' := Aside0.mk H
                            clear H
                            have p210 : 0 ≤ (x21_2 : Int) := of_decide_eq_true (by first | (with_reducible assumption) | assumption)
                            have q210 : x21_2 < ((l0.drop ((ji5) : Int).toNat).length : Int) := of_decide_eq_true (by first | (with_reducible assumption) | assumption)
                            obtain ⟨ad210, e210, hx210_0⟩ := Kd.at_int HR209.out x21_2 p210 q210
                            cases e210
                            replace p210 := eq_true p210
                            replace q210 := eq_true q210
                            go_wp2
                            go_roundg k2
                            case measure => have := HK1.out; have := HK2.out; omega
                            case rel => exact ⟨(wrap64 (x6_2 + 1)), (wrap64 (x21_2 + 1)), (by first | rfl | (simp; done) | (simp [*]; done)), (by first | rfl | (simp; done) | (simp [*]; done)), H', ⟨by have := HK1.out; have := HK2.out; omega⟩, by repeat (first | exact Drawn0.refl _ | apply Drawn0.step)⟩
                          · rw [if_neg c12] at H
                            have c12b0 : decide ((rd (l0.drop ((ji5) : Int).toNat) x21_2) < (rd l0 x11_1)) = false := decide_eq_false c12
                            clear c12
                            have H' := Aside0.mk H
                            clear H
                            have p210 : 0 ≤ (x21_2 : Int) := of_decide_eq_true (by first | (with_reducible assumption) | assumption)
                            have q210 : x21_2 < ((l0.drop ((ji5) : Int).toNat).length : Int) := of_decide_eq_true (by first | (with_reducible assumption) | assumption)
                            obtain ⟨ad210, e210, hx210_0⟩ := Kd.at_int HR209.out x21_2 p210 q210
                            cases e210
                            replace p210 := eq_true p210
                            replace q210 := eq_true q210
                            go_wp2
                            go_roundg k2
                            case measure => have := HK1.out; have := HK2.out; omega
                            case rel => exact ⟨(x6_2), (wrap64 (x21_2 + 1)), (by first | rfl | (simp; done) | (simp [*]; done)), (by first | rfl | (simp; done) | (simp [*]; done)), H', ⟨by have := HK1.out; have := HK2.out; omega⟩, by repeat (first | exact Drawn0.refl _ | apply Drawn0.step)⟩
                        · rw [if_neg c11] at H
                          exact absurd H (by simp)
                      · rw [if_neg c10] at H
                        exact absurd H (by simp)
                    · rw [if_neg c9] at H
                      have c9b0 : decide (x21_2 < ((l0.drop ((ji5) : Int).toNat).length : Int)) = false := decide_eq_false c9
                      (try (have c9b1 : decide (x21_2 < ((l0.length - (ji5 : Int).toNat : Nat) : Int)) = false := by have hc_ := c9; rw [List.length_drop] at hc_; exact decide_eq_false hc_))
                      clear c9
                      replace H := Option.bind_eq_some_iff.mp H
                      obtain ⟨t211, A130, H⟩ := H
                      replace H : (impl_permutationRank.l0 k2 l0 (wrap64 (x3_1 + (wrap64 (x6_2 * t211)))) l0 (l0.length : Int) (wrap64 (x11_1 + 1))) = some r := H
                      have A13 := Aside0.mk A130
                      clear A130
                      have H' := Aside0.mk H
                      clear H
                      go_wp2_with (first | ((with_reducible refine gate_callee (f := 58) rfl ?_); refine goesL_ (some 38) rfl rfl Try.func58 (by kernel_rfl) rfl #[.int .i64 (wrap64 ((wrap64 ((l0.length : Int) - x11_1)) - 1))] rfl (by (try simp only [List.map_toArray, List.map_cons, List.map_nil]); first | done | rfl | (simp only [List.length_drop, List.length_take]; rfl)) ?_; (with_reducible refine (impl_factorial.calls k2 (wrap64 ((wrap64 ((l0.length : Int) - x11_1)) - 1)) t211 _ A13.out).mono ?_); rintro e w' ⟨rfl, ⟨nd, rfl⟩⟩; refine ⟨_, rfl, ?_⟩))
                      go_roundg k2
                      case measure => have := HK1.out; have := HK2.out; omega
                      case rel => exact ⟨(wrap64 (x3_1 + (wrap64 (x6_2 * t211)))), (wrap64 (x11_1 + 1)), (by first | rfl | (simp; done) | (simp [*]; done)), (by first | rfl | (simp; done) | (simp [*]; done)), H', ⟨by have := HK1.out; have := HK2.out; omega⟩, by repeat (first | exact Drawn0.refl _ | apply Drawn0.step)⟩
              · rw [if_neg c7] at H
                exact absurd H (by simp)
            · rw [if_neg c6] at H
              exact absurd H (by simp)
          · rw [if_neg c4] at H
            exact absurd H (by simp)
        · rw [if_neg c3] at H
          exact absurd H (by simp)
      · rw [if_neg c2] at H
        have c2b0 : decide (x11_1 < (l0.length : Int)) = false := decide_eq_false c2
        clear c2
        obtain rfl := Option.some.inj H
        go_wp2
        go_ret
        exact ⟨by first | rfl | (simp; done) | (simp [*]; done), by repeat (first | exact Drawn0.refl _ | apply Drawn0.step)⟩

/-! ### impl_identity: function 67 -/
def impl_identity.l0 : Nat → List Int → Int → Int → Option (List Int)
  | 0, _, _, _ => none
  | k + 1, x3, x6, x7 => if x7 < x6 then (if x3.length < 17592186044416 then (impl_identity.l0 k (x3 ++ [x7]) x6 (wrap64 (x7 + 1))) else (none)) else (some x3)
def impl_identity.f (k : Nat) (a0 : Int) : Option (List Int) := impl_identity.l0 k (([] : List Int)) a0 0
theorem impl_identity.mono_l : ∀ k, (∀ y0 y1 y2, LeO (impl_identity.l0 k y0 y1 y2) (impl_identity.l0 (k + 1) y0 y1 y2))
  | 0 => fun _ _ _ r h => by simp [impl_identity.l0] at h
  | k + 1 => by
    have ih0 := impl_identity.mono_l k
    · intro y0 y1 y2
      unfold impl_identity.l0
      repeat' first
      | (with_reducible exact ih0 _ _ _)
      | (with_reducible exact LeO.refl _)
      | (with_reducible exact LeO.none _)
      | (with_reducible refine LeO.ite ?_ ?_)
      | (with_reducible refine LeO.bind ?_ (fun _ => ?_))
      | exact ih0 _ _ _
      | exact LeO.none _
      | refine LeO.ite ?_ ?_
      | refine LeO.bind ?_ (fun _ => ?_)
theorem impl_identity.mono : ∀ a0 k, LeO (impl_identity.f k a0) (impl_identity.f (k + 1) a0) := by
  intro a0 k
  have ih0 := impl_identity.mono_l k
  unfold impl_identity.f
  repeat' first
      | (with_reducible exact ih0 _ _ _)
      | (with_reducible exact LeO.refl _)
      | (with_reducible exact LeO.none _)
      | (with_reducible refine LeO.ite ?_ ?_)
      | (with_reducible refine LeO.bind ?_ (fun _ => ?_))
      | exact ih0 _ _ _
      | exact LeO.none _
      | refine LeO.ite ?_ ?_
      | refine LeO.bind ?_ (fun _ => ?_)
set_option maxHeartbeats 8000000 in
set_option maxRecDepth 100000 in
theorem impl_identity.calls (k : Nat) (a0 : Int) (r : List Int) (w : World) (h : impl_identity.f k a0 = some r) :
    Calls Try.prog 67 #[.int .i64 a0] w fun e w' => ∃ v0_ : Value, e = .returned (v0_) ∧ Kd.R (Kd.int .i64) 3 w' w.heap.size (fun _ => True) v0_ r ∧ Below w.heap.size w w' := by
  have HB := Aside0.mk (Below.refl w.heap.size w)
  have H : (impl_identity.l0 k (([] : List Int)) a0 0) = some r := h
  clear h
  obtain ⟨y212, hy212⟩ : ∃ y_ : List Int, y_ = (([] : List Int)) := ⟨_, rfl⟩
  replace H : (impl_identity.l0 k y212 a0 0) = some r := by first | (rw [hy212]; with_reducible exact H) | (have H2_ := (Option.bind_some _ _).symm.trans H; rw [hy212]; with_reducible exact H2_) | (have H2_ := (Option.bind_some _ _).symm.trans H; with_reducible exact H2_) | with_reducible exact H | (rw [hy212]; exact H) | exact H
  have Ny212 := Aside0.mk hy212
  clear hy212
  have H' := Aside0.mk H
  clear H
  go_enter Try.func67, Try.ntmps67
  go_wp2_with (first | ((with_reducible refine gate_dst (N := 5) rfl ?_); refine Kd.R_lit (Kd.int .i64) _ 3 ?hg (N := 5) ?hd (xs := ([] : List Int)) (inner := []) (ok := fun _ => True) (okp := fun _ => True) ?hr ?hp (fun _ hk => hk) trivial (Below.refl _ _) (Nat.le_refl _) (by simp) ?_; (case hd => rfl); (case hg => rfl); (case hr => first | (go_simp; done) | (go_simp; rfl)); (case hp => exact (Reps.none _ _)); intro v213 w2 ho3 hb hg_ hnew_; clear hg_ hnew_; (first | rw [← Ny212.out] at ho3 | (simp only [Int.reduceToNat] at ho3; rw [← Ny212.out] at ho3)); have n0_ := Aside0.mk (Kd.R_lower ho3 (below_size (by repeat (first | (with_reducible first | exact HB.out | apply below_alloc | apply pw_below_drewN | apply below_drew1) | exact HB.out)))); have n1_ := Aside0.mk (below_step (by repeat (first | (with_reducible first | exact HB.out | apply below_alloc | apply pw_below_drewN | apply below_drew1) | exact HB.out)) hb); clear HB; have HO214 := n0_; have HB := n1_; clear n0_ n1_; clear hb ho3))
  go_loopg [3, 7] k (fun kq v3 v7 w' => ∃ (x3_1 : List Int) (x7_1 : Int), v7 = .int .i64 x7_1 ∧ Aside0 (impl_identity.l0 kq x3_1 a0 x7_1 = some r) ∧ Aside0 (kq ≤ k) ∧ Aside0 (Kd.R (Kd.int .i64) 3 w' w.heap.size (fun _ => True) v3 x3_1) ∧ Aside0 (Below w.heap.size w w'))
  case atStart => exact ⟨(y212), (0), (by first | rfl | (simp; done) | (simp [*]; done)), H', ⟨Nat.le_refl _⟩, ⟨by (with_reducible repeat (first | apply Kd.R_alloc | apply Kd.R_drewN | apply Kd.R_drew)); exact HO214.out⟩, ⟨by repeat (first | (with_reducible first | exact HB.out | apply below_alloc | apply pw_below_drewN | apply below_drew1) | exact HB.out)⟩⟩
  case round =>
    clear H'
    try clear p2
    obtain ⟨x3_1, x7_1, rfl, HA, HK1, HO_3, HB⟩ := hrel
    cases gk with
    | zero => exact absurd HA.out (by simp [impl_identity.l0])
    | succ k1 =>
      have H := HA.out
      clear HA
      simp only [impl_identity.l0] at H
      by_cases c4 : x7_1 < a0
      · rw [if_pos c4] at H
        have c4b0 : decide (x7_1 < a0) = true := decide_eq_true c4
        clear c4
        by_cases c5 : x3_1.length < 17592186044416
        · rw [if_pos c5] at H
          have LMc5 := Aside0.mk c5
          clear c5
          obtain ⟨y215, hy215⟩ : ∃ y_ : List Int, y_ = (x3_1 ++ [x7_1]) := ⟨_, rfl⟩
          replace H : (impl_identity.l0 k1 y215 a0 (wrap64 (x7_1 + 1))) = some r := by first | (rw [hy215]; with_reducible exact H) | (have H2_ := (Option.bind_some _ _).symm.trans H; rw [hy215]; with_reducible exact H2_) | (have H2_ := (Option.bind_some _ _).symm.trans H; with_reducible exact H2_) | with_reducible exact H | (rw [hy215]; exact H) | exact H
          have Ny215 := Aside0.mk hy215
          clear hy215
          have H' := Aside0.mk H
          clear H
          go_wp2_with (first | ((with_reducible refine gate_builtin (b := .append) (xs := #[.tmp 10, .tmp 12]) rfl ?_); at_builtin; refine Kd.R_append (Kd.int .i64) (w0 := w) w.heap.size rfl (.tmp 10) (.tmp 12) 22 3 (.int .i64 0) 8 rfl Try.underlying22 info3 rfl (by decide) (by omega) u3 x3_1 x7_1 [.int .i64 x7_1] (fun _ => True) (fun _ => False) rfl rfl ?aP (fun _ hk => hk.elim) ?aF ?aO ?aB ?aS ?aL ?_; (case aP => exact rfl); (case aB => exact (by repeat (first | (with_reducible first | exact HB.out | apply below_alloc | apply pw_below_drewN | apply below_drew1) | exact HB.out))); (case aF => exact (fun _ _ => trivial)); (case aO => exact (by (with_reducible repeat (first | apply Kd.R_alloc | apply Kd.R_drewN | apply Kd.R_drew)); exact HO_3.out)); (case aS => exact (below_size (by repeat (first | (with_reducible first | exact HB.out | apply below_alloc | apply pw_below_drewN | apply below_drew1) | exact HB.out)))); (case aL => have := LMc5.out; omega); intro v216 w6 ho hb hg hat; rw [← Ny215.out] at ho; have n0_ := Aside0.mk (hb); have n1_ := Aside0.mk (ho); clear HB; clear HO_3; have HB := n0_; have HO217 := n1_; clear n0_ n1_; clear ho hb hg hat))
          go_roundg k1
          case measure => have := HK1.out; omega
          case rel => exact ⟨(y215), (wrap64 (x7_1 + 1)), (by first | rfl | (simp; done) | (simp [*]; done)), H', ⟨by have := HK1.out; omega⟩, ⟨by (with_reducible repeat (first | apply Kd.R_alloc | apply Kd.R_drewN | apply Kd.R_drew)); exact HO217.out⟩, ⟨by repeat (first | (with_reducible first | exact HB.out | apply below_alloc | apply pw_below_drewN | apply below_drew1) | exact HB.out)⟩⟩
        · rw [if_neg c5] at H
          exact absurd H (by simp)
      · rw [if_neg c4] at H
        have c4b0 : decide (x7_1 < a0) = false := decide_eq_false c4
        clear c4
        obtain rfl := Option.some.inj H
        go_wp2
        go_ret
        exact ⟨_, by first | rfl | (simp [errW_none, errW_some] <;> rfl) | (simp [*, errW_none, errW_some] <;> rfl), by (with_reducible repeat (first | apply Kd.R_alloc | apply Kd.R_drewN | apply Kd.R_drew)); exact HO_3.out, by repeat (first | (with_reducible first | exact HB.out | apply below_alloc | apply pw_below_drewN | apply below_drew1) | exact HB.out)⟩

/-! ### slices_Delete_int_int: function 110 -/
/-- slices.Delete at whole numbers, of a row of the call's own. -/
def slices_Delete_int_int.f (l : List Int) (i j : Int) : Option (List Int) := if 0 ≤ i then (if i ≤ j then (if j ≤ (l.length : Int) then some (l.take i.toNat ++ l.drop j.toNat) else none) else none) else none
open Go.Shelf in
shelf_lay Lays2.n23 Nm2 23 at Try as Try.laysDel
set_option maxHeartbeats 8000000 in
set_option maxRecDepth 100000 in
theorem slices_Delete_int_int.calls (l l2 : List Int) (i j : Int) (g c base : Nat) (ok : Nat → Prop) (w : World) (hR : Kd.R (Kd.int .i64) 3 w base ok (.slice (some ⟨g, 0, none⟩) l.length c) l) (h : slices_Delete_int_int.f l i j = some l2) :
    Calls Try.prog 110 #[.slice (some ⟨g, 0, none⟩) l.length c, .int .i64 i, .int .i64 j] w fun e w' => e = .returned (.slice (some ⟨g, 0, none⟩) l2.length c) ∧ Kd.R (Kd.int .i64) 3 w' base ok (.slice (some ⟨g, 0, none⟩) l2.length c) l2 ∧ Below base w w' ∧ w.grownBy w' (some g) := by
  unfold slices_Delete_int_int.f at h
  by_cases h0 : 0 ≤ i
  · rw [if_pos h0] at h
    by_cases h1 : i ≤ j
    · rw [if_pos h1] at h
      by_cases h2 : j ≤ (l.length : Int)
      · rw [if_pos h2] at h
        obtain rfl := Option.some.inj h
        clear h
        have ho := Kd.own_of_R hR
        obtain ⟨k, rfl⟩ : ∃ k : Nat, i = (k : Int) := ⟨i.toNat, by omega⟩
        obtain ⟨m, rfl⟩ : ∃ m : Nat, j = (m : Int) := ⟨j.toNat, by omega⟩
        simp only [Int.toNat_natCast] at *
        have hl2 : (l.take k ++ l.drop m).length = l.length - (m - k) := by
          rw [List.length_append, List.length_take, List.length_drop]; omega
        obtain ⟨g', c', e0, hb, hlt, hn, hm, hl, hH⟩ := Go.Lib.holds_of_ownsRow (zs := l) (enc := Value.int .i64) ho (by intro e; cases e)
        injection e0 with e1 e2 e3
        injection e1 with e1
        injection e1 with e1
        subst e1; subst e3
        refine (Any.slices_Delete_int Try.laysDel g 0 c k m l w hH hn hm (by omega) (by omega)).mono ?_
        rintro e w' ⟨rfl, q, rfl⟩
        have hrow := Go.Lib.ownsRow_putRow (q := q) (zs := l) (ys := l.take k ++ l.drop m ++ List.replicate (m - k) 0) (k := (l.take k ++ l.drop m).length) ho (by rw [List.length_append, hl2, List.length_replicate]; omega) (by omega)
        rw [List.take_left] at hrow
        refine ⟨by rw [hl2], Kd.R_of_own hrow (fun k hk => ?_), Go.Lib.below_putRow (Below.refl _ _) hb, ?_⟩
        · exact hR.1 k (by simpa [Value.ownBlock] using hk)
        · refine ⟨rfl, rfl, rfl, by simp [Go.Sort.putRow, Go.Sort.mapBlock, Go.Sort.ahead], fun q hq hne => ?_⟩
          have : g ≠ q := fun e => hne (by rw [e])
          simp [Go.Sort.putRow, Go.Sort.mapBlock, Go.Sort.ahead, Array.getElem?_modify, this]
      · rw [if_neg h2] at h; cases h
    · rw [if_neg h1] at h; cases h
  · rw [if_neg h0] at h; cases h

/-! ### impl_permutationAt: function 101 -/
/-- The permutation of a rank. -/
def impl_permutationAt.l0 : Nat → Int → List Int → List Int → Int → Option (List Int)
  | 0, _, _, _, _ => none
  | k + 1, x1, x5, x6, x7 => if x7 ≥ 0 then ((impl_factorial.f k x7).bind fun t => if t = 0 then none else (if 0 ≤ wrap64 (Int.tdiv x1 t) then (if wrap64 (Int.tdiv x1 t) < (x5.length : Int) then (if x6.length < 17592186044416 then ((slices_Delete_int_int.f x5 (wrap64 (Int.tdiv x1 t)) (wrap64 (wrap64 (Int.tdiv x1 t) + 1))).bind fun d => impl_permutationAt.l0 k (Int.tmod x1 t) d (x6 ++ [rd x5 (wrap64 (Int.tdiv x1 t))]) (wrap64 (x7 - 1))) else none) else none) else none)) else some x6
def impl_permutationAt.f (k : Nat) (a0 : Int) (a1 : Int) : Option (List Int) := (impl_identity.f k a0).bind fun l => impl_permutationAt.l0 k a1 l [] (wrap64 (a0 - 1))
theorem impl_permutationAt.mono_l : ∀ k, (∀ y0 y1 y2 y3, LeO (impl_permutationAt.l0 k y0 y1 y2 y3) (impl_permutationAt.l0 (k + 1) y0 y1 y2 y3))
  | 0 => fun _ _ _ _ r h => by simp [impl_permutationAt.l0] at h
  | k + 1 => by
    have ih0 := impl_permutationAt.mono_l k
    · intro y0 y1 y2 y3
      unfold impl_permutationAt.l0
      repeat' first
      | (with_reducible exact ih0 _ _ _ _)
      | (with_reducible exact impl_factorial.mono _ _)
      | (with_reducible exact impl_identity.mono _ _)
      | (with_reducible exact LeO.refl _)
      | (with_reducible exact LeO.none _)
      | (with_reducible refine LeO.ite ?_ ?_)
      | (with_reducible refine LeO.bind ?_ (fun _ => ?_))
      | exact ih0 _ _ _ _
      | exact impl_factorial.mono _ _
      | exact impl_identity.mono _ _
      | exact LeO.none _
      | refine LeO.ite ?_ ?_
      | refine LeO.bind ?_ (fun _ => ?_)
theorem impl_permutationAt.mono : ∀ a0 a1 k, LeO (impl_permutationAt.f k a0 a1) (impl_permutationAt.f (k + 1) a0 a1) := by
  intro a0 a1 k
  have ih0 := impl_permutationAt.mono_l k
  unfold impl_permutationAt.f
  repeat' first
      | (with_reducible exact ih0 _ _ _ _)
      | (with_reducible exact impl_factorial.mono _ _)
      | (with_reducible exact impl_identity.mono _ _)
      | (with_reducible exact LeO.refl _)
      | (with_reducible exact LeO.none _)
      | (with_reducible refine LeO.ite ?_ ?_)
      | (with_reducible refine LeO.bind ?_ (fun _ => ?_))
      | exact ih0 _ _ _ _
      | exact impl_factorial.mono _ _
      | exact impl_identity.mono _ _
      | exact LeO.none _
      | refine LeO.ite ?_ ?_
      | refine LeO.bind ?_ (fun _ => ?_)
set_option maxHeartbeats 8000000 in
set_option maxRecDepth 100000 in
theorem impl_permutationAt.calls (k : Nat) (a0 : Int) (a1 : Int) (r : List Int) (w : World) (h : impl_permutationAt.f k a0 a1 = some r) :
    Calls Try.prog 101 #[.int .i64 a0, .int .i64 a1] w fun e w' => ∃ v0_ : Value, e = .returned (v0_) ∧ Kd.R (Kd.int .i64) 3 w' w.heap.size (fun _ => True) v0_ r ∧ Below w.heap.size w w' := by
  unfold impl_permutationAt.f at h
  obtain ⟨l, hl, h⟩ := Option.bind_eq_some_iff.mp h
  have HL := Aside0.mk hl
  have H' := Aside0.mk h
  clear hl h
  go_enter Try.func101, Try.ntmps101
  go_wp2_with fail
  refine (impl_identity.calls k a0 l _ HL.out).mono ?_
  rintro e w1 ⟨v1, rfl, ho1, hb1⟩
  have HF1 := Aside0.mk (Kd.R_lower ho1 (Nat.le_refl w.heap.size))
  have HB1 := Aside0.mk hb1
  clear ho1 hb1
  go_wp2_with (first | ((with_reducible refine gate_dst (N := 11) rfl ?_); refine Kd.R_lit (Kd.int .i64) (w0 := w) w.heap.size 3 ?hg (N := 11) ?hd (xs := ([] : List Int)) (inner := []) (ok := fun _ => True) (okp := fun _ => True) ?hr ?hp (fun _ hk => hk) trivial HB1.out HB1.out.size (by simp) ?_; (case hd => rfl); (case hg => rfl); (case hr => first | (go_simp; done) | (go_simp; rfl)); (case hp => exact (Reps.none _ _)); intro v2 w2 ho2 hb2 hg2 hnew2; have HO2 := Aside0.mk ho2; have HF2 := Aside0.mk (show Kd.R (Kd.int .i64) 3 w2 w.heap.size (fun k_ => True ∧ some k_ ≠ v2.ownBlock) v1 l from Kd.R_mono (Kd.R_grown (Kd.R_bound HF1.out) hg2 (fun _ _ e => by cases e)) (fun k_ hk => ⟨trivial, fun e => by obtain ⟨b, hb, hle⟩ := hnew2; rw [hb] at e; injection e with e; have := hk.2.2.1; omega⟩)); have HB2 := Aside0.mk hb2; clear HF1 HB1 ho2 hb2 hg2 hnew2))
  go_loopg [1, 5, 6, 7] k (fun kq v1 v5 v6 v7 w' => ∃ (x1 : Int) (x5 x6 : List Int) (x7 : Int), v1 = .int .i64 x1 ∧ v7 = .int .i64 x7 ∧ Aside0 (impl_permutationAt.l0 kq x1 x5 x6 x7 = some r) ∧ Aside0 (kq ≤ k) ∧ Aside0 (Kd.R (Kd.int .i64) 3 w' w.heap.size (fun k_ => True ∧ some k_ ≠ v6.ownBlock) v5 x5) ∧ Aside0 (Kd.R (Kd.int .i64) 3 w' w.heap.size (fun _ => True) v6 x6) ∧ Aside0 (Below w.heap.size w w'))
  case atStart => exact ⟨a1, l, [], _, rfl, rfl, H', ⟨Nat.le_refl _⟩, HF2, HO2, HB2⟩
  case round =>
    clear H' HF2 HO2 HB2
    obtain ⟨x1, x5, x6, x7, rfl, rfl, HA, HK1, HF, HO, HB⟩ := hrel
    cases gk with
    | zero => exact absurd HA.out (by simp [impl_permutationAt.l0])
    | succ k1 =>
      have H := HA.out
      clear HA
      simp only [impl_permutationAt.l0] at H
      by_cases c : x7 ≥ 0
      · rw [if_pos c] at H
        have cb : decide (0 ≤ x7) = true := decide_eq_true c
        clear c
        obtain ⟨t, ht, H⟩ := Option.bind_eq_some_iff.mp H
        have HT := Aside0.mk ht
        clear ht
        by_cases c0 : t = 0
        · rw [if_pos c0] at H; exact absurd H (by simp)
        · rw [if_neg c0] at H
          obtain ⟨q, hq⟩ : ∃ q : Int, wrap64 (Int.tdiv x1 t) = q := ⟨_, rfl⟩
          have hqw : IntKind.i64.wrap (Int.tdiv x1 t) = q := (i64_w _).trans hq
          simp only [hq] at H
          by_cases p : 0 ≤ q
          · rw [if_pos p] at H
            by_cases p2 : q < (x5.length : Int)
            · rw [if_pos p2] at H
              by_cases cl : x6.length < 17592186044416
              · rw [if_pos cl] at H
                obtain ⟨d, hd, H⟩ := Option.bind_eq_some_iff.mp H
                have HD := Aside0.mk hd
                have LM := Aside0.mk cl
                have H' := Aside0.mk H
                clear hd cl H
                obtain ⟨g5, c5, e5, hg5, hlt5, _⟩ := Kd.R_form HF.out (by omega)
                subst e5
                obtain ⟨ad, ead, hx⟩ := Kd.at_int (Kd.R_reads' HF.out).2.2 q p p2
                cases ead
                rw [Addr.add_lit, Nat.zero_add] at hx
                have pq := eq_true p
                have pq2 := eq_true p2
                clear p p2 hg5 hlt5
                go_wp2_with fail
                refine (impl_factorial.calls k1 x7 t _ HT.out).mono ?_
                rintro e w3 ⟨rfl, ⟨n3, rfl⟩⟩
                go_wp2_with fail
                refine (impl_factorial.calls k1 x7 t _ HT.out).mono ?_
                rintro e w4 ⟨rfl, ⟨n4, rfl⟩⟩
                go_wp2_with (first | ((with_reducible refine gate_builtin (b := .append) (xs := #[.tmp 26, .tmp 31]) rfl ?_); at_builtin; refine Kd.R_append (Kd.int .i64) (w0 := w) w.heap.size rfl (.tmp 26) (.tmp 31) 22 3 (.int .i64 0) 8 rfl Try.underlying22 info3 rfl (by decide) (by omega) u6 x6 (rd x5 q) [.int .i64 (rd x5 q)] (fun _ => True) (fun _ => False) rfl rfl ?aP (fun _ hk => hk.elim) ?aF ?aO ?aB ?aS ?aL ?_; (case aP => exact rfl); (case aB => exact pw_below_drewN HB.out _); (case aF => exact (fun _ _ => trivial)); (case aO => exact Kd.R_drewN HO.out _); (case aS => exact HB.out.size); (case aL => have := LM.out; omega); intro v8 w8 ho8 hb8 hg8 hat8; have HO8 := Aside0.mk ho8; have HF8 := Aside0.mk (Kd.R_after (Kd.R_drewN HF.out _) hg8 hat8); have HB8 := Aside0.mk hb8; clear HF HO HB ho8 hb8 hg8 hat8))
                refine (slices_Delete_int_int.calls x5 d q (wrap64 (q + 1)) g5 c5 w.heap.size _ _ HF8.out HD.out).mono ?_
                rintro e w9 ⟨rfl, ho9, hb9, hg9⟩
                have HO9 := Aside0.mk (Kd.R_grown1 HO8.out rfl hg9 (fun e => (HF8.out.1 g5 rfl).2 e))
                have HF9 := Aside0.mk ho9
                have HB9 := Aside0.mk (HB8.out.trans hb9)
                clear HO8 HF8 HB8 ho9 hb9 hg9
                go_wp2
                go_roundg k1
                case measure => have := HK1.out; omega
                case rel => exact ⟨_, d, _, _, rfl, rfl, H', ⟨by have := HK1.out; omega⟩, HF9, HO9, HB9⟩
              · rw [if_neg cl] at H; exact absurd H (by simp)
            · rw [if_neg p2] at H; exact absurd H (by simp)
          · rw [if_neg p] at H; exact absurd H (by simp)
      · rw [if_neg c] at H
        have cb : decide (0 ≤ x7) = false := decide_eq_false c
        clear c
        obtain rfl := Option.some.inj H
        go_wp2
        go_ret
        exact ⟨_, rfl, HO.out, HB.out⟩

end Go.Proofs.Ytcplfdfmebibpaa.MFnExactDistancesFrom
