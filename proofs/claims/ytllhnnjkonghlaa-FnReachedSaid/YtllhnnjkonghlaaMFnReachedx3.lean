import Derived.Test.YtllhnnjkonghlaaMFnReachedx0
import Derived.Test.YtllhnnjkonghlaaMFnReachedx2
namespace Go.Proofs.Ytllhnnjkonghlaa.MFnReached
open Go.RowKit Go.Proofs.YtllhnnjkonghlaaW.PrintWords Go.Proofs.YtllhnnjkonghlaaW.PrintLast Go.Proofs.YtllhnnjkonghlaaW.PrintMore
attribute [local go_sem] max2_int min2_int max_two min_two max_three min_three max_four min_four   
set_option linter.unusedVariables false
set_option linter.unusedSimpArgs false
def impl_moved.r0 : Nat → List Int → Int → Int → Option (List Int)
 | 0, _, _, _ => none
 | k + 1, x0, x2, x3 => if x2 < x3 then (impl_moved.r0 k ((x0.set x2.toNat (rd x0 x3)).set x3.toNat (rd x0 x2)) (x2 + 1) (x3 - 1)) else (some x0)
def impl_moved.f (k : Nat) (l0 : List Int) (a1_0 : Int) (a1_1 : Int) (a1_2 : Int) : Option (List Int) :=
 (impl_copied.f l0).bind fun t => (if l0.length ≤ 1000000 then (if a1_0 = 0 then (if 0 ≤ a1_1 then (if a1_1 < (l0.length : Int) then (if 0 ≤ a1_2 then (if a1_2 < (l0.length : Int) then (some ((l0.set a1_1.toNat (rd l0 a1_2)).set a1_2.toNat (rd l0 a1_1))) else (none)) else (none)) else (none)) else (none))
  else (if a1_0 = 1 then (if 1 ≤ a1_1 then (if a1_1 ≤ (l0.length : Int) then (impl_moved.r0 k l0 0 (a1_1 - 1)) else (none)) else (none))
  else (if a1_0 = 2 then (if 1 ≤ a1_1 then (if a1_1 ≤ (l0.length : Int) then (some (((l0.take a1_1.toNat).drop 1 ++ l0.drop (a1_1 - 1).toNat).set (a1_1 - 1).toNat (rd l0 0))) else (none)) else (none))
  else (none)))) else (none))
theorem impl_moved.mono_l : ∀ k, (∀ y0 y1 y2, LeO (impl_moved.r0 k y0 y1 y2) (impl_moved.r0 (k + 1) y0 y1 y2))
 | 0 => fun _ _ _ r h => by simp [impl_moved.r0] at h
 | k + 1 => by
  have ih0 := impl_moved.mono_l k
  ·intro y0 y1 y2
   unfold impl_moved.r0
   repeat' first
   | (with_reducible exact ih0 _ _ _)
   | (with_reducible exact LeO.refl _)
   | (with_reducible exact LeO.none _)
   | (with_reducible refine LeO.ite ?_ ?_)
   | (with_reducible refine LeO.bind ?_ (fun _ => ?_))
   | exact ih0 _ _ _
   | exact LeO.none _
   | refine LeO.ite ?_ ?_
   | refine LeO.bind ?_ (fun _ => ?_)
theorem impl_moved.mono : ∀ a0 a1 a2 a3 k, LeO (impl_moved.f k a0 a1 a2 a3) (impl_moved.f (k + 1) a0 a1 a2 a3) := by
 intro a0 a1 a2 a3 k
 have ih0 := impl_moved.mono_l k
 unfold impl_moved.f
 repeat' first
   | (with_reducible exact ih0 _ _ _)
   | (with_reducible exact LeO.refl _)
   | (with_reducible exact LeO.none _)
   | (with_reducible refine LeO.ite ?_ ?_)
   | (with_reducible refine LeO.bind ?_ (fun _ => ?_))
   | exact ih0 _ _ _
   | exact LeO.none _
   | refine LeO.ite ?_ ?_
   | refine LeO.bind ?_ (fun _ => ?_)
theorem impl_copied_is {l0 t : List Int} (h : impl_copied.f l0 = some t) : t = l0 := by
 unfold impl_copied.f at h
 simp only [Option.bind_some, List.nil_append] at h
 split at h
 ·exact (Option.some.inj h).symm
 ·cases h
set_option maxHeartbeats 8000000 in
set_option maxRecDepth 100000 in
theorem slices_Reverse_begin (k : Nat) (L r : List Int) (i : Int) (go co base : Nat) (ok : Nat → Prop) (w0 w : World) (hB : Below w0.heap.size w0 w) (hg : w0.heap.size ≤ go)
  (ho : Kd.R (Kd.int .i64) 3 w base ok (.slice (some ⟨go, 0, none⟩) L.length co) L) (h0 : 0 ≤ i) (hm : i ≤ L.length) (hl : L.length ≤ 1000000) (h : impl_moved.r0 k L 0 (i - 1) = some r) :
  Calls Try.prog 85 #[.slice (some ⟨go, 0, none⟩) i.toNat co] w fun e w' => e = .returned (.tuple #[]) ∧ Kd.R (Kd.int .i64) 3 w' base ok (.slice (some ⟨go, 0, none⟩) L.length co) r ∧ Below w0.heap.size w0 w' := by
 obtain ⟨m, rfl⟩ := Int.eq_ofNat_of_zero_le h0
 rw [Int.toNat_natCast]
 have HB := Ya hB
 have HO := Ya ho
 have H' := Ya h
 clear hB ho h
 go_enter Try.func85, Try.ntmps85
 go_wp2
 go_loopg [2, 3] k (fun kq v2 v3 w' => ∃ (x0_1 : List Int) (x2_1 : Int) (x3_1 : Int), v2 = .int .i64 x2_1 ∧ v3 = .int .i64 x3_1 ∧ 0 ≤ x2_1 ∧ x2_1 ≤ m ∧ x3_1 < (m : Int) ∧ -1 ≤ x2_1 + x3_1 ∧ Aside0 (x0_1.length = L.length) ∧ Aside0 (impl_moved.r0 kq x0_1 x2_1 x3_1 = some r) ∧ Aside0 (kq ≤ k) ∧ Aside0 (Kd.R (Kd.int .i64) 3 w' base ok (.slice (some ⟨go, 0, none⟩) L.length co) x0_1) ∧ Aside0 (Below w0.heap.size w0 w'))
 case atStart => exact ⟨L, 0, (m : Int) - 1, rfl, rfl, by omega, by omega, by omega, by omega, ⟨rfl⟩, H', ⟨Nat.le_refl _⟩, HO, HB⟩
 case round =>
  clear H' HO HB
  obtain ⟨x0_1, x2_1, x3_1, rfl, rfl, g0, g1, g2, g3, HLen, HA, HK1, HO, HB⟩ := hrel
  cases gk with
  | zero => exact absurd HA.out (by simp [impl_moved.r0])
  | succ k1 =>
   have H := HA.out
   clear HA
   simp only [impl_moved.r0] at H
   by_cases c : x2_1 < x3_1
   ·rw [if_pos c] at H
    have H' := Ya H
    clear H
    have cb : decide (x2_1 < x3_1) = true := Z37 c
    have q2 : x2_1 < (L.length : Int) := by omega
    have q3 : x3_1 < (L.length : Int) := by omega
    have p3 : 0 ≤ x3_1 := by omega
    have q2m : x2_1 < (m : Int) := by omega
    obtain ⟨hx2, hf2⟩ := Kd.R_celln 0 HO.out x2_1 g0 q2
    obtain ⟨hx3, hf3⟩ := Kd.R_celln 0 HO.out x3_1 p3 q3
    obtain ⟨vj, hyj⟩ := cell?_setCell_some (w := wr) (p := ⟨go, x2_1.toNat, none⟩) (x := .int .i64 (rdOf 0 x0_1 x3_1)) (q := ⟨go, x3_1.toNat, none⟩) hx3
    have HP := Ya (Kd.R_putg HO.out x2_1 (rdOf 0 x0_1 x3_1)).1
    have HQ := Ya (Kd.R_putg HP.out x3_1 (rdOf 0 x0_1 x2_1)).1
    clear q2 q3
    go_wp2_with fail
    go_region
    go_wp2
    go_roundg k1
    case measure => have := HK1.out; omega
    case rel => exact ⟨_, x2_1 + 1, x3_1 - 1, rfl, rfl, by omega, by omega, by omega, by omega, ⟨by rw [List.length_set, List.length_set]; exact HLen.out⟩, H', ⟨Q22⟩, ⟨Z11 HQ.out⟩, ⟨Z4 (Z6 (Z6 HB.out hg) hg)⟩⟩
   ·rw [if_neg c] at H
    obtain rfl := Option.some.inj H
    have cb : decide (x2_1 < x3_1) = false := Z36 c
    go_wp2
    go_end0
    exact ⟨rfl, HO.out, HB.out⟩
set_option maxHeartbeats 8000000 in
set_option maxRecDepth 100000 in
theorem impl_moved.calls (k : Nat) (A0 : Option Addr) (c0 : Nat) (l0 : List Int) (a1_0 : Int) (a1_1 : Int) (a1_2 : Int) (r : List Int) (w : World) (hr0 : Kd.C (Kd.int .i64) w A0 l0.length l0) (hc0 : l0.length ≤ c0) (h : impl_moved.f k l0 a1_0 a1_1 a1_2 = some r) :
  Calls Try.prog 51 #[.slice A0 l0.length c0, .agg #[.int .i64 a1_0, .int .i64 a1_1, .int .i64 a1_2]] w fun e w' => ∃ v0_ : Value, e = .returned (v0_) ∧ Kd.R (Kd.int .i64) 3 w' w.heap.size (fun _ => True) v0_ r ∧ Below w.heap.size w w' := by
 have hu26 := Try.underlying45
 have HR0 := Ya hr0
 have HC0 := Ya hc0
 clear hr0 hc0
 have HB := Ya (Below.refl w.heap.size w)
 unfold impl_moved.f at h
 obtain ⟨t, A1, H⟩ := Z35.mp h
 clear h
 obtain rfl := impl_copied_is A1
 have Hc := Ya A1
 clear A1
 by_cases hl : t.length ≤ 1000000
 rotate_left
 ·rw [if_neg hl] at H; cases H
 rw [if_pos hl] at H
 by_cases e0 : a1_0 = 0
 ·subst e0
  rw [if_pos rfl] at H
  by_cases hi0 : 0 ≤ a1_1
  rotate_left
  ·rw [if_neg hi0] at H; cases H
  rw [if_pos hi0] at H
  by_cases hi : a1_1 < (t.length : Int)
  rotate_left
  ·rw [if_neg hi] at H; cases H
  rw [if_pos hi] at H
  by_cases hj0 : 0 ≤ a1_2
  rotate_left
  ·rw [if_neg hj0] at H; cases H
  rw [if_pos hj0] at H
  by_cases hj : a1_2 < (t.length : Int)
  rotate_left
  ·rw [if_neg hj] at H; cases H
  rw [if_pos hj] at H
  obtain rfl := Option.some.inj H
  clear H
  go_enter Try.func51, Try.ntmps51
  go_wp2_with (first | ((with_reducible refine gate_dst (N := 3) rfl ?_); refine Yx 3 #[.int .i64 0, .int .i64 a1_1, .int .i64 a1_2] 45 ?_; intro gb hgb w1 hbox hb; have HB1 := Ya hb; have BK1 := Ya hbox; have HG := Ya hgb; clear HB hb hbox hgb))
  refine (impl_copied.calls A0 c0 t t _ (Z21 HR0.out HB1.out) HC0.out Hc.out).mono ?_
  rintro e w2 ⟨v, rfl, ho, hb2⟩
  have BK2 := Ya (Z27 BK1.out hb2)
  have HB2 := Ya (HB1.out.trans (hb2.mono HB1.out.size))
  have HO := Ya ho
  obtain ⟨go, co, ev, gb9, gl9, cl9, HG9⟩ := Kd.R_form HO.out (by omega)
  subst ev
  have hx0 : w2.cell? ⟨gb, 0, none⟩ = some (.int .i64 0) := (Z22 BK2.out 0).trans rfl
  have hx1 : w2.cell? ⟨gb, 1, none⟩ = some (.int .i64 a1_1) := (Z22 BK2.out 1).trans rfl
  have hx2 : w2.cell? ⟨gb, 2, none⟩ = some (.int .i64 a1_2) := (Z22 BK2.out 2).trans rfl
  obtain ⟨hxi, hfi⟩ := Kd.R_celln 0 HO.out a1_1 hi0 hi
  obtain ⟨hxj, hfj⟩ := Kd.R_celln 0 HO.out a1_2 hj0 hj
  have hne : gb ≠ go := by have := HG.out; have := blk_lt BK1.out; omega
  have hgo : w.heap.size ≤ go := Nat.le_trans HB1.out.size gb9
  have hlt : decide (a1_1 < (t.length : Int)) = true := Z37 hi
  have hltj : decide (a1_2 < (t.length : Int)) = true := Z37 hj
  obtain ⟨vj, hyj⟩ := cell?_setCell_some (w := w2) (p := ⟨go, a1_1.toNat, none⟩) (x := .int .i64 (rdOf 0 t a1_2)) (q := ⟨go, a1_2.toNat, none⟩) hxj
  have HP := Ya (Kd.R_putg HO.out a1_1 (rdOf 0 t a1_2)).1
  have HQ := Ya (Kd.R_lower (Kd.R_putg HP.out a1_2 (rdOf 0 t a1_1)).1 HB1.out.size)
  clear ho hb2 HG9 HR0 HC0 Hc BK1 BK2 HB1 HO HP
  go_wp2_with fail
  go_region
  go_wp2
  go_ret
  exact ⟨_, rfl, Z11 HQ.out, Z4 (Z6 (Z6 HB2.out hgo) hgo)⟩
 ·rw [if_neg e0] at H
  have e0b : (a1_0 == 0) = false := beq_eq_false_iff_ne.mpr e0
  by_cases e1 : a1_0 = 1
  ·subst e1
   clear e0 e0b
   rw [if_pos rfl] at H
   by_cases hi0 : 1 ≤ a1_1
   rotate_left
   ·rw [if_neg hi0] at H; cases H
   rw [if_pos hi0] at H
   by_cases hi : a1_1 ≤ (t.length : Int)
   rotate_left
   ·rw [if_neg hi] at H; cases H
   rw [if_pos hi] at H
   have H' := Ya H
   clear H
   go_enter Try.func51, Try.ntmps51
   go_wp2_with (first | ((with_reducible refine gate_dst (N := 3) rfl ?_); refine Yx 3 #[.int .i64 1, .int .i64 a1_1, .int .i64 a1_2] 45 ?_; intro gb hgb w1 hbox hb; have HB1 := Ya hb; have BK1 := Ya hbox; have HG := Ya hgb; clear HB hb hbox hgb))
   refine (impl_copied.calls A0 c0 t t _ (Z21 HR0.out HB1.out) HC0.out Hc.out).mono ?_
   rintro e w2 ⟨v, rfl, ho, hb2⟩
   have BK2 := Ya (Z27 BK1.out hb2)
   have HB2 := Ya (HB1.out.trans (hb2.mono HB1.out.size))
   have HO := Ya ho
   have hx0 : w2.cell? ⟨gb, 0, none⟩ = some (.int .i64 1) := (Z22 BK2.out 0).trans rfl
   have hx1 : w2.cell? ⟨gb, 1, none⟩ = some (.int .i64 a1_1) := (Z22 BK2.out 1).trans rfl
   obtain ⟨go, co, ev, gb9, gl9, cl9, HG9⟩ := Kd.R_form HO.out (by omega)
   subst ev
   have hgo : w.heap.size ≤ go := Nat.le_trans HB1.out.size gb9
   have Hco := (Kd.R_reads' HO.out).2.1
   obtain ⟨inf0, hinf, hz1, hsz1, hb1⟩ := info_parts info3
   have hcut := cut_to (P := Try.prog) 24 3 .i64 Try.underlying24 hinf (some ⟨go, 0, none⟩) t.length co a1_1 (by omega) hi Hco
   have Hgo := Ya hgo
   clear ho hb2 HG9 HR0 HC0 Hc BK1 BK2 hinf hz1 hsz1 hb1 gb9 gl9 hgo Hco
   go_wp2_with fail
   refine (slices_Reverse_begin k t r a1_1 go co w1.heap.size (fun _ => True) w w2 HB2.out Hgo.out HO.out (by omega) hi hl H'.out).mono ?_
   rintro e w3 ⟨rfl, ho3, hb3⟩
   have HO3 := Ya (Kd.R_lower ho3 HB1.out.size)
   have HB3 := Ya hb3
   clear ho3 hb3
   go_wp2
   go_ret
   exact ⟨_, rfl, HO3.out, HB3.out⟩
  ·rw [if_neg e1] at H
   have e1b : (a1_0 == 1) = false := beq_eq_false_iff_ne.mpr e1
   by_cases e2 : a1_0 = 2
   rotate_left
   ·rw [if_neg e2] at H; cases H
   subst e2
   clear e0 e0b e1 e1b
   rw [if_pos rfl] at H
   by_cases hi0 : 1 ≤ a1_1
   rotate_left
   ·rw [if_neg hi0] at H; cases H
   rw [if_pos hi0] at H
   by_cases hi : a1_1 ≤ (t.length : Int)
   rotate_left
   ·rw [if_neg hi] at H; cases H
   rw [if_pos hi] at H
   obtain rfl := Option.some.inj H
   clear H
   obtain ⟨inf0, hinf, hz1, hsz1, hb1⟩ := info_parts info3
   obtain ⟨A1, hA1⟩ : ∃ A1, A1 = (if c0 = (1 : Int).toNat then A0 else A0.map (·.add ((1 : Int).toNat * 1))) := ⟨_, rfl⟩
   have hcut := cut_mid (P := Try.prog) 24 3 .i64 .i64 Try.underlying24 hinf 1 hsz1 A0 t.length c0 1 a1_1 (by omega) hi0 hi HC0.out
   rw [← hA1] at hcut
   have HR1 := Ya (Kd.C_mid (lo := 1) (hi := a1_1.toNat) HR0.out (by omega) (by omega) HC0.out)
   rw [show (if c0 = 1 then A0 else A0.map (·.add (1 * (Kd.int .i64).sz))) = A1 from hA1.symm, show ((t.take a1_1.toNat).drop 1).length = a1_1.toNat - 1 from by rw [Z30, Z31]; omega] at HR1
   clear hA1
   obtain ⟨ad0, ed0, hxl⟩ := Kd.at_int HR0.out 0 (by omega) (by omega)
   cases ed0
   have hszI : (Try.prog.info? 3).map (·.size) = some 1 := by rw [hinf]; exact congrArg some hsz1
   clear hinf hz1 hsz1 hb1
   have HSZ := Ya hszI
   have HXL := Ya hxl
   clear hszI hxl
   go_enter Try.func51, Try.ntmps51
   go_wp2_with (first | ((with_reducible refine gate_dst (N := 3) rfl ?_); refine Yx 3 #[.int .i64 2, .int .i64 a1_1, .int .i64 a1_2] 45 ?_; intro gb hgb w1 hbox hb; have HB1 := Ya hb; have BK1 := Ya hbox; have HG := Ya hgb; clear HB hb hbox hgb))
   refine (impl_copied.calls (some ad0) c0 t t _ (Z21 HR0.out HB1.out) HC0.out Hc.out).mono ?_
   rintro e w2 ⟨v, rfl, ho, hb2⟩
   have BK2 := Ya (Z27 BK1.out hb2)
   have HB2 := Ya (HB1.out.trans (hb2.mono HB1.out.size))
   obtain ⟨go, co, ev, gb9, gl9, cl9, HG9⟩ := Kd.R_form ho (by omega)
   subst ev
   have HO := Ya (Kd.R_lower ho HB1.out.size)
   have hx0 : w2.cell? ⟨gb, 0, none⟩ = some (.int .i64 2) := (Z22 BK2.out 0).trans rfl
   have hx1 : w2.cell? ⟨gb, 1, none⟩ = some (.int .i64 a1_1) := (Z22 BK2.out 1).trans rfl
   have hne : gb ≠ go := by have := HG.out; have := blk_lt BK1.out; omega
   have Hgo := Ya (Nat.le_trans HB1.out.size gb9)
   clear ho hb2 HG9 HC0 Hc BK1 BK2 gb9 gl9
   go_wp2_with (first | ((with_reducible refine gate_builtin (b := .copy) (xs := #[.tmp 39, .tmp 43]) rfl ?_); refine Kd.R_copy (enc := Value.int .i64) (d := 0) (w0 := w) w.heap.size rfl (.tmp 39) (.tmp 43) 24 24 3 rfl Try.underlying24 HSZ.out (.slice (some ⟨go, 0, none⟩) t.length co) t ((t.take a1_1.toNat).drop 1) A1 (a1_1.toNat - 1) (c0 - 1) (fun _ => True) rfl rfl HO.out (Z21 HR1.out HB2.out) HB2.out HB2.out.size ?_; intro w3 ho3 hb3 hg3; rw [show min (a1_1.toNat - 1) t.length = a1_1.toNat - 1 from by omega, List.take_of_length_le (show ((t.take a1_1.toNat).drop 1).length ≤ a1_1.toNat - 1 by rw [Z30, Z31]; omega), show a1_1.toNat - 1 = (a1_1 - 1).toNat from by omega] at ho3; have HO3 := Ya ho3; have HB3 := Ya hb3; have hx13 := cell_grown hg3 hx1 (fun e_ => hne (Option.some.inj e_)); clear HO HR1 HB2 hcut hx0 hx1 ho3 hb3 hg3))
   have hxl3 := (HB3.out.cell (World.block_lt_of_cell? w _ HXL.out)).trans HXL.out
   rw [show ad0.add (Int.toNat 0) = ad0 from by simp [Addr.add]] at hxl3
   have htl : 0 < t.length := by omega
   have hlen : ((t.take a1_1.toNat).drop 1 ++ t.drop (a1_1 - 1).toNat).length = t.length := by rw [List.length_append, Z30, Z30, Z31]; omega
   obtain ⟨hxi, hfi⟩ := Kd.R_celln 0 HO3.out (a1_1 - 1) (by omega) (by omega)
   have HQ := Ya (Kd.R_putg HO3.out (a1_1 - 1) (rd t 0)).1
   clear HXL HSZ HB1 hlen
   have hwr : IntKind.i64.wrap (a1_1 - 1) = a1_1 - 1 := IntWalk.i64_in _ (by omega)
   have hp1 : 0 ≤ a1_1 - 1 := by omega
   have hq1 : a1_1 - 1 < (t.length : Int) := by omega
   have HE := Ya (show (a1_1 - 1).toNat = a1_1.toNat - 1 from by omega)
   rw [HE.out] at hxi hfi
   go_wp2_with fail
   go_region
   all_goals
    clear hwr
    go_wp2
    go_ret
    exact ⟨_, rfl, by rw [← HE.out]; exact Z11 HQ.out, Z4 (Z6 HB3.out Hgo.out)⟩
mutual
def impl_permutationRank.l0 : Nat → List Int → Int → List Int → Int → Int → Option (Int)
 | 0, _, _, _, _, _ => none
 | k + 1, x0, x3, x9, x10, x11 => if x11 < x10 then (if 0 ≤ x11 then (if x11 < (x9.length : Int) then (if 0 ≤ (wrap64 (x11 + 1)) then (if (wrap64 (x11 + 1)) ≤ (x0.length : Int) then (impl_permutationRank.l1 k x0 x3 x11 (rd x9 x11) 0 x9 x10 x11 (x0.drop ((wrap64 (x11 + 1)) : Int).toNat) ((x0.drop ((wrap64 (x11 + 1)) : Int).toNat).length : Int) 0) else (none)) else (none)) else (none)) else (none)) else (some x3)
def impl_permutationRank.l1 : Nat → List Int → Int → Int → Int → Int → List Int → Int → Int → List Int → Int → Int → Option (Int)
 | 0, _, _, _, _, _, _, _, _, _, _, _ => none
 | k + 1, x0, x3, x4, x5, x6, x9, x10, x11, x19, x20, x21 => if x21 < x20 then (if 0 ≤ x21 then (if x21 < (x19.length : Int) then (if (rd x19 x21) < x5 then (impl_permutationRank.l1 k x0 x3 x4 x5 (wrap64 (x6 + 1)) x9 x10 x11 x19 x20 (wrap64 (x21 + 1))) else (impl_permutationRank.l1 k x0 x3 x4 x5 x6 x9 x10 x11 x19 x20 (wrap64 (x21 + 1)))) else (none)) else (none)) else ((impl_factorial.f k (wrap64 ((wrap64 ((x0.length : Int) - x4)) - 1))).bind fun t162 => (impl_permutationRank.l0 k x0 (wrap64 (x3 + (wrap64 (x6 * t162)))) x9 x10 (wrap64 (x11 + 1))))
end
def impl_permutationRank.f (k : Nat) (l0 : List Int) : Option (Int) := impl_permutationRank.l0 k l0 0 l0 (l0.length : Int) 0
theorem impl_permutationRank.mono_l : ∀ k, (∀ y0 y1 y2 y3 y4, LeO (impl_permutationRank.l0 k y0 y1 y2 y3 y4) (impl_permutationRank.l0 (k + 1) y0 y1 y2 y3 y4)) ∧ (∀ y0 y1 y2 y3 y4 y5 y6 y7 y8 y9 y10, LeO (impl_permutationRank.l1 k y0 y1 y2 y3 y4 y5 y6 y7 y8 y9 y10) (impl_permutationRank.l1 (k + 1) y0 y1 y2 y3 y4 y5 y6 y7 y8 y9 y10))
 | 0 => ⟨fun _ _ _ _ _ r h => by simp [impl_permutationRank.l0] at h, fun _ _ _ _ _ _ _ _ _ _ _ r h => by simp [impl_permutationRank.l1] at h⟩
 | k + 1 => by
  obtain ⟨ih0, ih1⟩ := impl_permutationRank.mono_l k
  refine ⟨?_, ?_⟩
  ·intro y0 y1 y2 y3 y4
   unfold impl_permutationRank.l0
   repeat' first
   | (with_reducible exact ih0 _ _ _ _ _)
   | (with_reducible exact ih1 _ _ _ _ _ _ _ _ _ _ _)
   | (with_reducible exact impl_factorial.mono _ _)
   | (with_reducible exact LeO.refl _)
   | (with_reducible exact LeO.none _)
   | (with_reducible refine LeO.ite ?_ ?_)
   | (with_reducible refine LeO.bind ?_ (fun _ => ?_))
   | exact ih0 _ _ _ _ _
   | exact ih1 _ _ _ _ _ _ _ _ _ _ _
   | exact impl_factorial.mono _ _
   | exact LeO.none _
   | refine LeO.ite ?_ ?_
   | refine LeO.bind ?_ (fun _ => ?_)
  ·intro y0 y1 y2 y3 y4 y5 y6 y7 y8 y9 y10
   unfold impl_permutationRank.l1
   repeat' first
   | (with_reducible exact ih0 _ _ _ _ _)
   | (with_reducible exact ih1 _ _ _ _ _ _ _ _ _ _ _)
   | (with_reducible exact impl_factorial.mono _ _)
   | (with_reducible exact LeO.refl _)
   | (with_reducible exact LeO.none _)
   | (with_reducible refine LeO.ite ?_ ?_)
   | (with_reducible refine LeO.bind ?_ (fun _ => ?_))
   | exact ih0 _ _ _ _ _
   | exact ih1 _ _ _ _ _ _ _ _ _ _ _
   | exact impl_factorial.mono _ _
   | exact LeO.none _
   | refine LeO.ite ?_ ?_
   | refine LeO.bind ?_ (fun _ => ?_)
theorem impl_permutationRank.mono : ∀ a0 k, LeO (impl_permutationRank.f k a0) (impl_permutationRank.f (k + 1) a0) := by
 intro a0 k
 obtain ⟨ih0, ih1⟩ := impl_permutationRank.mono_l k
 unfold impl_permutationRank.f
 repeat' first
   | (with_reducible exact ih0 _ _ _ _ _)
   | (with_reducible exact ih1 _ _ _ _ _ _ _ _ _ _ _)
   | (with_reducible exact impl_factorial.mono _ _)
   | (with_reducible exact LeO.refl _)
   | (with_reducible exact LeO.none _)
   | (with_reducible refine LeO.ite ?_ ?_)
   | (with_reducible refine LeO.bind ?_ (fun _ => ?_))
   | exact ih0 _ _ _ _ _
   | exact ih1 _ _ _ _ _ _ _ _ _ _ _
   | exact impl_factorial.mono _ _
   | exact LeO.none _
   | refine LeO.ite ?_ ?_
   | refine LeO.bind ?_ (fun _ => ?_)
set_option maxHeartbeats 8000000 in
set_option maxRecDepth 100000 in
theorem impl_permutationRank.calls (k : Nat) (A0 : Option Addr) (c0 : Nat) (l0 : List Int) (r : Int) (w : World) (hr0 : Kd.C (Kd.int .i64) w A0 l0.length l0) (hc0 : l0.length ≤ c0) (h : impl_permutationRank.f k l0 = some r) :
  Calls Try.prog 52 #[.slice A0 l0.length c0] w fun e w' => e = .returned (.int .i64 r) ∧ Drawn0 w w' := by
 have HR0 := Ya hr0
 have HC0 := Ya hc0
 clear hr0 hc0
 have H : (impl_permutationRank.l0 k l0 0 l0 (l0.length : Int) 0) = some r := h
 clear h
 have H' := Ya H
 clear H
 go_enter Try.func52, Try.ntmps52
 go_wp2
 go_loopg [3, 11] k (fun kq v3 v11 w' => ∃ (x3_1 : Int) (x11_1 : Int), v3 = .int .i64 x3_1 ∧ v11 = .int .i64 x11_1 ∧ Aside0 (impl_permutationRank.l0 kq l0 x3_1 l0 (l0.length : Int) x11_1 = some r) ∧ Aside0 (kq ≤ k) ∧ Drawn0 w w')
 case atStart => exact ⟨(0), (0), Q3, Q3, H', ⟨Nat.le_refl _⟩, Q8⟩
 case round =>
  clear H'
  obtain ⟨x3_1, x11_1, rfl, rfl, HA, HK1, ⟨m1, rfl⟩⟩ := hrel
  cases gk with
  | zero => exact absurd HA.out (by simp [impl_permutationRank.l0])
  | succ k1 =>
   have H := HA.out
   clear HA
   simp only [impl_permutationRank.l0] at H
   by_cases c2 : x11_1 < (l0.length : Int)
   ·rw [if_pos c2] at H
    have c2b0 := Z37 c2
    clear c2
    by_cases c3 : 0 ≤ x11_1
    ·rw [if_pos c3] at H
     have c3b0 := Z37 c3
     clear c3
     by_cases c4 : x11_1 < (l0.length : Int)
     ·rw [if_pos c4] at H
      have c4b0 := Z37 c4
      clear c4
      obtain ⟨ji5, hji5⟩ : ∃ j_ : Int, (wrap64 (x11_1 + 1)) = j_ := ⟨_, rfl⟩
      replace H : (if 0 ≤ (ji5) then (if (ji5) ≤ (l0.length : Int) then (impl_permutationRank.l1 k1 l0 x3_1 x11_1 (rd l0 x11_1) 0 l0 (l0.length : Int) x11_1 (l0.drop ((ji5) : Int).toNat) ((l0.drop ((ji5) : Int).toNat).length : Int) 0) else (none)) else (none)) = some r := by first | (rw [hji5] at H; exact H) | (simp only [hji5] at H ⊢; exact H)
      have hji5w : (IntKind.i64.wrap (x11_1 + 1)) = ji5 := (i64_w _).trans hji5
      by_cases c6 : 0 ≤ (ji5)
      ·rw [if_pos c6] at H
       have c6b0 := eq_true c6
       have c6b1 := Z37 c6
       clear c6
       by_cases c7 : (ji5) ≤ (l0.length : Int)
       ·rw [if_pos c7] at H
        have c7b0 := eq_true c7
        have c7b1 := Z37 c7
        clear c7
        have H' := Ya H
        clear H
        have p159 : 0 ≤ (x11_1 : Int) := Z29 Q1
        have q159 : x11_1 < (l0.length : Int) := Z29 Q1
        obtain ⟨ad159, e159, hx159_0⟩ := Kd.at_int HR0.out x11_1 p159 q159
        cases e159
        replace p159 := eq_true p159
        replace q159 := eq_true q159
        obtain ⟨i08, hi08, _, hsz8, _⟩ := info_parts info3
        obtain ⟨A8, hcut8, hA8, hC8⟩ := print_drop_of (P := Try.prog) (Value.int .i64) 0 24 3 .i64 Try.underlying24 hi08 hsz8 (some ad159) c0 l0 (ji5) (Z29 Q1) (Z29 Q1) HC0.out
        have HR160 := Ya (Kd.C_of_reads (h1 := fun _ => rfl) (hA8 _ (Kd.reads_of_C HR0.out)))
        have HC160 := Ya hC8
        clear hA8 hC8 hi08 hsz8
        go_wp2
        go_loopg [6, 21] k1 (fun kq v6 v21 w' => ∃ (x6_2 : Int) (x21_2 : Int), v6 = .int .i64 x6_2 ∧ v21 = .int .i64 x21_2 ∧ Aside0 (impl_permutationRank.l1 kq l0 x3_1 x11_1 (rd l0 x11_1) x6_2 l0 (l0.length : Int) x11_1 (l0.drop ((ji5) : Int).toNat) ((l0.drop ((ji5) : Int).toNat).length : Int) x21_2 = some r) ∧ Aside0 (kq ≤ k1) ∧ Drawn0 w w')
        case atStart => exact ⟨(0), (0), Q3, Q3, H', ⟨Nat.le_refl _⟩, Q8⟩
        case round =>
         clear H'
         try clear p1
         try clear q1
         try clear hx1
         try clear c2
         try clear c2b0
         try clear p2
         try clear c3
         try clear c3b0
         try clear c4
         try clear c4b0
         try clear c5
         try clear c6
         try clear c6b0
         try clear c6b1
         try clear p6
         try clear c7
         try clear c7b0
         try clear c7b1
         try clear hx159_0
         try clear p159
         try clear q159
         obtain ⟨x6_2, x21_2, rfl, rfl, HA, HK2, ⟨m2, rfl⟩⟩ := hrel
         cases gk with
         | zero => exact absurd HA.out (by simp [impl_permutationRank.l1])
         | succ k2 =>
          have H := HA.out
          clear HA
          simp only [impl_permutationRank.l1] at H
          by_cases c9 : x21_2 < ((l0.drop ((ji5) : Int).toNat).length : Int)
          ·rw [if_pos c9] at H
           have c9b0 := Z37 c9
           (try (have c9b1 : decide (x21_2 < ((l0.length - (ji5 : Int).toNat : Nat) : Int)) = true := by have hc_ := c9; rw [Z30] at hc_; exact Z37 hc_))
           (try (have c9b2 : (x21_2 < ((l0.length - (ji5 : Int).toNat : Nat) : Int)) = True := eq_true (by have hc_ := c9; rw [Z30] at hc_; exact hc_)))
           clear c9
           by_cases c10 : 0 ≤ x21_2
           ·rw [if_pos c10] at H
            have c10b0 := Z37 c10
            clear c10
            by_cases c11 : x21_2 < ((l0.drop ((ji5) : Int).toNat).length : Int)
            ·rw [if_pos c11] at H
             have c11b0 := Z37 c11
             (try (have c11b1 : decide (x21_2 < ((l0.length - (ji5 : Int).toNat : Nat) : Int)) = true := by have hc_ := c11; rw [Z30] at hc_; exact Z37 hc_))
             (try (have c11b2 : (x21_2 < ((l0.length - (ji5 : Int).toNat : Nat) : Int)) = True := eq_true (by have hc_ := c11; rw [Z30] at hc_; exact hc_)))
             clear c11
             by_cases c12 : (rd (l0.drop ((ji5) : Int).toNat) x21_2) < (rd l0 x11_1)
             ·rw [if_pos c12] at H
              have c12b0 := Z37 c12
              clear c12
              have H' := Ya H
              clear H
              have p161 : 0 ≤ (x21_2 : Int) := Z29 Q1
              have q161 : x21_2 < ((l0.drop ((ji5) : Int).toNat).length : Int) := Z29 Q1
              obtain ⟨ad161, e161, hx161_0⟩ := Kd.at_int HR160.out x21_2 p161 q161
              cases e161
              replace p161 := eq_true p161
              replace q161 := eq_true q161
              go_wp2
              go_roundg k2
              case measure => have := HK1.out; have := HK2.out; omega
              case rel => exact ⟨(wrap64 (x6_2 + 1)), (wrap64 (x21_2 + 1)), Q3, Q3, H', ⟨Q40⟩, Q8⟩
             ·rw [if_neg c12] at H
              have c12b0 := Z36 c12
              clear c12
              have H' := Ya H
              clear H
              have p161 : 0 ≤ (x21_2 : Int) := Z29 Q1
              have q161 : x21_2 < ((l0.drop ((ji5) : Int).toNat).length : Int) := Z29 Q1
              obtain ⟨ad161, e161, hx161_0⟩ := Kd.at_int HR160.out x21_2 p161 q161
              cases e161
              replace p161 := eq_true p161
              replace q161 := eq_true q161
              go_wp2
              go_roundg k2
              case measure => have := HK1.out; have := HK2.out; omega
              case rel => exact ⟨(x6_2), (wrap64 (x21_2 + 1)), Q3, Q3, H', ⟨Q40⟩, Q8⟩
            ·rw [if_neg c11] at H
             exact absurd H (by simp)
           ·rw [if_neg c10] at H
            exact absurd H (by simp)
          ·rw [if_neg c9] at H
           have c9b0 := Z36 c9
           (try (have c9b1 : decide (x21_2 < ((l0.length - (ji5 : Int).toNat : Nat) : Int)) = false := by have hc_ := c9; rw [Z30] at hc_; exact Z36 hc_))
           clear c9
           replace H := Z35.mp H
           obtain ⟨t162, A130, H⟩ := H
           replace H : (impl_permutationRank.l0 k2 l0 (wrap64 (x3_1 + (wrap64 (x6_2 * t162)))) l0 (l0.length : Int) (wrap64 (x11_1 + 1))) = some r := H
           have A13 := Ya A130
           clear A130
           have H' := Ya H
           clear H
           go_wp2_with (first | ((with_reducible refine gate_callee (f := 50) rfl ?_); refine Yz 38 Try.func50 #[.int .i64 (wrap64 ((wrap64 ((l0.length : Int) - x11_1)) - 1))] ?_; (with_reducible refine (impl_factorial.calls k2 (wrap64 ((wrap64 ((l0.length : Int) - x11_1)) - 1)) t162 _ A13.out).mono ?_); rintro e w' ⟨rfl, ⟨nd, rfl⟩⟩; refine ⟨_, rfl, ?_⟩))
           go_roundg k2
           case measure => have := HK1.out; have := HK2.out; omega
           case rel => exact ⟨(wrap64 (x3_1 + (wrap64 (x6_2 * t162)))), (wrap64 (x11_1 + 1)), Q3, Q3, H', ⟨Q40⟩, Q8⟩
       ·rw [if_neg c7] at H
        exact absurd H (by simp)
      ·rw [if_neg c6] at H
       exact absurd H (by simp)
     ·rw [if_neg c4] at H
      exact absurd H (by simp)
    ·rw [if_neg c3] at H
     exact absurd H (by simp)
   ·rw [if_neg c2] at H
    have c2b0 := Z36 c2
    clear c2
    obtain rfl := Option.some.inj H
    go_wp2
    go_ret
    exact ⟨Q16, Q8⟩
theorem impl_FirstPath.zeroB (w : World) : (zeroValue 4).run Try.prog w = .ok (.bool false) w := by kernel_rfl
theorem impl_FirstPath.mt : Try.prog.underlying 73 = some (.map 3 4) := Try.underlying73
theorem impl_FirstPath.mk_ : Try.prog.underlying 3 = some (.int .i64) := Try.underlying3
theorem impl_FirstPath.me : Try.prog.underlying 4 = some .bool := Try.underlying4
mutual
def impl_FirstPath.e : Nat → Int → Int → List (S45) → List Int → List Int → Int → List Int → Option (Bool × Bool × List Int × Int × List Int)
 | 0, _, _, _, _, _, _, _ => none
 | k + 1, n, bud, L, l, M, put, out => (impl_factorial.f k n).bind fun t => if (M.length : Int) = t then some (true, true, M, put, out) else impl_FirstPath.l k n bud L l 0 M put out
def impl_FirstPath.l : Nat → Int → Int → List (S45) → List Int → Int → List Int → Int → List Int → Option (Bool × Bool × List Int × Int × List Int)
 | 0, _, _, _, _, _, _, _, _ => none
 | k + 1, n, bud, L, l, i, M, put, out => if i < (L.length : Int) then (if 0 ≤ i then ((impl_moved.f k l (rd_T45 L i).f0 (rd_T45 L i).f1 (rd_T45 L i).f2).bind fun nx => ((impl_permutationRank.f k nx).bind fun r => (if (Lit.int .i64 r).wf = true then (if r ∈ M then (impl_FirstPath.l k n bud L l (wrap64 (i + 1)) M put out) else (if (-1000 ≤ put ∧ put ≤ 1000000) ∧ M.length < 1000000 ∧ out.length < 1000000 then (if bud < put + 1 then some (false, false, M, put + 1, out) else ((impl_FirstPath.e k n bud L nx (r :: M) (put + 1) (out ++ [i])).bind fun z => (if z.1 = true then some z else (if z.2.1 = false then some z else (if z.2.2.1.Nodup ∧ 0 < z.2.2.2.2.length ∧ z.2.2.2.2.length < 1000000 then (impl_FirstPath.l k n bud L l (wrap64 (i + 1)) (z.2.2.1.erase r) z.2.2.2.1 (z.2.2.2.2.take (z.2.2.2.2.length - 1))) else none))))) else none)) else none))) else none) else some (false, true, M, put, out)
end
def impl_FirstPath.f (k : Nat) (a0 : Int) (l1 : List (S45)) (a2 : Int) : Option (List Int × Bool) := (impl_areMoves.f k a0 l1).bind fun t => (if t = true then (if 4 < a0 then some ([], false) else ((impl_within.f a2 1 4000).bind fun b => (if b = true then ((impl_identity.f k a0).bind fun s => ((impl_FirstPath.e k a0 a2 l1 s [0] 1 []).bind fun z => (if z.1 = true then some (z.2.2.2.2, true) else some ([], false)))) else some ([], false)))) else some ([], false))
theorem impl_FirstPath.mono_l : ∀ k, (∀ y0 y1 y2 y3 y4 y5 y6, LeO (impl_FirstPath.e k y0 y1 y2 y3 y4 y5 y6) (impl_FirstPath.e (k + 1) y0 y1 y2 y3 y4 y5 y6)) ∧ (∀ y0 y1 y2 y3 y4 y5 y6 y7, LeO (impl_FirstPath.l k y0 y1 y2 y3 y4 y5 y6 y7) (impl_FirstPath.l (k + 1) y0 y1 y2 y3 y4 y5 y6 y7))
 | 0 => ⟨fun _ _ _ _ _ _ _ r h => by simp [impl_FirstPath.e] at h, fun _ _ _ _ _ _ _ _ r h => by simp [impl_FirstPath.l] at h⟩
 | k + 1 => by
  obtain ⟨ih0, ih1⟩ := impl_FirstPath.mono_l k
  refine ⟨?_, ?_⟩
  ·intro y0 y1 y2 y3 y4 y5 y6
   unfold impl_FirstPath.e
   repeat' first
   | (with_reducible exact ih0 _ _ _ _ _ _ _)
   | (with_reducible exact ih1 _ _ _ _ _ _ _ _)
   | (with_reducible exact impl_areMoves.mono _ _ _)
   | (with_reducible exact impl_factorial.mono _ _)
   | (with_reducible exact impl_identity.mono _ _)
   | (with_reducible exact impl_moved.mono _ _ _ _ _)
   | (with_reducible exact impl_permutationRank.mono _ _)
   | (with_reducible exact LeO.refl _)
   | (with_reducible exact LeO.none _)
   | (with_reducible refine LeO.ite ?_ ?_)
   | (with_reducible refine LeO.bind ?_ (fun _ => ?_))
   | exact ih0 _ _ _ _ _ _ _
   | exact ih1 _ _ _ _ _ _ _ _
   | exact impl_areMoves.mono _ _ _
   | exact impl_factorial.mono _ _
   | exact impl_identity.mono _ _
   | exact impl_moved.mono _ _ _ _ _
   | exact impl_permutationRank.mono _ _
   | exact LeO.none _
   | refine LeO.ite ?_ ?_
   | refine LeO.bind ?_ (fun _ => ?_)
  ·intro y0 y1 y2 y3 y4 y5 y6 y7
   unfold impl_FirstPath.l
   repeat' first
   | (with_reducible exact ih0 _ _ _ _ _ _ _)
   | (with_reducible exact ih1 _ _ _ _ _ _ _ _)
   | (with_reducible exact impl_areMoves.mono _ _ _)
   | (with_reducible exact impl_factorial.mono _ _)
   | (with_reducible exact impl_identity.mono _ _)
   | (with_reducible exact impl_moved.mono _ _ _ _ _)
   | (with_reducible exact impl_permutationRank.mono _ _)
   | (with_reducible exact LeO.refl _)
   | (with_reducible exact LeO.none _)
   | (with_reducible refine LeO.ite ?_ ?_)
   | (with_reducible refine LeO.bind ?_ (fun _ => ?_))
   | exact ih0 _ _ _ _ _ _ _
   | exact ih1 _ _ _ _ _ _ _ _
   | exact impl_areMoves.mono _ _ _
   | exact impl_factorial.mono _ _
   | exact impl_identity.mono _ _
   | exact impl_moved.mono _ _ _ _ _
   | exact impl_permutationRank.mono _ _
   | exact LeO.none _
   | refine LeO.ite ?_ ?_
   | refine LeO.bind ?_ (fun _ => ?_)
theorem impl_FirstPath.mono : ∀ a0 a1 a2 k, LeO (impl_FirstPath.f k a0 a1 a2) (impl_FirstPath.f (k + 1) a0 a1 a2) := by
 intro a0 a1 a2 k
 obtain ⟨ih0, ih1⟩ := impl_FirstPath.mono_l k
 unfold impl_FirstPath.f
 repeat' first
   | (with_reducible exact ih0 _ _ _ _ _ _ _)
   | (with_reducible exact ih1 _ _ _ _ _ _ _ _)
   | (with_reducible exact impl_areMoves.mono _ _ _)
   | (with_reducible exact impl_factorial.mono _ _)
   | (with_reducible exact impl_identity.mono _ _)
   | (with_reducible exact impl_moved.mono _ _ _ _ _)
   | (with_reducible exact impl_permutationRank.mono _ _)
   | (with_reducible exact LeO.refl _)
   | (with_reducible exact LeO.none _)
   | (with_reducible refine LeO.ite ?_ ?_)
   | (with_reducible refine LeO.bind ?_ (fun _ => ?_))
   | exact ih0 _ _ _ _ _ _ _
   | exact ih1 _ _ _ _ _ _ _ _
   | exact impl_areMoves.mono _ _ _
   | exact impl_factorial.mono _ _
   | exact impl_identity.mono _ _
   | exact impl_moved.mono _ _ _ _ _
   | exact impl_permutationRank.mono _ _
   | exact LeO.none _
   | refine LeO.ite ?_ ?_
   | refine LeO.bind ?_ (fun _ => ?_)
open Go.Proofs.Ytllhnnjkonghlaa.FpW in
def impl_FirstPath.cs (n bud : Int) (AL : Option Addr) (nL cL : Nat) (g : Bl) : Cs := ⟨73, 3, 27, 24, 74, .int .i64 n, .slice AL nL cL, .int .i64 bud, .func (.func 49) #[] #[.pointer (some ⟨g.bm, 0, none⟩), .pointer (some ⟨g.bn, 0, none⟩), .pointer (some ⟨g.bv, 0, none⟩), .pointer (some ⟨g.bp, 0, none⟩), .pointer (some ⟨g.bb, 0, none⟩), .pointer (some ⟨g.bo, 0, none⟩), .pointer (some ⟨g.be, 0, none⟩)]⟩
open Go.Proofs.Ytllhnnjkonghlaa.MapSet Go.Proofs.Ytllhnnjkonghlaa.FpW in
set_option maxHeartbeats 8000000 in
set_option maxRecDepth 100000 in
theorem impl_FirstPath.ext : ∀ (k : Nat) (w0 : World) (g : Bl) (AL : Option Addr) (cL : Nat) (L : List (S45)) (n bud : Int) (Al : Option Addr) (cl : Nat) (l : List Int) (M : List Int) (put : Int) (out : List Int) (vo : Value) (z : Bool × Bool × List Int × Int × List Int) (w : World) (hL : Kd.C k45 w0 AL L.length L) (hcL : L.length ≤ cL) (hl : ∀ W', Kept w W' (Wq g vo) → Kd.C (Kd.int .i64) W' Al l.length l) (hcl : l.length ≤ cl) (hs : St Try.prog 3 4 w w0.heap.size g (impl_FirstPath.cs n bud AL L.length cL g) (M) (put) (out) (vo)) (hb : Below w0.heap.size w0 w) (h : impl_FirstPath.e k n bud L l M put out = some z),
  Calls Try.prog 49 #[.slice Al l.length cl, .pointer (some ⟨g.bm, 0, none⟩), .pointer (some ⟨g.bn, 0, none⟩), .pointer (some ⟨g.bv, 0, none⟩), .pointer (some ⟨g.bp, 0, none⟩), .pointer (some ⟨g.bb, 0, none⟩), .pointer (some ⟨g.bo, 0, none⟩), .pointer (some ⟨g.be, 0, none⟩)] w fun e w' => ∃ vo' : Value, e = .returned (.tuple #[.bool z.1, .bool z.2.1]) ∧ St Try.prog 3 4 w' w0.heap.size g (impl_FirstPath.cs n bud AL L.length cL g) (z.2.2.1) (z.2.2.2.1) (z.2.2.2.2) (vo') ∧ Kept w w' (Wq g vo) ∧ Fr w vo vo' ∧ Below w0.heap.size w0 w' := by
 intro k
 induction k using Nat.strongRecOn with
 | ind k ih =>
 intro w0 g AL cL L n bud Al cl l M put out vo z w hL hcL hl hcl hs hb h
 have hu := Try.underlying45
 cases k with
 | zero => simp [impl_FirstPath.e] at h
 | succ k =>
 have IH := Ya ih
 clear ih
 simp only [impl_FirstPath.e] at h
 obtain ⟨t, h1, h⟩ := Z35.mp h
 have H1 := Ya h1
 have HL := Ya hL
 have HCL := Ya hcL
 have Hl := Ya hl
 have HCl := Ya hcl
 have HS := Ya hs
 have HB := Ya hb
 have hm : w.cell? ⟨g.bm, 0, none⟩ = some (.map (some g.q)) := (Z22 hs.env.m 0).trans rfl
 have hn : w.cell? ⟨g.bn, 0, none⟩ = some (.int .i64 n) := (Z22 hs.env.n 0).trans rfl
 have hv : ∀ m, (w.drewN m).cell? ⟨g.bv, 0, none⟩ = some (.slice AL L.length cL) := fun m => (Z22 (hs.drewN m).env.v 0).trans rfl
 clear h1 hL hcL hl hcl hs hb
 by_cases ct : (M.length : Int) = t
 ·rw [if_pos ct] at h
  obtain rfl := Option.some.inj h
  have cb : ((M.length : Int) == t) = true := beq_iff_eq.mpr ct
  clear h ct hv
  go_enter Try.func49, Try.ntmps49
  go_wp2_with (first | (with_reducible refine wpList_len rfl (.tmp 17) rfl impl_FirstPath.mt rfl HS.out.s ?_))
  refine (impl_factorial.calls k n t _ H1.out).mono ?_
  rintro e w1 ⟨rfl, ⟨nd, rfl⟩⟩
  go_wp2
  go_ret2
  exact ⟨vo, rfl, HS.out.drewN nd, (Kept.refl w _).drewN nd, Fr.refl w vo, Z3 HB.out nd⟩
 rw [if_neg ct] at h
 have cb : ((M.length : Int) == t) = false := beq_eq_false_iff_ne.mpr ct
 have H' := Ya h
 clear h ct
 go_enter Try.func49, Try.ntmps49
 go_wp2_with (first | (with_reducible refine wpList_len rfl (.tmp 17) rfl impl_FirstPath.mt rfl HS.out.s ?_))
 refine (impl_factorial.calls k n t _ H1.out).mono ?_
 rintro e w1 ⟨rfl, ⟨nd, rfl⟩⟩
 replace hv := hv nd
 have HS1 := Ya (HS.out.drewN nd)
 have HK1 := Ya ((Kept.refl w (Wq g vo)).drewN nd)
 have HB1 := Ya (Z3 HB.out nd)
 clear HB
 generalize w.drewN nd = w1 at hv HS1 HK1 HB1 ⊢
 go_wp2
 clear hm hn cb
 go_loopg [24] k (fun kq v24 w' => ∃ (i : Int) (M' : List Int) (put' : Int) (out' : List Int) (vo' : Value), v24 = .int .i64 i ∧ Aside0 (impl_FirstPath.l kq n bud L l i M' put' out' = some z) ∧ Aside0 (kq ≤ k) ∧ Aside0 (St Try.prog 3 4 w' w0.heap.size g (impl_FirstPath.cs n bud AL L.length cL g) (M') (put') (out') (vo')) ∧ Aside0 (Kept w w' (Wq g vo)) ∧ Aside0 (Fr w vo vo') ∧ Aside0 (Below w0.heap.size w0 w'))
 case atStart => exact ⟨0, M, put, out, vo, rfl, H', ⟨Nat.le_refl _⟩, HS1, HK1, ⟨Fr.refl w vo⟩, HB1⟩
 case round =>
  clear H' HS1 HK1 HB1 hv H1
  obtain ⟨i, M', put', out', vo', rfl, HA, HK1, HS1, HK, HF, HB⟩ := hrel
  cases gk with
  | zero => exact absurd HA.out (by simp [impl_FirstPath.l])
  | succ k1 =>
   have H := HA.out
   clear HA
   simp only [impl_FirstPath.l] at H
   by_cases c3 : i < (L.length : Int)
   rotate_left
   ·rw [if_neg c3] at H
    obtain rfl := Option.some.inj H
    have c3b0 := Z36 c3
    clear c3 H
    go_wp2
    go_ret2
    first | exact ⟨vo', rfl, HS1.out, HK.out, HF.out, HB.out⟩ | exact ⟨rfl, vo', HS1.out, HK.out, HF.out, HB.out⟩
   rw [if_pos c3] at H
   have c3b0 := Z37 c3
   by_cases c4 : 0 ≤ i
   rotate_left
   ·rw [if_neg c4] at H; cases H
   rw [if_pos c4] at H
   replace H := Z35.mp H
   obtain ⟨nx, h1, H⟩ := H
   replace H := Z35.mp H
   obtain ⟨r, h2, H⟩ := H
   by_cases cw : (Lit.int .i64 r).wf = true
   rotate_left
   ·rw [if_neg cw] at H; cases H
   rw [if_pos cw] at H
   have T1 := Ya h1
   have T2 := Ya h2
   have HW := Ya cw
   obtain ⟨ad, ead, hx0, hx1, hx2⟩ := at_T45 HL.out i c4 c3
   cases ead
   replace hx0 := (HB.out.cell (World.block_lt_of_cell? w0 _ hx0)).trans hx0
   replace hx1 := (HB.out.cell (World.block_lt_of_cell? w0 _ hx1)).trans hx1
   replace hx2 := (HB.out.cell (World.block_lt_of_cell? w0 _ hx2)).trans hx2
   have c4b : (0 ≤ i) = True := eq_true c4
   have c3b : (i < (L.length : Int)) = True := eq_true c3
   clear h1 h2 cw c3 c4
   by_cases cm : r ∈ M'
   ·rw [if_pos cm] at H
    have H' := Ya H
    have cmb : decide (r ∈ M') = true := Z37 cm
    clear H cm
    go_wp2_with (first | ((with_reducible refine gate_dst (N := 12) rfl ?_); refine Yx 12 #[.int .i64 0, .int .i64 0, .int .i64 0] 45 ?_; intro gb hg w3 hbox hb; have BX := Ya hb; have GX := Ya (show wr.heap.size ≤ gb by rw [hg]; exact Nat.le_refl _); have hcz0 : w3.cell? ⟨gb, 0, none⟩ = some (.int .i64 0) := (Z22 hbox 0).trans rfl; have hcz1 : w3.cell? ⟨gb, 1, none⟩ = some (.int .i64 0) := (Z22 hbox 1).trans rfl; have hcz2 : w3.cell? ⟨gb, 2, none⟩ = some (.int .i64 0) := (Z22 hbox 2).trans rfl; have hfz0 := Z23 hbox 0; have hfz1 := Z23 hbox 1; have hfz2 := Z23 hbox 2; clear hb hbox hg))
    have b3 : Below wr.heap.size wr (((w3.setCell ⟨gb, 0, none⟩ (.int .i64 (rd_T45 L i).f0)).setCell ⟨gb, 1, none⟩ (.int .i64 (rd_T45 L i).f1)).setCell ⟨gb, 2, none⟩ (.int .i64 (rd_T45 L i).f2)) := Z6 (Z6 (Z6 BX.out GX.out) GX.out) GX.out
    have B3 := Ya b3
    clear b3 BX GX hcz0 hcz1 hcz2 hfz0 hfz1 hfz2 hx0 hx1 hx2
    generalize (((w3.setCell ⟨gb, 0, none⟩ (.int .i64 (rd_T45 L i).f0)).setCell ⟨gb, 1, none⟩ (.int .i64 (rd_T45 L i).f1)).setCell ⟨gb, 2, none⟩ (.int .i64 (rd_T45 L i).f2)) = w4 at B3 ⊢
    refine (impl_moved.calls k1 Al cl l (rd_T45 L i).f0 (rd_T45 L i).f1 (rd_T45 L i).f2 nx w4 (Hl.out w4 (HK.out.below B3.out)) HCl.out T1.out).mono ?_
    rintro e w5 ⟨v5, rfl, ho5, hb5⟩
    obtain ⟨A5, c5, rfl⟩ := Z17 ho5
    have HN := Ya (nx_new HS1.out ho5 B3.out.size)
    have B5 := Ya (Z8 B3.out hb5)
    clear ho5 hb5 B3
    go_wp2_with fail
    refine (impl_permutationRank.calls k1 A5 c5 nx r _ (Kd.R_reads' HN.out).2.2 (Kd.R_reads' HN.out).2.1 T2.out).mono ?_
    rintro e w6 ⟨rfl, hd6⟩
    have hb6 : Below w5.heap.size w5 w6 := by first | exact hd6 | exact Drawn0.below hd6
    have n0_ := Ya (Z14 HN.out hb6)
    have HB2 := Ya (Z8 B5.out hb6)
    clear HN hd6 hb6 B5
    have HN := n0_
    clear n0_
    have HS2 := Ya (HS1.out.below HB2.out)
    have HQ := Ya (Kept.of_below HB2.out (Wq g vo'))
    have B2 := Ya (HB.out.trans (HB2.out.mono HB.out.size))
    clear HB2
    have hm : w6.cell? ⟨g.bm, 0, none⟩ = some (.map (some g.q)) := (Z22 HS2.out.env.m 0).trans rfl
    have hp : w6.cell? ⟨g.bp, 0, none⟩ = some (.int .i64 put') := (Z22 HS2.out.p 0).trans rfl
    have hpf : w6.frozen? ⟨g.bp, 0, none⟩ = false := Z23 HS2.out.p 0
    have hbd : w6.cell? ⟨g.bb, 0, none⟩ = some (.int .i64 bud) := (Z22 HS2.out.env.b 0).trans rfl
    have hnb : g.bb ≠ g.bp := HS2.out.di.p.2.2.2.1
    have hnb' : g.bp ≠ g.bb := Ne.symm hnb
    go_wp2_with (first | (with_reducible refine wpList_lookup rfl (.tmp 34) (.tmp 35) rfl impl_FirstPath.mt impl_FirstPath.mk_ impl_FirstPath.me (impl_FirstPath.zeroB _) rfl HS2.out.s r HW.out rfl ?_; rw [cmb]))
    go_roundg k1
    case measure => have := HK1.out; omega
    case rel => exact ⟨wrap64 (i + 1), M', put', out', vo', rfl, H', ⟨Q22⟩, HS2, ⟨HK.out.then_ HQ.out (HF.out.sub)⟩, HF, B2⟩
   rw [if_neg cm] at H
   have cmb : decide (r ∈ M') = false := Z36 cm
   have cm0 := cm
   clear cm
   by_cases cp : (-1000 ≤ put' ∧ put' ≤ 1000000) ∧ M'.length < 1000000 ∧ out'.length < 1000000
   rotate_left
   ·rw [if_neg cp] at H; cases H
   rw [if_pos cp] at H
   have CP := Ya cp
   have pw : IntKind.i64.wrap (put' + 1) = put' + 1 := IntWalk.i64_in _ (by omega)
   have pw' : wrap64 (put' + 1) = put' + 1 := by unfold wrap64; omega
   clear cp
   by_cases cb : bud < put' + 1
   ·rw [if_pos cb] at H
    obtain rfl := Option.some.inj H
    have cbb : decide (bud < put' + 1) = true := Z37 cb
    clear H cb
    go_wp2_with (first | ((with_reducible refine gate_dst (N := 12) rfl ?_); refine Yx 12 #[.int .i64 0, .int .i64 0, .int .i64 0] 45 ?_; intro gb hg w3 hbox hb; have BX := Ya hb; have GX := Ya (show wr.heap.size ≤ gb by rw [hg]; exact Nat.le_refl _); have hcz0 : w3.cell? ⟨gb, 0, none⟩ = some (.int .i64 0) := (Z22 hbox 0).trans rfl; have hcz1 : w3.cell? ⟨gb, 1, none⟩ = some (.int .i64 0) := (Z22 hbox 1).trans rfl; have hcz2 : w3.cell? ⟨gb, 2, none⟩ = some (.int .i64 0) := (Z22 hbox 2).trans rfl; have hfz0 := Z23 hbox 0; have hfz1 := Z23 hbox 1; have hfz2 := Z23 hbox 2; clear hb hbox hg))
    have b3 : Below wr.heap.size wr (((w3.setCell ⟨gb, 0, none⟩ (.int .i64 (rd_T45 L i).f0)).setCell ⟨gb, 1, none⟩ (.int .i64 (rd_T45 L i).f1)).setCell ⟨gb, 2, none⟩ (.int .i64 (rd_T45 L i).f2)) := Z6 (Z6 (Z6 BX.out GX.out) GX.out) GX.out
    have B3 := Ya b3
    clear b3 BX GX hcz0 hcz1 hcz2 hfz0 hfz1 hfz2 hx0 hx1 hx2
    generalize (((w3.setCell ⟨gb, 0, none⟩ (.int .i64 (rd_T45 L i).f0)).setCell ⟨gb, 1, none⟩ (.int .i64 (rd_T45 L i).f1)).setCell ⟨gb, 2, none⟩ (.int .i64 (rd_T45 L i).f2)) = w4 at B3 ⊢
    refine (impl_moved.calls k1 Al cl l (rd_T45 L i).f0 (rd_T45 L i).f1 (rd_T45 L i).f2 nx w4 (Hl.out w4 (HK.out.below B3.out)) HCl.out T1.out).mono ?_
    rintro e w5 ⟨v5, rfl, ho5, hb5⟩
    obtain ⟨A5, c5, rfl⟩ := Z17 ho5
    have HN := Ya (nx_new HS1.out ho5 B3.out.size)
    have B5 := Ya (Z8 B3.out hb5)
    clear ho5 hb5 B3
    go_wp2_with fail
    refine (impl_permutationRank.calls k1 A5 c5 nx r _ (Kd.R_reads' HN.out).2.2 (Kd.R_reads' HN.out).2.1 T2.out).mono ?_
    rintro e w6 ⟨rfl, hd6⟩
    have hb6 : Below w5.heap.size w5 w6 := by first | exact hd6 | exact Drawn0.below hd6
    have n0_ := Ya (Z14 HN.out hb6)
    have HB2 := Ya (Z8 B5.out hb6)
    clear HN hd6 hb6 B5
    have HN := n0_
    clear n0_
    have HS2 := Ya (HS1.out.below HB2.out)
    have HQ := Ya (Kept.of_below HB2.out (Wq g vo'))
    have B2 := Ya (HB.out.trans (HB2.out.mono HB.out.size))
    clear HB2
    have hm : w6.cell? ⟨g.bm, 0, none⟩ = some (.map (some g.q)) := (Z22 HS2.out.env.m 0).trans rfl
    have hp : w6.cell? ⟨g.bp, 0, none⟩ = some (.int .i64 put') := (Z22 HS2.out.p 0).trans rfl
    have hpf : w6.frozen? ⟨g.bp, 0, none⟩ = false := Z23 HS2.out.p 0
    have hbd : w6.cell? ⟨g.bb, 0, none⟩ = some (.int .i64 bud) := (Z22 HS2.out.env.b 0).trans rfl
    have hnb : g.bb ≠ g.bp := HS2.out.di.p.2.2.2.1
    have hnb' : g.bp ≠ g.bb := Ne.symm hnb
    go_wp2_with (first | (with_reducible refine wpList_lookup rfl (.tmp 34) (.tmp 35) rfl impl_FirstPath.mt impl_FirstPath.mk_ impl_FirstPath.me (impl_FirstPath.zeroB _) rfl HS2.out.s r HW.out rfl ?_; rw [cmb]))
    go_ret2
    first | exact ⟨vo', rfl, HS2.out.setP _, HK.out.then_ (kq_setP HQ.out _) (HF.out.sub), HF.out, below_setP HS2.out B2.out _⟩ | exact ⟨rfl, vo', HS2.out.setP _, HK.out.then_ (kq_setP HQ.out _) (HF.out.sub), HF.out, below_setP HS2.out B2.out _⟩
   rw [if_neg cb] at H
   have cbb : decide (bud < put' + 1) = false := Z36 cb
   clear cb
   replace H := Z35.mp H
   obtain ⟨⟨fd, mo, M2, p2, o2⟩, he, H⟩ := H
   have HE := Ya he
   clear he
   dsimp only at H
   have CM := Ya cm0
   obtain ⟨Ao, co, eo⟩ := Z17 HS1.out.r
   subst eo
   clear cm0
   cases fd
   rotate_left
   ·simp only [if_true] at H
    obtain rfl := Option.some.inj H
    clear H
    cases mo
    ·
     go_wp2_with (first | ((with_reducible refine gate_dst (N := 12) rfl ?_); refine Yx 12 #[.int .i64 0, .int .i64 0, .int .i64 0] 45 ?_; intro gb hg w3 hbox hb; have BX := Ya hb; have GX := Ya (show wr.heap.size ≤ gb by rw [hg]; exact Nat.le_refl _); have hcz0 : w3.cell? ⟨gb, 0, none⟩ = some (.int .i64 0) := (Z22 hbox 0).trans rfl; have hcz1 : w3.cell? ⟨gb, 1, none⟩ = some (.int .i64 0) := (Z22 hbox 1).trans rfl; have hcz2 : w3.cell? ⟨gb, 2, none⟩ = some (.int .i64 0) := (Z22 hbox 2).trans rfl; have hfz0 := Z23 hbox 0; have hfz1 := Z23 hbox 1; have hfz2 := Z23 hbox 2; clear hb hbox hg))
     have b3 : Below wr.heap.size wr (((w3.setCell ⟨gb, 0, none⟩ (.int .i64 (rd_T45 L i).f0)).setCell ⟨gb, 1, none⟩ (.int .i64 (rd_T45 L i).f1)).setCell ⟨gb, 2, none⟩ (.int .i64 (rd_T45 L i).f2)) := Z6 (Z6 (Z6 BX.out GX.out) GX.out) GX.out
     have B3 := Ya b3
     clear b3 BX GX hcz0 hcz1 hcz2 hfz0 hfz1 hfz2 hx0 hx1 hx2
     generalize (((w3.setCell ⟨gb, 0, none⟩ (.int .i64 (rd_T45 L i).f0)).setCell ⟨gb, 1, none⟩ (.int .i64 (rd_T45 L i).f1)).setCell ⟨gb, 2, none⟩ (.int .i64 (rd_T45 L i).f2)) = w4 at B3 ⊢
     refine (impl_moved.calls k1 Al cl l (rd_T45 L i).f0 (rd_T45 L i).f1 (rd_T45 L i).f2 nx w4 (Hl.out w4 (HK.out.below B3.out)) HCl.out T1.out).mono ?_
     rintro e w5 ⟨v5, rfl, ho5, hb5⟩
     obtain ⟨A5, c5, rfl⟩ := Z17 ho5
     have HN := Ya (nx_new HS1.out ho5 B3.out.size)
     have B5 := Ya (Z8 B3.out hb5)
     clear ho5 hb5 B3
     go_wp2_with fail
     refine (impl_permutationRank.calls k1 A5 c5 nx r _ (Kd.R_reads' HN.out).2.2 (Kd.R_reads' HN.out).2.1 T2.out).mono ?_
     rintro e w6 ⟨rfl, hd6⟩
     have hb6 : Below w5.heap.size w5 w6 := by first | exact hd6 | exact Drawn0.below hd6
     have n0_ := Ya (Z14 HN.out hb6)
     have HB2 := Ya (Z8 B5.out hb6)
     clear HN hd6 hb6 B5
     have HN := n0_
     clear n0_
     have HS2 := Ya (HS1.out.below HB2.out)
     have HQ := Ya (Kept.of_below HB2.out (Wq g (.slice Ao out'.length co)))
     have B2 := Ya (HB.out.trans (HB2.out.mono HB.out.size))
     clear HB2
     have hm : w6.cell? ⟨g.bm, 0, none⟩ = some (.map (some g.q)) := (Z22 HS2.out.env.m 0).trans rfl
     have hp : w6.cell? ⟨g.bp, 0, none⟩ = some (.int .i64 put') := (Z22 HS2.out.p 0).trans rfl
     have hpf : w6.frozen? ⟨g.bp, 0, none⟩ = false := Z23 HS2.out.p 0
     have hbd : w6.cell? ⟨g.bb, 0, none⟩ = some (.int .i64 bud) := (Z22 HS2.out.env.b 0).trans rfl
     have hnb : g.bb ≠ g.bp := HS2.out.di.p.2.2.2.1
     have hnb' : g.bp ≠ g.bb := Ne.symm hnb
     have hmo : (w6.setCell ⟨g.bp, 0, none⟩ (.int .i64 (put' + 1))).cell? ⟨g.bm, 0, none⟩ = some (.map (some g.q)) := (Z22 (HS2.out.setP (put' + 1)).env.m 0).trans rfl
     have hpo : (w6.setCell ⟨g.bp, 0, none⟩ (.int .i64 (put' + 1))).cell? ⟨g.bb, 0, none⟩ = some (.int .i64 bud) := (Z22 (HS2.out.setP (put' + 1)).env.b 0).trans rfl
     go_wp2_with (first | (with_reducible refine wpList_lookup rfl (.tmp 34) (.tmp 35) rfl impl_FirstPath.mt impl_FirstPath.mk_ impl_FirstPath.me (impl_FirstPath.zeroB _) rfl HS2.out.s r HW.out rfl ?_; rw [cmb]) | ((with_reducible refine wpList_store rfl (.tmp 42) (.tmp 43) (.const (.bool true)) rfl impl_FirstPath.mt impl_FirstPath.mk_ impl_FirstPath.me ?hmm (HS2.out.setP (put' + 1)).s ?hnn r HW.out ?hxx rfl ?_); (case hmm => rfl); (case hxx => rfl); (case hnn => have := CP.out; unfold maxLen; omega); intro w7 hm7 hg7; rw [if_neg CM.out] at hm7; have HS3 := Ya ((HS2.out.setP (put' + 1)).upd hm7 hg7); have HN3 := Ya (nx_upd (nx_setP (u := .int .i64 (put' + 1)) HN.out) hg7); have HQ3 := Ya (kq_upd (kq_setP HQ.out (.int .i64 (put' + 1))) hg7); have B3 := Ya (below_upd HS2.out (below_setP HS2.out B2.out (.int .i64 (put' + 1))) hg7); have ho3 : w7.cell? ⟨g.bo, 0, none⟩ = some (.slice Ao out'.length co) := (Z22 HS3.out.o 0).trans rfl; clear hm7 hg7 hmo hpo) | ((with_reducible refine gate_builtin (b := .append) (xs := #[.tmp 44, .tmp 46]) rfl ?_); at_builtin; refine Kd.R_append (Kd.int .i64) (w0 := w0) w0.heap.size rfl (.tmp 44) (.tmp 46) 24 3 (.int .i64 0) 8 rfl Try.underlying24 info3 rfl (by decide) (by omega) (.slice Ao out'.length co) out' i [.int .i64 i] g.Ok (fun _ => False) rfl Q31 ?aP (fun _ hk => hk.elim) ?aF ?aO ?aB ?aS ?aL ?_; (case aP => exact rfl); (case aB => exact B3.out); (case aF => exact HS3.out.fresh); (case aO => exact HS3.out.r); (case aS => exact B3.out.size); (case aL => have := CP.out; omega); intro v8 w8 ho8 hb8 hg8 hat8; obtain ⟨A8, c8, e8⟩ := Z17 ho8; rw [List.length_append, show [i].length = 1 from rfl] at e8; subst e8; have HS4 := Ya (HS3.out.app ho8 hg8); have HN4 := Ya (nx_setO (u := .slice A8 (out'.length + 1) c8) (nx_app HN3.out hg8 hat8)); have HQ4 := Ya (kq_setO (kq_app HQ3.out hg8) (.slice A8 (out'.length + 1) c8)); have FR4 := Ya ((Fr.new hat8).up HQ3.out.1); have B4 := Ya (below_setO HS3.out hb8 (.slice A8 (out'.length + 1) c8)); have hoc : w8.cell? ⟨g.bo, 0, none⟩ = some (.slice Ao out'.length co) := (Z22 (HS3.out.appO hg8) 0).trans rfl; have hof := Z23 (HS3.out.appO hg8) 0; have hbe : (w8.setCell ⟨g.bo, 0, none⟩ (.slice A8 (out'.length + 1) c8)).cell? ⟨g.be, 0, none⟩ = some (.func (.func 49) #[] #[.pointer (some ⟨g.bm, 0, none⟩), .pointer (some ⟨g.bn, 0, none⟩), .pointer (some ⟨g.bv, 0, none⟩), .pointer (some ⟨g.bp, 0, none⟩), .pointer (some ⟨g.bb, 0, none⟩), .pointer (some ⟨g.bo, 0, none⟩), .pointer (some ⟨g.be, 0, none⟩)]) := (Z22 HS4.out.env.e 0).trans rfl; clear ho8 hb8 hg8 hat8))
     refine (IH.out k1 Q49 w0 g _ cL L n bud A5 c5 nx (r :: M') (put' + 1) (out' ++ [i]) _ (true, false, M2, p2, o2) _ HL.out HCL.out (nx_hl HN4.out) (Kd.R_reads' HN4.out).2.1 HS4.out B4.out HE.out).mono ?_
     rintro e w9 ⟨v9, rfl, hs9, hk9, hf9, hb9⟩
     have HS9 := Ya hs9
     have HK9 := Ya (HK.out.then_ (HQ4.out.then_ hk9 FR4.out.sub) HF.out.sub)
     have HF9 := Ya (HF.out.trans (FR4.out.trans hf9 HQ4.out.1) HK.out.1)
     have HB9 := Ya hb9
     clear hs9 hk9 hf9 hb9 hm hp hpf hbd HS4 HN4 HQ4 FR4 B4 HS3 HN3 HQ3 B3 HS2 HQ B2 HN
     go_wp2
     go_ret2
     first | exact ⟨v9, rfl, HS9.out, HK9.out, HF9.out, HB9.out⟩ | exact ⟨rfl, v9, HS9.out, HK9.out, HF9.out, HB9.out⟩
    ·
     go_wp2_with (first | ((with_reducible refine gate_dst (N := 12) rfl ?_); refine Yx 12 #[.int .i64 0, .int .i64 0, .int .i64 0] 45 ?_; intro gb hg w3 hbox hb; have BX := Ya hb; have GX := Ya (show wr.heap.size ≤ gb by rw [hg]; exact Nat.le_refl _); have hcz0 : w3.cell? ⟨gb, 0, none⟩ = some (.int .i64 0) := (Z22 hbox 0).trans rfl; have hcz1 : w3.cell? ⟨gb, 1, none⟩ = some (.int .i64 0) := (Z22 hbox 1).trans rfl; have hcz2 : w3.cell? ⟨gb, 2, none⟩ = some (.int .i64 0) := (Z22 hbox 2).trans rfl; have hfz0 := Z23 hbox 0; have hfz1 := Z23 hbox 1; have hfz2 := Z23 hbox 2; clear hb hbox hg))
     have b3 : Below wr.heap.size wr (((w3.setCell ⟨gb, 0, none⟩ (.int .i64 (rd_T45 L i).f0)).setCell ⟨gb, 1, none⟩ (.int .i64 (rd_T45 L i).f1)).setCell ⟨gb, 2, none⟩ (.int .i64 (rd_T45 L i).f2)) := Z6 (Z6 (Z6 BX.out GX.out) GX.out) GX.out
     have B3 := Ya b3
     clear b3 BX GX hcz0 hcz1 hcz2 hfz0 hfz1 hfz2 hx0 hx1 hx2
     generalize (((w3.setCell ⟨gb, 0, none⟩ (.int .i64 (rd_T45 L i).f0)).setCell ⟨gb, 1, none⟩ (.int .i64 (rd_T45 L i).f1)).setCell ⟨gb, 2, none⟩ (.int .i64 (rd_T45 L i).f2)) = w4 at B3 ⊢
     refine (impl_moved.calls k1 Al cl l (rd_T45 L i).f0 (rd_T45 L i).f1 (rd_T45 L i).f2 nx w4 (Hl.out w4 (HK.out.below B3.out)) HCl.out T1.out).mono ?_
     rintro e w5 ⟨v5, rfl, ho5, hb5⟩
     obtain ⟨A5, c5, rfl⟩ := Z17 ho5
     have HN := Ya (nx_new HS1.out ho5 B3.out.size)
     have B5 := Ya (Z8 B3.out hb5)
     clear ho5 hb5 B3
     go_wp2_with fail
     refine (impl_permutationRank.calls k1 A5 c5 nx r _ (Kd.R_reads' HN.out).2.2 (Kd.R_reads' HN.out).2.1 T2.out).mono ?_
     rintro e w6 ⟨rfl, hd6⟩
     have hb6 : Below w5.heap.size w5 w6 := by first | exact hd6 | exact Drawn0.below hd6
     have n0_ := Ya (Z14 HN.out hb6)
     have HB2 := Ya (Z8 B5.out hb6)
     clear HN hd6 hb6 B5
     have HN := n0_
     clear n0_
     have HS2 := Ya (HS1.out.below HB2.out)
     have HQ := Ya (Kept.of_below HB2.out (Wq g (.slice Ao out'.length co)))
     have B2 := Ya (HB.out.trans (HB2.out.mono HB.out.size))
     clear HB2
     have hm : w6.cell? ⟨g.bm, 0, none⟩ = some (.map (some g.q)) := (Z22 HS2.out.env.m 0).trans rfl
     have hp : w6.cell? ⟨g.bp, 0, none⟩ = some (.int .i64 put') := (Z22 HS2.out.p 0).trans rfl
     have hpf : w6.frozen? ⟨g.bp, 0, none⟩ = false := Z23 HS2.out.p 0
     have hbd : w6.cell? ⟨g.bb, 0, none⟩ = some (.int .i64 bud) := (Z22 HS2.out.env.b 0).trans rfl
     have hnb : g.bb ≠ g.bp := HS2.out.di.p.2.2.2.1
     have hnb' : g.bp ≠ g.bb := Ne.symm hnb
     have hmo : (w6.setCell ⟨g.bp, 0, none⟩ (.int .i64 (put' + 1))).cell? ⟨g.bm, 0, none⟩ = some (.map (some g.q)) := (Z22 (HS2.out.setP (put' + 1)).env.m 0).trans rfl
     have hpo : (w6.setCell ⟨g.bp, 0, none⟩ (.int .i64 (put' + 1))).cell? ⟨g.bb, 0, none⟩ = some (.int .i64 bud) := (Z22 (HS2.out.setP (put' + 1)).env.b 0).trans rfl
     go_wp2_with (first | (with_reducible refine wpList_lookup rfl (.tmp 34) (.tmp 35) rfl impl_FirstPath.mt impl_FirstPath.mk_ impl_FirstPath.me (impl_FirstPath.zeroB _) rfl HS2.out.s r HW.out rfl ?_; rw [cmb]) | ((with_reducible refine wpList_store rfl (.tmp 42) (.tmp 43) (.const (.bool true)) rfl impl_FirstPath.mt impl_FirstPath.mk_ impl_FirstPath.me ?hmm (HS2.out.setP (put' + 1)).s ?hnn r HW.out ?hxx rfl ?_); (case hmm => rfl); (case hxx => rfl); (case hnn => have := CP.out; unfold maxLen; omega); intro w7 hm7 hg7; rw [if_neg CM.out] at hm7; have HS3 := Ya ((HS2.out.setP (put' + 1)).upd hm7 hg7); have HN3 := Ya (nx_upd (nx_setP (u := .int .i64 (put' + 1)) HN.out) hg7); have HQ3 := Ya (kq_upd (kq_setP HQ.out (.int .i64 (put' + 1))) hg7); have B3 := Ya (below_upd HS2.out (below_setP HS2.out B2.out (.int .i64 (put' + 1))) hg7); have ho3 : w7.cell? ⟨g.bo, 0, none⟩ = some (.slice Ao out'.length co) := (Z22 HS3.out.o 0).trans rfl; clear hm7 hg7 hmo hpo) | ((with_reducible refine gate_builtin (b := .append) (xs := #[.tmp 44, .tmp 46]) rfl ?_); at_builtin; refine Kd.R_append (Kd.int .i64) (w0 := w0) w0.heap.size rfl (.tmp 44) (.tmp 46) 24 3 (.int .i64 0) 8 rfl Try.underlying24 info3 rfl (by decide) (by omega) (.slice Ao out'.length co) out' i [.int .i64 i] g.Ok (fun _ => False) rfl Q31 ?aP (fun _ hk => hk.elim) ?aF ?aO ?aB ?aS ?aL ?_; (case aP => exact rfl); (case aB => exact B3.out); (case aF => exact HS3.out.fresh); (case aO => exact HS3.out.r); (case aS => exact B3.out.size); (case aL => have := CP.out; omega); intro v8 w8 ho8 hb8 hg8 hat8; obtain ⟨A8, c8, e8⟩ := Z17 ho8; rw [List.length_append, show [i].length = 1 from rfl] at e8; subst e8; have HS4 := Ya (HS3.out.app ho8 hg8); have HN4 := Ya (nx_setO (u := .slice A8 (out'.length + 1) c8) (nx_app HN3.out hg8 hat8)); have HQ4 := Ya (kq_setO (kq_app HQ3.out hg8) (.slice A8 (out'.length + 1) c8)); have FR4 := Ya ((Fr.new hat8).up HQ3.out.1); have B4 := Ya (below_setO HS3.out hb8 (.slice A8 (out'.length + 1) c8)); have hoc : w8.cell? ⟨g.bo, 0, none⟩ = some (.slice Ao out'.length co) := (Z22 (HS3.out.appO hg8) 0).trans rfl; have hof := Z23 (HS3.out.appO hg8) 0; have hbe : (w8.setCell ⟨g.bo, 0, none⟩ (.slice A8 (out'.length + 1) c8)).cell? ⟨g.be, 0, none⟩ = some (.func (.func 49) #[] #[.pointer (some ⟨g.bm, 0, none⟩), .pointer (some ⟨g.bn, 0, none⟩), .pointer (some ⟨g.bv, 0, none⟩), .pointer (some ⟨g.bp, 0, none⟩), .pointer (some ⟨g.bb, 0, none⟩), .pointer (some ⟨g.bo, 0, none⟩), .pointer (some ⟨g.be, 0, none⟩)]) := (Z22 HS4.out.env.e 0).trans rfl; clear ho8 hb8 hg8 hat8))
     refine (IH.out k1 Q49 w0 g _ cL L n bud A5 c5 nx (r :: M') (put' + 1) (out' ++ [i]) _ (true, true, M2, p2, o2) _ HL.out HCL.out (nx_hl HN4.out) (Kd.R_reads' HN4.out).2.1 HS4.out B4.out HE.out).mono ?_
     rintro e w9 ⟨v9, rfl, hs9, hk9, hf9, hb9⟩
     have HS9 := Ya hs9
     have HK9 := Ya (HK.out.then_ (HQ4.out.then_ hk9 FR4.out.sub) HF.out.sub)
     have HF9 := Ya (HF.out.trans (FR4.out.trans hf9 HQ4.out.1) HK.out.1)
     have HB9 := Ya hb9
     clear hs9 hk9 hf9 hb9 hm hp hpf hbd HS4 HN4 HQ4 FR4 B4 HS3 HN3 HQ3 B3 HS2 HQ B2 HN
     go_wp2
     go_ret2
     first | exact ⟨v9, rfl, HS9.out, HK9.out, HF9.out, HB9.out⟩ | exact ⟨rfl, v9, HS9.out, HK9.out, HF9.out, HB9.out⟩
   simp only [Bool.false_eq_true, if_false] at H
   cases mo
   ·simp only [if_true] at H
    obtain rfl := Option.some.inj H
    clear H
    go_wp2_with (first | ((with_reducible refine gate_dst (N := 12) rfl ?_); refine Yx 12 #[.int .i64 0, .int .i64 0, .int .i64 0] 45 ?_; intro gb hg w3 hbox hb; have BX := Ya hb; have GX := Ya (show wr.heap.size ≤ gb by rw [hg]; exact Nat.le_refl _); have hcz0 : w3.cell? ⟨gb, 0, none⟩ = some (.int .i64 0) := (Z22 hbox 0).trans rfl; have hcz1 : w3.cell? ⟨gb, 1, none⟩ = some (.int .i64 0) := (Z22 hbox 1).trans rfl; have hcz2 : w3.cell? ⟨gb, 2, none⟩ = some (.int .i64 0) := (Z22 hbox 2).trans rfl; have hfz0 := Z23 hbox 0; have hfz1 := Z23 hbox 1; have hfz2 := Z23 hbox 2; clear hb hbox hg))
    have b3 : Below wr.heap.size wr (((w3.setCell ⟨gb, 0, none⟩ (.int .i64 (rd_T45 L i).f0)).setCell ⟨gb, 1, none⟩ (.int .i64 (rd_T45 L i).f1)).setCell ⟨gb, 2, none⟩ (.int .i64 (rd_T45 L i).f2)) := Z6 (Z6 (Z6 BX.out GX.out) GX.out) GX.out
    have B3 := Ya b3
    clear b3 BX GX hcz0 hcz1 hcz2 hfz0 hfz1 hfz2 hx0 hx1 hx2
    generalize (((w3.setCell ⟨gb, 0, none⟩ (.int .i64 (rd_T45 L i).f0)).setCell ⟨gb, 1, none⟩ (.int .i64 (rd_T45 L i).f1)).setCell ⟨gb, 2, none⟩ (.int .i64 (rd_T45 L i).f2)) = w4 at B3 ⊢
    refine (impl_moved.calls k1 Al cl l (rd_T45 L i).f0 (rd_T45 L i).f1 (rd_T45 L i).f2 nx w4 (Hl.out w4 (HK.out.below B3.out)) HCl.out T1.out).mono ?_
    rintro e w5 ⟨v5, rfl, ho5, hb5⟩
    obtain ⟨A5, c5, rfl⟩ := Z17 ho5
    have HN := Ya (nx_new HS1.out ho5 B3.out.size)
    have B5 := Ya (Z8 B3.out hb5)
    clear ho5 hb5 B3
    go_wp2_with fail
    refine (impl_permutationRank.calls k1 A5 c5 nx r _ (Kd.R_reads' HN.out).2.2 (Kd.R_reads' HN.out).2.1 T2.out).mono ?_
    rintro e w6 ⟨rfl, hd6⟩
    have hb6 : Below w5.heap.size w5 w6 := by first | exact hd6 | exact Drawn0.below hd6
    have n0_ := Ya (Z14 HN.out hb6)
    have HB2 := Ya (Z8 B5.out hb6)
    clear HN hd6 hb6 B5
    have HN := n0_
    clear n0_
    have HS2 := Ya (HS1.out.below HB2.out)
    have HQ := Ya (Kept.of_below HB2.out (Wq g (.slice Ao out'.length co)))
    have B2 := Ya (HB.out.trans (HB2.out.mono HB.out.size))
    clear HB2
    have hm : w6.cell? ⟨g.bm, 0, none⟩ = some (.map (some g.q)) := (Z22 HS2.out.env.m 0).trans rfl
    have hp : w6.cell? ⟨g.bp, 0, none⟩ = some (.int .i64 put') := (Z22 HS2.out.p 0).trans rfl
    have hpf : w6.frozen? ⟨g.bp, 0, none⟩ = false := Z23 HS2.out.p 0
    have hbd : w6.cell? ⟨g.bb, 0, none⟩ = some (.int .i64 bud) := (Z22 HS2.out.env.b 0).trans rfl
    have hnb : g.bb ≠ g.bp := HS2.out.di.p.2.2.2.1
    have hnb' : g.bp ≠ g.bb := Ne.symm hnb
    have hmo : (w6.setCell ⟨g.bp, 0, none⟩ (.int .i64 (put' + 1))).cell? ⟨g.bm, 0, none⟩ = some (.map (some g.q)) := (Z22 (HS2.out.setP (put' + 1)).env.m 0).trans rfl
    have hpo : (w6.setCell ⟨g.bp, 0, none⟩ (.int .i64 (put' + 1))).cell? ⟨g.bb, 0, none⟩ = some (.int .i64 bud) := (Z22 (HS2.out.setP (put' + 1)).env.b 0).trans rfl
    go_wp2_with (first | (with_reducible refine wpList_lookup rfl (.tmp 34) (.tmp 35) rfl impl_FirstPath.mt impl_FirstPath.mk_ impl_FirstPath.me (impl_FirstPath.zeroB _) rfl HS2.out.s r HW.out rfl ?_; rw [cmb]) | ((with_reducible refine wpList_store rfl (.tmp 42) (.tmp 43) (.const (.bool true)) rfl impl_FirstPath.mt impl_FirstPath.mk_ impl_FirstPath.me ?hmm (HS2.out.setP (put' + 1)).s ?hnn r HW.out ?hxx rfl ?_); (case hmm => rfl); (case hxx => rfl); (case hnn => have := CP.out; unfold maxLen; omega); intro w7 hm7 hg7; rw [if_neg CM.out] at hm7; have HS3 := Ya ((HS2.out.setP (put' + 1)).upd hm7 hg7); have HN3 := Ya (nx_upd (nx_setP (u := .int .i64 (put' + 1)) HN.out) hg7); have HQ3 := Ya (kq_upd (kq_setP HQ.out (.int .i64 (put' + 1))) hg7); have B3 := Ya (below_upd HS2.out (below_setP HS2.out B2.out (.int .i64 (put' + 1))) hg7); have ho3 : w7.cell? ⟨g.bo, 0, none⟩ = some (.slice Ao out'.length co) := (Z22 HS3.out.o 0).trans rfl; clear hm7 hg7 hmo hpo) | ((with_reducible refine gate_builtin (b := .append) (xs := #[.tmp 44, .tmp 46]) rfl ?_); at_builtin; refine Kd.R_append (Kd.int .i64) (w0 := w0) w0.heap.size rfl (.tmp 44) (.tmp 46) 24 3 (.int .i64 0) 8 rfl Try.underlying24 info3 rfl (by decide) (by omega) (.slice Ao out'.length co) out' i [.int .i64 i] g.Ok (fun _ => False) rfl Q31 ?aP (fun _ hk => hk.elim) ?aF ?aO ?aB ?aS ?aL ?_; (case aP => exact rfl); (case aB => exact B3.out); (case aF => exact HS3.out.fresh); (case aO => exact HS3.out.r); (case aS => exact B3.out.size); (case aL => have := CP.out; omega); intro v8 w8 ho8 hb8 hg8 hat8; obtain ⟨A8, c8, e8⟩ := Z17 ho8; rw [List.length_append, show [i].length = 1 from rfl] at e8; subst e8; have HS4 := Ya (HS3.out.app ho8 hg8); have HN4 := Ya (nx_setO (u := .slice A8 (out'.length + 1) c8) (nx_app HN3.out hg8 hat8)); have HQ4 := Ya (kq_setO (kq_app HQ3.out hg8) (.slice A8 (out'.length + 1) c8)); have FR4 := Ya ((Fr.new hat8).up HQ3.out.1); have B4 := Ya (below_setO HS3.out hb8 (.slice A8 (out'.length + 1) c8)); have hoc : w8.cell? ⟨g.bo, 0, none⟩ = some (.slice Ao out'.length co) := (Z22 (HS3.out.appO hg8) 0).trans rfl; have hof := Z23 (HS3.out.appO hg8) 0; have hbe : (w8.setCell ⟨g.bo, 0, none⟩ (.slice A8 (out'.length + 1) c8)).cell? ⟨g.be, 0, none⟩ = some (.func (.func 49) #[] #[.pointer (some ⟨g.bm, 0, none⟩), .pointer (some ⟨g.bn, 0, none⟩), .pointer (some ⟨g.bv, 0, none⟩), .pointer (some ⟨g.bp, 0, none⟩), .pointer (some ⟨g.bb, 0, none⟩), .pointer (some ⟨g.bo, 0, none⟩), .pointer (some ⟨g.be, 0, none⟩)]) := (Z22 HS4.out.env.e 0).trans rfl; clear ho8 hb8 hg8 hat8))
    refine (IH.out k1 Q49 w0 g _ cL L n bud A5 c5 nx (r :: M') (put' + 1) (out' ++ [i]) _ (false, false, M2, p2, o2) _ HL.out HCL.out (nx_hl HN4.out) (Kd.R_reads' HN4.out).2.1 HS4.out B4.out HE.out).mono ?_
    rintro e w9 ⟨v9, rfl, hs9, hk9, hf9, hb9⟩
    have HS9 := Ya hs9
    have HK9 := Ya (HK.out.then_ (HQ4.out.then_ hk9 FR4.out.sub) HF.out.sub)
    have HF9 := Ya (HF.out.trans (FR4.out.trans hf9 HQ4.out.1) HK.out.1)
    have HB9 := Ya hb9
    clear hs9 hk9 hf9 hb9 hm hp hpf hbd HS4 HN4 HQ4 FR4 B4 HS3 HN3 HQ3 B3 HS2 HQ B2 HN
    go_wp2
    go_ret2
    first | exact ⟨v9, rfl, HS9.out, HK9.out, HF9.out, HB9.out⟩ | exact ⟨rfl, v9, HS9.out, HK9.out, HF9.out, HB9.out⟩
   simp only [Bool.true_eq_false, if_false] at H
   by_cases cn : M2.Nodup ∧ 0 < o2.length ∧ o2.length < 1000000
   rotate_left
   ·rw [if_neg cn] at H; cases H
   rw [if_pos cn] at H
   have H' := Ya H
   have CN := Ya cn
   clear H cn
   go_wp2_with (first | ((with_reducible refine gate_dst (N := 12) rfl ?_); refine Yx 12 #[.int .i64 0, .int .i64 0, .int .i64 0] 45 ?_; intro gb hg w3 hbox hb; have BX := Ya hb; have GX := Ya (show wr.heap.size ≤ gb by rw [hg]; exact Nat.le_refl _); have hcz0 : w3.cell? ⟨gb, 0, none⟩ = some (.int .i64 0) := (Z22 hbox 0).trans rfl; have hcz1 : w3.cell? ⟨gb, 1, none⟩ = some (.int .i64 0) := (Z22 hbox 1).trans rfl; have hcz2 : w3.cell? ⟨gb, 2, none⟩ = some (.int .i64 0) := (Z22 hbox 2).trans rfl; have hfz0 := Z23 hbox 0; have hfz1 := Z23 hbox 1; have hfz2 := Z23 hbox 2; clear hb hbox hg))
   have b3 : Below wr.heap.size wr (((w3.setCell ⟨gb, 0, none⟩ (.int .i64 (rd_T45 L i).f0)).setCell ⟨gb, 1, none⟩ (.int .i64 (rd_T45 L i).f1)).setCell ⟨gb, 2, none⟩ (.int .i64 (rd_T45 L i).f2)) := Z6 (Z6 (Z6 BX.out GX.out) GX.out) GX.out
   have B3 := Ya b3
   clear b3 BX GX hcz0 hcz1 hcz2 hfz0 hfz1 hfz2 hx0 hx1 hx2
   generalize (((w3.setCell ⟨gb, 0, none⟩ (.int .i64 (rd_T45 L i).f0)).setCell ⟨gb, 1, none⟩ (.int .i64 (rd_T45 L i).f1)).setCell ⟨gb, 2, none⟩ (.int .i64 (rd_T45 L i).f2)) = w4 at B3 ⊢
   refine (impl_moved.calls k1 Al cl l (rd_T45 L i).f0 (rd_T45 L i).f1 (rd_T45 L i).f2 nx w4 (Hl.out w4 (HK.out.below B3.out)) HCl.out T1.out).mono ?_
   rintro e w5 ⟨v5, rfl, ho5, hb5⟩
   obtain ⟨A5, c5, rfl⟩ := Z17 ho5
   have HN := Ya (nx_new HS1.out ho5 B3.out.size)
   have B5 := Ya (Z8 B3.out hb5)
   clear ho5 hb5 B3
   go_wp2_with fail
   refine (impl_permutationRank.calls k1 A5 c5 nx r _ (Kd.R_reads' HN.out).2.2 (Kd.R_reads' HN.out).2.1 T2.out).mono ?_
   rintro e w6 ⟨rfl, hd6⟩
   have hb6 : Below w5.heap.size w5 w6 := by first | exact hd6 | exact Drawn0.below hd6
   have n0_ := Ya (Z14 HN.out hb6)
   have HB2 := Ya (Z8 B5.out hb6)
   clear HN hd6 hb6 B5
   have HN := n0_
   clear n0_
   have HS2 := Ya (HS1.out.below HB2.out)
   have HQ := Ya (Kept.of_below HB2.out (Wq g (.slice Ao out'.length co)))
   have B2 := Ya (HB.out.trans (HB2.out.mono HB.out.size))
   clear HB2
   have hm : w6.cell? ⟨g.bm, 0, none⟩ = some (.map (some g.q)) := (Z22 HS2.out.env.m 0).trans rfl
   have hp : w6.cell? ⟨g.bp, 0, none⟩ = some (.int .i64 put') := (Z22 HS2.out.p 0).trans rfl
   have hpf : w6.frozen? ⟨g.bp, 0, none⟩ = false := Z23 HS2.out.p 0
   have hbd : w6.cell? ⟨g.bb, 0, none⟩ = some (.int .i64 bud) := (Z22 HS2.out.env.b 0).trans rfl
   have hnb : g.bb ≠ g.bp := HS2.out.di.p.2.2.2.1
   have hnb' : g.bp ≠ g.bb := Ne.symm hnb
   have hmo : (w6.setCell ⟨g.bp, 0, none⟩ (.int .i64 (put' + 1))).cell? ⟨g.bm, 0, none⟩ = some (.map (some g.q)) := (Z22 (HS2.out.setP (put' + 1)).env.m 0).trans rfl
   have hpo : (w6.setCell ⟨g.bp, 0, none⟩ (.int .i64 (put' + 1))).cell? ⟨g.bb, 0, none⟩ = some (.int .i64 bud) := (Z22 (HS2.out.setP (put' + 1)).env.b 0).trans rfl
   go_wp2_with (first | (with_reducible refine wpList_lookup rfl (.tmp 34) (.tmp 35) rfl impl_FirstPath.mt impl_FirstPath.mk_ impl_FirstPath.me (impl_FirstPath.zeroB _) rfl HS2.out.s r HW.out rfl ?_; rw [cmb]) | ((with_reducible refine wpList_store rfl (.tmp 42) (.tmp 43) (.const (.bool true)) rfl impl_FirstPath.mt impl_FirstPath.mk_ impl_FirstPath.me ?hmm (HS2.out.setP (put' + 1)).s ?hnn r HW.out ?hxx rfl ?_); (case hmm => rfl); (case hxx => rfl); (case hnn => have := CP.out; unfold maxLen; omega); intro w7 hm7 hg7; rw [if_neg CM.out] at hm7; have HS3 := Ya ((HS2.out.setP (put' + 1)).upd hm7 hg7); have HN3 := Ya (nx_upd (nx_setP (u := .int .i64 (put' + 1)) HN.out) hg7); have HQ3 := Ya (kq_upd (kq_setP HQ.out (.int .i64 (put' + 1))) hg7); have B3 := Ya (below_upd HS2.out (below_setP HS2.out B2.out (.int .i64 (put' + 1))) hg7); have ho3 : w7.cell? ⟨g.bo, 0, none⟩ = some (.slice Ao out'.length co) := (Z22 HS3.out.o 0).trans rfl; clear hm7 hg7 hmo hpo) | ((with_reducible refine gate_builtin (b := .append) (xs := #[.tmp 44, .tmp 46]) rfl ?_); at_builtin; refine Kd.R_append (Kd.int .i64) (w0 := w0) w0.heap.size rfl (.tmp 44) (.tmp 46) 24 3 (.int .i64 0) 8 rfl Try.underlying24 info3 rfl (by decide) (by omega) (.slice Ao out'.length co) out' i [.int .i64 i] g.Ok (fun _ => False) rfl Q31 ?aP (fun _ hk => hk.elim) ?aF ?aO ?aB ?aS ?aL ?_; (case aP => exact rfl); (case aB => exact B3.out); (case aF => exact HS3.out.fresh); (case aO => exact HS3.out.r); (case aS => exact B3.out.size); (case aL => have := CP.out; omega); intro v8 w8 ho8 hb8 hg8 hat8; obtain ⟨A8, c8, e8⟩ := Z17 ho8; rw [List.length_append, show [i].length = 1 from rfl] at e8; subst e8; have HS4 := Ya (HS3.out.app ho8 hg8); have HN4 := Ya (nx_setO (u := .slice A8 (out'.length + 1) c8) (nx_app HN3.out hg8 hat8)); have HQ4 := Ya (kq_setO (kq_app HQ3.out hg8) (.slice A8 (out'.length + 1) c8)); have FR4 := Ya ((Fr.new hat8).up HQ3.out.1); have B4 := Ya (below_setO HS3.out hb8 (.slice A8 (out'.length + 1) c8)); have hoc : w8.cell? ⟨g.bo, 0, none⟩ = some (.slice Ao out'.length co) := (Z22 (HS3.out.appO hg8) 0).trans rfl; have hof := Z23 (HS3.out.appO hg8) 0; have hbe : (w8.setCell ⟨g.bo, 0, none⟩ (.slice A8 (out'.length + 1) c8)).cell? ⟨g.be, 0, none⟩ = some (.func (.func 49) #[] #[.pointer (some ⟨g.bm, 0, none⟩), .pointer (some ⟨g.bn, 0, none⟩), .pointer (some ⟨g.bv, 0, none⟩), .pointer (some ⟨g.bp, 0, none⟩), .pointer (some ⟨g.bb, 0, none⟩), .pointer (some ⟨g.bo, 0, none⟩), .pointer (some ⟨g.be, 0, none⟩)]) := (Z22 HS4.out.env.e 0).trans rfl; clear ho8 hb8 hg8 hat8))
   refine (IH.out k1 Q49 w0 g _ cL L n bud A5 c5 nx (r :: M') (put' + 1) (out' ++ [i]) _ (false, true, M2, p2, o2) _ HL.out HCL.out (nx_hl HN4.out) (Kd.R_reads' HN4.out).2.1 HS4.out B4.out HE.out).mono ?_
   rintro e w9 ⟨v9, rfl, hs9, hk9, hf9, hb9⟩
   have HS9 := Ya hs9
   have HK9 := Ya (HK.out.then_ (HQ4.out.then_ hk9 FR4.out.sub) HF.out.sub)
   have HF9 := Ya (HF.out.trans (FR4.out.trans hf9 HQ4.out.1) HK.out.1)
   have HB9 := Ya hb9
   clear hs9 hk9 hf9 hb9 hm hp hpf hbd HS4 HN4 HQ4 FR4 B4 HS3 HN3 HQ3 B3 HS2 HQ B2 HN
   dsimp only at HS9
   obtain ⟨A9, c9, e9⟩ := Z17 HS9.out.r
   subst e9
   obtain ⟨ii, hinf, hz0, hz1, hz2⟩ := info_parts info3
   clear hz0 hz1 hz2
   have hsub : IntKind.i64.wrap ((o2.length : Int) - 1) = (o2.length : Int) - 1 := IntWalk.i64_in _ (by have := CN.out; omega)
   have hsub' : wrap64 ((o2.length : Int) - 1) = (o2.length : Int) - 1 := by have := CN.out; unfold wrap64; omega
   have hcut := cut_to (P := Try.prog) 24 3 .i64 Try.underlying24 hinf A9 o2.length c9 ((o2.length : Int) - 1) (by have := CN.out; omega) (by omega) (Kd.R_reads' HS9.out.r).2.1
   have hto : ((o2.length : Int) - 1).toNat = o2.length - 1 := by omega
   rw [hto] at hcut
   have hm : w9.cell? ⟨g.bm, 0, none⟩ = some (.map (some g.q)) := (Z22 HS9.out.env.m 0).trans rfl
   clear hinf
   go_wp2_with (first | ((with_reducible refine wpList_delete rfl (.tmp 61) (.tmp 62) rfl impl_FirstPath.mt impl_FirstPath.mk_ ?hmm HS9.out.s CN.out.1 r HW.out ?hxx ?_); (case hmm => rfl); (case hxx => rfl); intro w10 hm10 hg10; have HS10 := Ya (HS9.out.upd hm10 hg10); have HK10 := Ya (Kept.of_grown hg10 HK9.out (fun k hk => .inl (.inl (Option.some.inj hk).symm))); have HB10 := Ya (below_upd HS9.out HB9.out hg10); have ho10 : w10.cell? ⟨g.bo, 0, none⟩ = some (.slice A9 o2.length c9) := (Z22 HS10.out.o 0).trans rfl; have hof10 := Z23 HS10.out.o 0; clear hm10 hg10))
   have hr : (Kd.int .i64).R 3 w10 w0.heap.size g.Ok (.slice A9 (o2.length - 1) c9) (o2.take (o2.length - 1)) := Kd.R_take HS10.out.r (by omega)
   go_roundg k1
   case measure => have := HK1.out; omega
   case rel => exact ⟨wrap64 (i + 1), M2.erase r, p2, o2.take (o2.length - 1), _, rfl, H', ⟨Q22⟩, ⟨HS10.out.setO hr⟩, ⟨kq_setO HK10.out _⟩, ⟨fun k_ hk_ => HF9.out k_ (by first | exact hk_ | (cases A9 <;> exact hk_))⟩, ⟨below_setO HS10.out HB10.out _⟩⟩
open Go.Proofs.Ytllhnnjkonghlaa.MapSet Go.Proofs.Ytllhnnjkonghlaa.FpW in
set_option maxHeartbeats 8000000 in
set_option maxRecDepth 100000 in
theorem impl_FirstPath.calls (k : Nat) (a0 : Int) (A1 : Option Addr) (c1 : Nat) (l1 : List (S45)) (a2 : Int) (r1 : List Int) (r2 : Bool) (w : World) (hr1 : Kd.C k45 w A1 l1.length l1) (hc1 : l1.length ≤ c1) (h : impl_FirstPath.f k a0 l1 a2 = some (r1, r2)) :
  Calls Try.prog 9 #[.int .i64 a0, .slice A1 l1.length c1, .int .i64 a2] w fun e w' => ∃ v0_ : Value, e = .returned (.tuple #[v0_, .bool r2]) ∧ Kd.R (Kd.int .i64) 3 w' w.heap.size (fun _ => True) v0_ r1 ∧ Below w.heap.size w w' := by
 have HR1 := Ya hr1
 have HC1 := Ya hc1
 unfold impl_FirstPath.f at h
 obtain ⟨t1, h1, H⟩ := Z35.mp h
 have T1 := Ya h1
 clear h h1 hr1 hc1
 have HB := Ya (Below.refl w.heap.size w)
 cases t1
 ·simp only [Bool.false_eq_true, if_false, Option.some.injEq, Prod.mk.injEq] at H
  obtain ⟨rfl, rfl⟩ := H
  go_enter Try.func9, Try.ntmps9
  go_wp2_with (first | ((with_reducible refine gate_dst (N := 3) rfl ?_); refine Yx 3 #[.int .i64 a0] 3 ?_; intro gn hg w1 hbox hb; have BN := Ya hbox; have LN := Ya (show w.heap.size ≤ gn by rw [hg]; exact Nat.le_refl _); have HB := Ya hb; have hxn : w1.cell? ⟨gn, 0, none⟩ = some (.int .i64 a0) := (Z22 hbox 0).trans rfl; clear hb hbox hg) | ((with_reducible refine gate_dst (N := 4) rfl ?_); refine Yx 4 #[.slice A1 l1.length c1] 27 ?_; intro gv hg w2 hbox hb; have LV := Ya (show gn < gv by rw [hg]; exact blk_lt BN.out); have BV := Ya hbox; have m0_ := Ya (Z27 BN.out hb); have m1_ := Ya (Z8 HB.out hb); clear BN HB; have BN := m0_; have HB := m1_; clear m0_ m1_; have hxn : w2.cell? ⟨gn, 0, none⟩ = some (.int .i64 a0) := (Z22 BN.out 0).trans rfl; have hxv : w2.cell? ⟨gv, 0, none⟩ = some (.slice A1 l1.length c1) := (Z22 hbox 0).trans rfl; clear hb hbox hg) | ((with_reducible refine gate_dst (N := 5) rfl ?_); refine Yx 5 #[.int .i64 a2] 3 ?_; intro gb hg w3 hbox hb; have LB := Ya (show gv < gb by rw [hg]; exact blk_lt BV.out); have BB := Ya hbox; have m0_ := Ya (Z27 BN.out hb); have m1_ := Ya (Z27 BV.out hb); have m2_ := Ya (Z8 HB.out hb); clear BN BV HB; have BN := m0_; have BV := m1_; have HB := m2_; clear m0_ m1_ m2_; have hxn : w3.cell? ⟨gn, 0, none⟩ = some (.int .i64 a0) := (Z22 BN.out 0).trans rfl; have hxv : w3.cell? ⟨gv, 0, none⟩ = some (.slice A1 l1.length c1) := (Z22 BV.out 0).trans rfl; have hxb : w3.cell? ⟨gb, 0, none⟩ = some (.int .i64 a2) := (Z22 hbox 0).trans rfl; clear hb hbox hg))
  refine (impl_areMoves.calls k a0 A1 c1 l1 false _ (Z21 HR1.out HB.out) HC1.out T1.out).mono ?_
  rintro e w4 ⟨rfl, hd4⟩
  have hb4 : Below w3.heap.size w3 w4 := by first | exact hd4 | exact Drawn0.below hd4
  have m0_ := Ya (Z27 BN.out hb4)
  have m1_ := Ya (Z27 BV.out hb4)
  have m2_ := Ya (Z27 BB.out hb4)
  have m3_ := Ya (Z8 HB.out hb4)
  clear BN BV BB HB
  have BN := m0_
  have BV := m1_
  have BB := m2_
  have HB := m3_
  clear m0_ m1_ m2_ m3_
  clear hb4 hd4 hxn hxv hxb
  have hxn : w4.cell? ⟨gn, 0, none⟩ = some (.int .i64 a0) := (Z22 BN.out 0).trans rfl
  have hxb : w4.cell? ⟨gb, 0, none⟩ = some (.int .i64 a2) := (Z22 BB.out 0).trans rfl
  go_wp2
  go_ret2
  exact ⟨_, rfl, Kd.R_nil _ _ _ _ _, HB.out⟩
 simp only [if_true] at H
 by_cases cg : 4 < a0
 ·rw [if_pos cg] at H
  simp only [Option.some.injEq, Prod.mk.injEq] at H
  obtain ⟨rfl, rfl⟩ := H
  have cgb : decide (4 < a0) = true := Z37 cg
  go_enter Try.func9, Try.ntmps9
  go_wp2_with (first | ((with_reducible refine gate_dst (N := 3) rfl ?_); refine Yx 3 #[.int .i64 a0] 3 ?_; intro gn hg w1 hbox hb; have BN := Ya hbox; have LN := Ya (show w.heap.size ≤ gn by rw [hg]; exact Nat.le_refl _); have HB := Ya hb; have hxn : w1.cell? ⟨gn, 0, none⟩ = some (.int .i64 a0) := (Z22 hbox 0).trans rfl; clear hb hbox hg) | ((with_reducible refine gate_dst (N := 4) rfl ?_); refine Yx 4 #[.slice A1 l1.length c1] 27 ?_; intro gv hg w2 hbox hb; have LV := Ya (show gn < gv by rw [hg]; exact blk_lt BN.out); have BV := Ya hbox; have m0_ := Ya (Z27 BN.out hb); have m1_ := Ya (Z8 HB.out hb); clear BN HB; have BN := m0_; have HB := m1_; clear m0_ m1_; have hxn : w2.cell? ⟨gn, 0, none⟩ = some (.int .i64 a0) := (Z22 BN.out 0).trans rfl; have hxv : w2.cell? ⟨gv, 0, none⟩ = some (.slice A1 l1.length c1) := (Z22 hbox 0).trans rfl; clear hb hbox hg) | ((with_reducible refine gate_dst (N := 5) rfl ?_); refine Yx 5 #[.int .i64 a2] 3 ?_; intro gb hg w3 hbox hb; have LB := Ya (show gv < gb by rw [hg]; exact blk_lt BV.out); have BB := Ya hbox; have m0_ := Ya (Z27 BN.out hb); have m1_ := Ya (Z27 BV.out hb); have m2_ := Ya (Z8 HB.out hb); clear BN BV HB; have BN := m0_; have BV := m1_; have HB := m2_; clear m0_ m1_ m2_; have hxn : w3.cell? ⟨gn, 0, none⟩ = some (.int .i64 a0) := (Z22 BN.out 0).trans rfl; have hxv : w3.cell? ⟨gv, 0, none⟩ = some (.slice A1 l1.length c1) := (Z22 BV.out 0).trans rfl; have hxb : w3.cell? ⟨gb, 0, none⟩ = some (.int .i64 a2) := (Z22 hbox 0).trans rfl; clear hb hbox hg))
  refine (impl_areMoves.calls k a0 A1 c1 l1 true _ (Z21 HR1.out HB.out) HC1.out T1.out).mono ?_
  rintro e w4 ⟨rfl, hd4⟩
  have hb4 : Below w3.heap.size w3 w4 := by first | exact hd4 | exact Drawn0.below hd4
  have m0_ := Ya (Z27 BN.out hb4)
  have m1_ := Ya (Z27 BV.out hb4)
  have m2_ := Ya (Z27 BB.out hb4)
  have m3_ := Ya (Z8 HB.out hb4)
  clear BN BV BB HB
  have BN := m0_
  have BV := m1_
  have BB := m2_
  have HB := m3_
  clear m0_ m1_ m2_ m3_
  clear hb4 hd4 hxn hxv hxb
  have hxn : w4.cell? ⟨gn, 0, none⟩ = some (.int .i64 a0) := (Z22 BN.out 0).trans rfl
  have hxb : w4.cell? ⟨gb, 0, none⟩ = some (.int .i64 a2) := (Z22 BB.out 0).trans rfl
  go_wp2
  go_ret2
  exact ⟨_, rfl, Kd.R_nil _ _ _ _ _, HB.out⟩
 rw [if_neg cg] at H
 have cgb : decide (4 < a0) = false := Z36 cg
 replace H := Z35.mp H
 obtain ⟨t2, h2, H⟩ := H
 have T2 := Ya h2
 clear h2
 cases t2
 ·simp only [Bool.false_eq_true, if_false, Option.some.injEq, Prod.mk.injEq] at H
  obtain ⟨rfl, rfl⟩ := H
  go_enter Try.func9, Try.ntmps9
  go_wp2_with (first | ((with_reducible refine gate_dst (N := 3) rfl ?_); refine Yx 3 #[.int .i64 a0] 3 ?_; intro gn hg w1 hbox hb; have BN := Ya hbox; have LN := Ya (show w.heap.size ≤ gn by rw [hg]; exact Nat.le_refl _); have HB := Ya hb; have hxn : w1.cell? ⟨gn, 0, none⟩ = some (.int .i64 a0) := (Z22 hbox 0).trans rfl; clear hb hbox hg) | ((with_reducible refine gate_dst (N := 4) rfl ?_); refine Yx 4 #[.slice A1 l1.length c1] 27 ?_; intro gv hg w2 hbox hb; have LV := Ya (show gn < gv by rw [hg]; exact blk_lt BN.out); have BV := Ya hbox; have m0_ := Ya (Z27 BN.out hb); have m1_ := Ya (Z8 HB.out hb); clear BN HB; have BN := m0_; have HB := m1_; clear m0_ m1_; have hxn : w2.cell? ⟨gn, 0, none⟩ = some (.int .i64 a0) := (Z22 BN.out 0).trans rfl; have hxv : w2.cell? ⟨gv, 0, none⟩ = some (.slice A1 l1.length c1) := (Z22 hbox 0).trans rfl; clear hb hbox hg) | ((with_reducible refine gate_dst (N := 5) rfl ?_); refine Yx 5 #[.int .i64 a2] 3 ?_; intro gb hg w3 hbox hb; have LB := Ya (show gv < gb by rw [hg]; exact blk_lt BV.out); have BB := Ya hbox; have m0_ := Ya (Z27 BN.out hb); have m1_ := Ya (Z27 BV.out hb); have m2_ := Ya (Z8 HB.out hb); clear BN BV HB; have BN := m0_; have BV := m1_; have HB := m2_; clear m0_ m1_ m2_; have hxn : w3.cell? ⟨gn, 0, none⟩ = some (.int .i64 a0) := (Z22 BN.out 0).trans rfl; have hxv : w3.cell? ⟨gv, 0, none⟩ = some (.slice A1 l1.length c1) := (Z22 BV.out 0).trans rfl; have hxb : w3.cell? ⟨gb, 0, none⟩ = some (.int .i64 a2) := (Z22 hbox 0).trans rfl; clear hb hbox hg))
  refine (impl_areMoves.calls k a0 A1 c1 l1 true _ (Z21 HR1.out HB.out) HC1.out T1.out).mono ?_
  rintro e w4 ⟨rfl, hd4⟩
  have hb4 : Below w3.heap.size w3 w4 := by first | exact hd4 | exact Drawn0.below hd4
  have m0_ := Ya (Z27 BN.out hb4)
  have m1_ := Ya (Z27 BV.out hb4)
  have m2_ := Ya (Z27 BB.out hb4)
  have m3_ := Ya (Z8 HB.out hb4)
  clear BN BV BB HB
  have BN := m0_
  have BV := m1_
  have BB := m2_
  have HB := m3_
  clear m0_ m1_ m2_ m3_
  clear hb4 hd4 hxn hxv hxb
  have hxn : w4.cell? ⟨gn, 0, none⟩ = some (.int .i64 a0) := (Z22 BN.out 0).trans rfl
  have hxb : w4.cell? ⟨gb, 0, none⟩ = some (.int .i64 a2) := (Z22 BB.out 0).trans rfl
  go_wp2_with fail
  refine (impl_within.calls a2 1 4000 false _ T2.out).mono ?_
  rintro e w5 ⟨rfl, hd5⟩
  have hb5 : Below w4.heap.size w4 w5 := by first | exact hd5 | exact Drawn0.below hd5
  have m0_ := Ya (Z27 BN.out hb5)
  have m1_ := Ya (Z27 BV.out hb5)
  have m2_ := Ya (Z27 BB.out hb5)
  have m3_ := Ya (Z8 HB.out hb5)
  clear BN BV BB HB
  have BN := m0_
  have BV := m1_
  have BB := m2_
  have HB := m3_
  clear m0_ m1_ m2_ m3_
  clear hb5 hd5 hxn hxb
  go_wp2
  go_ret2
  exact ⟨_, rfl, Kd.R_nil _ _ _ _ _, HB.out⟩
 simp only [if_true] at H
 replace H := Z35.mp H
 obtain ⟨s, h3, H⟩ := H
 replace H := Z35.mp H
 obtain ⟨⟨fd, mo, M2, p2, o2⟩, h4, H⟩ := H
 have T3 := Ya h3
 have T4 := Ya h4
 have HH := Ya H
 have hmm := @run_makeMap Try.prog
 have hsf := @run_store_func Try.prog
 have hmf : ∀ (fn : Fn) (first cap : Array Value) (w : World), (Instr.makeFunc fn first cap).run Try.prog w = .ok (.func fn first cap) w := fun _ _ _ _ => rfl
 clear h3 h4 H
 cases fd
 ·have H := HH.out
  simp only [Bool.false_eq_true, if_false, Option.some.injEq, Prod.mk.injEq] at H
  obtain ⟨rfl, rfl⟩ := H
  go_enter Try.func9, Try.ntmps9
  go_wp2_with (first | ((with_reducible refine gate_dst (N := 3) rfl ?_); refine Yx 3 #[.int .i64 a0] 3 ?_; intro gn hg w1 hbox hb; have BN := Ya hbox; have LN := Ya (show w.heap.size ≤ gn by rw [hg]; exact Nat.le_refl _); have HB := Ya hb; have hxn : w1.cell? ⟨gn, 0, none⟩ = some (.int .i64 a0) := (Z22 hbox 0).trans rfl; clear hb hbox hg) | ((with_reducible refine gate_dst (N := 4) rfl ?_); refine Yx 4 #[.slice A1 l1.length c1] 27 ?_; intro gv hg w2 hbox hb; have LV := Ya (show gn < gv by rw [hg]; exact blk_lt BN.out); have BV := Ya hbox; have m0_ := Ya (Z27 BN.out hb); have m1_ := Ya (Z8 HB.out hb); clear BN HB; have BN := m0_; have HB := m1_; clear m0_ m1_; have hxn : w2.cell? ⟨gn, 0, none⟩ = some (.int .i64 a0) := (Z22 BN.out 0).trans rfl; have hxv : w2.cell? ⟨gv, 0, none⟩ = some (.slice A1 l1.length c1) := (Z22 hbox 0).trans rfl; clear hb hbox hg) | ((with_reducible refine gate_dst (N := 5) rfl ?_); refine Yx 5 #[.int .i64 a2] 3 ?_; intro gb hg w3 hbox hb; have LB := Ya (show gv < gb by rw [hg]; exact blk_lt BV.out); have BB := Ya hbox; have m0_ := Ya (Z27 BN.out hb); have m1_ := Ya (Z27 BV.out hb); have m2_ := Ya (Z8 HB.out hb); clear BN BV HB; have BN := m0_; have BV := m1_; have HB := m2_; clear m0_ m1_ m2_; have hxn : w3.cell? ⟨gn, 0, none⟩ = some (.int .i64 a0) := (Z22 BN.out 0).trans rfl; have hxv : w3.cell? ⟨gv, 0, none⟩ = some (.slice A1 l1.length c1) := (Z22 BV.out 0).trans rfl; have hxb : w3.cell? ⟨gb, 0, none⟩ = some (.int .i64 a2) := (Z22 hbox 0).trans rfl; clear hb hbox hg))
  refine (impl_areMoves.calls k a0 A1 c1 l1 true _ (Z21 HR1.out HB.out) HC1.out T1.out).mono ?_
  rintro e w4 ⟨rfl, hd4⟩
  have hb4 : Below w3.heap.size w3 w4 := by first | exact hd4 | exact Drawn0.below hd4
  have m0_ := Ya (Z27 BN.out hb4)
  have m1_ := Ya (Z27 BV.out hb4)
  have m2_ := Ya (Z27 BB.out hb4)
  have m3_ := Ya (Z8 HB.out hb4)
  clear BN BV BB HB
  have BN := m0_
  have BV := m1_
  have BB := m2_
  have HB := m3_
  clear m0_ m1_ m2_ m3_
  clear hb4 hd4 hxn hxv hxb
  have hxn : w4.cell? ⟨gn, 0, none⟩ = some (.int .i64 a0) := (Z22 BN.out 0).trans rfl
  have hxb : w4.cell? ⟨gb, 0, none⟩ = some (.int .i64 a2) := (Z22 BB.out 0).trans rfl
  go_wp2_with fail
  refine (impl_within.calls a2 1 4000 true _ T2.out).mono ?_
  rintro e w5 ⟨rfl, hd5⟩
  have hb5 : Below w4.heap.size w4 w5 := by first | exact hd5 | exact Drawn0.below hd5
  have m0_ := Ya (Z27 BN.out hb5)
  have m1_ := Ya (Z27 BV.out hb5)
  have m2_ := Ya (Z27 BB.out hb5)
  have m3_ := Ya (Z8 HB.out hb5)
  clear BN BV BB HB
  have BN := m0_
  have BV := m1_
  have BB := m2_
  have HB := m3_
  clear m0_ m1_ m2_ m3_
  clear hb5 hd5 hxn hxb
  have LW := Ya HB.out.size
  go_wp2_with (first | ((with_reducible refine gate_dst (N := 27) rfl ?_); refine Kd.R_lit (Kd.int .i64) (w0 := w) w.heap.size 3 ?hg (N := 27) ?hd (xs := ([] : List Int)) (inner := []) (ok := fun k_ => k_ ≠ gn ∧ k_ ≠ gv ∧ k_ ≠ gb) (okp := fun _ => False) ?hr ?hp (fun _ hk => hk.elim) ⟨Nat.ne_of_gt (blk_lt BN.out), Nat.ne_of_gt (blk_lt BV.out), Nat.ne_of_gt (blk_lt BB.out)⟩ HB.out HB.out.size (by simp) ?_; (case hd => rfl); (case hg => rfl); (case hr => first | (go_simp; done) | (go_simp; rfl)); (case hp => exact (Reps.none _ _)); intro vr w6 ho hb hg hnew; obtain ⟨Ar, cr, er⟩ := Z17 ho; rw [List.length_nil] at er; subst er; have HO := Ya (show Kd.R (Kd.int .i64) 3 (w6.alloc (.map #[] 0)) w.heap.size (fun k_ => (k_ ≠ gn ∧ k_ ≠ gv ∧ k_ ≠ gb) ∧ k_ < w6.heap.size) (.slice Ar 0 cr) [] from Z9 (Z12 (Kd.R_bound ho) (fun _ hk => ⟨hk.1, hk.2.2.1⟩)) _); have HM := Ya (MSet.made w6 Try.prog 3 4); have GQ := Ya (show gb < w6.heap.size from Nat.lt_of_lt_of_le (blk_lt BB.out) hg.size); have GW := Ya hb.size; replace BN := Ya (Z26 (blk_grown BN.out hg (fun e_ => by cases e_)) (.map #[] 0)); replace BV := Ya (Z26 (blk_grown BV.out hg (fun e_ => by cases e_)) (.map #[] 0)); replace BB := Ya (Z26 (blk_grown BB.out hg (fun e_ => by cases e_)) (.map #[] 0)); replace HB := Ya (Z5 hb (.map #[] 0)); clear ho hb hg hnew) | ((with_reducible refine wpList_insert rfl (.tmp 28) (.const (.int .i64 0)) (.const (.bool true)) rfl impl_FirstPath.mt impl_FirstPath.mk_ impl_FirstPath.me rfl HM.out (by unfold maxLen; decide) 0 (by decide) rfl rfl ?_); intro w7 hm7 hg7; have n4_ := Ya (show MSet Try.prog 3 4 w7 w6.heap.size [0] from hm7); have n5_ := Ya (Kd.R_grown HO.out hg7 (fun k_ hk e_ => by injection e_ with e_; rw [e_] at hk; exact Nat.lt_irrefl _ hk.2)); replace BN := Ya (blk_grown BN.out hg7 (fun e_ => by injection e_ with e_; have h1_ := GQ.out; have h2_ := LV.out; have h3_ := LB.out; omega)); replace BV := Ya (blk_grown BV.out hg7 (fun e_ => by injection e_ with e_; have h1_ := GQ.out; have h3_ := LB.out; omega)); replace BB := Ya (blk_grown BB.out hg7 (fun e_ => by injection e_ with e_; have h1_ := GQ.out; omega)); replace HB := Ya (HB.out.grown hg7 HB.out.size (fun j hj => by cases hj; exact GW.out)); clear HM HO hm7 hg7; have HM := n4_; have HO := n5_; clear n4_ n5_) | ((with_reducible refine gate_dst (N := 8) rfl ?_); refine Yx 8 #[.slice none 0 0] 24 ?_; intro go hg w8 hbox hb; have LO := Ya (show w6.heap.size < go by rw [hg]; exact HM.out.lt); have BO := Ya hbox; have m0_ := Ya (Z27 BN.out hb); have m1_ := Ya (Z27 BV.out hb); have m2_ := Ya (Z27 BB.out hb); have m3_ := Ya (Z8 HB.out hb); have m4_ := Ya (HM.out.below hb); have m5_ := Ya (Z14 HO.out hb); clear BN BV BB HB HM HO; have BN := m0_; have BV := m1_; have BB := m2_; have HB := m3_; have HM := m4_; have HO := m5_; clear m0_ m1_ m2_ m3_ m4_ m5_; clear hb hbox hg) | ((with_reducible refine gate_dst (N := 9) rfl ?_); refine Yx 9 #[.map none] 73 ?_; intro gm hg w9 hbox hb; have LM := Ya (show go < gm by rw [hg]; exact blk_lt BO.out); have BM := Ya hbox; have m0_ := Ya (Z27 BN.out hb); have m1_ := Ya (Z27 BV.out hb); have m2_ := Ya (Z27 BB.out hb); have m3_ := Ya (Z8 HB.out hb); have m4_ := Ya (HM.out.below hb); have m5_ := Ya (Z14 HO.out hb); have m6_ := Ya (Z27 BO.out hb); clear BN BV BB HB HM HO BO; have BN := m0_; have BV := m1_; have BB := m2_; have HB := m3_; have HM := m4_; have HO := m5_; have BO := m6_; clear m0_ m1_ m2_ m3_ m4_ m5_ m6_; clear hb hbox hg) | ((with_reducible refine gate_dst (N := 10) rfl ?_); refine Yx 10 #[.int .i64 0] 3 ?_; intro gp hg w10 hbox hb; have LP := Ya (show gm < gp by rw [hg]; exact blk_lt BM.out); have BP := Ya hbox; have m0_ := Ya (Z27 BN.out hb); have m1_ := Ya (Z27 BV.out hb); have m2_ := Ya (Z27 BB.out hb); have m3_ := Ya (Z8 HB.out hb); have m4_ := Ya (HM.out.below hb); have m5_ := Ya (Z14 HO.out hb); have m6_ := Ya (Z27 BO.out hb); have m7_ := Ya (Z27 BM.out hb); clear BN BV BB HB HM HO BO BM; have BN := m0_; have BV := m1_; have BB := m2_; have HB := m3_; have HM := m4_; have HO := m5_; have BO := m6_; have BM := m7_; clear m0_ m1_ m2_ m3_ m4_ m5_ m6_ m7_; have hco : w10.cell? ⟨go, 0, none⟩ = some (.slice none 0 0) := (Z22 BO.out 0).trans rfl; have hcm : w10.cell? ⟨gm, 0, none⟩ = some (.map none) := (Z22 BM.out 0).trans rfl; have hcp : w10.cell? ⟨gp, 0, none⟩ = some (.int .i64 0) := (Z22 BP.out 0).trans rfl; have hfo := Z23 BO.out 0; have hfm := Z23 BM.out 0; have hfp := Z23 BP.out 0; have nq1 : go ≠ gm := Nat.ne_of_lt LM.out; have nq2 : gm ≠ go := Ne.symm nq1; have nq3 : gm ≠ gp := Nat.ne_of_lt LP.out; have nq4 : gp ≠ gm := Ne.symm nq3; have nq5 : go ≠ gp := Nat.ne_of_lt (Nat.lt_trans LM.out LP.out); have nq6 : gp ≠ go := Ne.symm nq5; clear hb hbox hg) | ((with_reducible refine gate_dst (N := 11) rfl ?_); refine Yx 11 #[.nilFunc] 74 ?_; intro ge hg w11 hbox hb; have LEb := Ya (show (((w10.setCell ⟨go, 0, none⟩ (.slice Ar 0 cr)).setCell ⟨gm, 0, none⟩ (.map (some w6.heap.size))).setCell ⟨gp, 0, none⟩ (.int .i64 1)).heap.size ≤ ge by rw [hg]; exact Nat.le_refl _); have BE := Ya hbox; have HE := Ya hb; have hce : w11.cell? ⟨ge, 0, none⟩ = some .nilFunc := (Z22 hbox 0).trans rfl; have hfe := Z23 hbox 0; clear hb hbox hg))
  have hdi : Bl.Di (⟨w6.heap.size, gm, gn, gv, gp, gb, go, ge⟩ : Bl) w.heap.size := by
   have h0 := LN.out
   have h1 := LV.out
   have h2 := LB.out
   have h3 := GQ.out
   have h4 := GW.out
   have h5 := LO.out
   have h6 := LM.out
   have h7 := LP.out
   have h8 := blk_lt BP.out
   have h9 := LEb.out
   simp only [World.setCell, Array.size_modify] at h9
   refine ⟨⟨?_, ?_, ?_, ?_, ?_, ?_⟩, ⟨?_, ?_, ?_, ?_, ?_⟩, ?_, ?_, ?_⟩ <;> (dsimp only; omega)
  have hne : gn ≠ gm ∧ gv ≠ gm ∧ gb ≠ gm := by
   have h1 := LV.out
   have h2 := LB.out
   have h3 := GQ.out
   have h5 := LO.out
   have h6 := LM.out
   omega
  have hOk : ∀ k_, ((k_ ≠ gn ∧ k_ ≠ gv ∧ k_ ≠ gb) ∧ k_ < w6.heap.size) → Bl.Ok (⟨w6.heap.size, gm, gn, gv, gp, gb, go, ge⟩ : Bl) k_ := fun k_ hk => by
   have h5 := LO.out
   have h6 := LM.out
   have h7 := LP.out
   have h8 := blk_lt BP.out
   have h9 := LEb.out
   simp only [World.setCell, Array.size_modify] at h9
   refine ⟨?_, ?_, hk.1.1, hk.1.2.1, ?_, hk.1.2.2, ?_, ?_⟩ <;> (have := hk.2; dsimp only; omega)
  have HS := Ya (show St Try.prog 3 4 (w11.setCell ⟨ge, 0, none⟩ (.func (.func 49) #[] #[.pointer (some ⟨gm, 0, none⟩), .pointer (some ⟨gn, 0, none⟩), .pointer (some ⟨gv, 0, none⟩), .pointer (some ⟨gp, 0, none⟩), .pointer (some ⟨gb, 0, none⟩), .pointer (some ⟨go, 0, none⟩), .pointer (some ⟨ge, 0, none⟩)])) w.heap.size (⟨w6.heap.size, gm, gn, gv, gp, gb, go, ge⟩ : Bl) (impl_FirstPath.cs a0 a2 A1 l1.length c1 (⟨w6.heap.size, gm, gn, gv, gp, gb, go, ge⟩ : Bl)) [0] 1 [] (.slice Ar 0 cr) from St.init (g := (⟨w6.heap.size, gm, gn, gv, gp, gb, go, ge⟩ : Bl)) (c := impl_FirstPath.cs a0 a2 A1 l1.length c1 (⟨w6.heap.size, gm, gn, gv, gp, gb, go, ge⟩ : Bl)) (put := 1) BN.out BV.out BB.out BO.out BM.out BP.out HM.out HO.out hOk hdi hne HE.out BE.out LEb.out)
  have HB2 := Ya (show Below w.heap.size w (w11.setCell ⟨ge, 0, none⟩ (.func (.func 49) #[] #[.pointer (some ⟨gm, 0, none⟩), .pointer (some ⟨gn, 0, none⟩), .pointer (some ⟨gv, 0, none⟩), .pointer (some ⟨gp, 0, none⟩), .pointer (some ⟨gb, 0, none⟩), .pointer (some ⟨go, 0, none⟩), .pointer (some ⟨ge, 0, none⟩)])) from Z6 (Z8 (Z6 (Z6 (Z6 HB.out hdi.ge.2.2) (by have h1 := HB.out.size; have h4 := GW.out; have h5 := LO.out; have h6 := LM.out; omega)) hdi.ge.2.1) HE.out) Q46)
  clear HB HE BN BV BB BO BM BP HM HO hOk hdi hne LEb BE LN LV LB GQ GW LO LM LP LW hco hcm hcp hfo hfm hfp hce hfe nq1 nq2 nq3 nq4 nq5 nq6 hmm hmf hsf
  have HB := HB2
  clear HB2
  replace HS := Ya HS.out.drew
  replace HB := Ya (Z4 HB.out)
  refine start_ (n := 9) (S := fun w' => w'.cell? ⟨ge, 0, none⟩ = some (.func (.func 49) #[] #[.pointer (some ⟨gm, 0, none⟩), .pointer (some ⟨gn, 0, none⟩), .pointer (some ⟨gv, 0, none⟩), .pointer (some ⟨gp, 0, none⟩), .pointer (some ⟨gb, 0, none⟩), .pointer (some ⟨go, 0, none⟩), .pointer (some ⟨ge, 0, none⟩)]) ∧ w'.cell? ⟨gn, 0, none⟩ = some (.int .i64 a0)) (ds := []) (YA 9 0) (by kernel_rfl) rfl rfl ⟨(Z22 HS.out.env.e 0).trans rfl, (Z22 HS.out.env.n 0).trans rfl⟩ (fun hHeld => ?_)
  generalize World.drew _ = w12 at HS HB hHeld ⊢
  refine Ys 0 (some 32) (YA 9 1) rfl hHeld Q28 ?_
  refine Ys 1 (some 33) (YA 9 3) rfl hHeld Q28 ?_
  refine one_ (i := 2) (N := some 34) (YA 9 7) rfl rfl (by kernel_rfl) (by decide) (fun K hK => ?_)
  refine goes_ Try.func53 (by kernel_rfl) rfl #[.int .i64 a0] (by rfl) rfl rfl Q34 ?_
  with_reducible refine (impl_identity.calls k a0 s _ T3.out).mono ?_
  rintro e w13 ⟨v13, rfl, ho13, hb13⟩
  refine ⟨_, rfl, ?_⟩
  obtain ⟨A13, c13, rfl⟩ := Z17 ho13
  have HN := Ya (nx_new HS.out ho13 (Nat.le_refl _))
  replace HS := Ya (HS.out.below hb13)
  replace HB := Ya (HB.out.trans (hb13.mono HB.out.size))
  clear ho13 hb13
  refine hK.out _ _ ⟨(Z22 HS.out.env.e 0).trans rfl, (Z22 HS.out.env.n 0).trans rfl⟩ (fun hHeld => ?_)
  clear hK K
  refine norm_ (a' := ?_) ?_ ?_
  rotate_left
  ·show Act.put _ (some 34) _ = _
   simp only [Act.put, Z0, Z1, Z2, i64_w, i32_w]
   rfl
  refine one_ (i := 3) (N := some 35) (YA 9 15) rfl rfl (by kernel_rfl) (by decide) (fun K hK => ?_)
  refine goesV_ Try.func49 (by kernel_rfl) rfl #[.slice A13 s.length c13] (by rfl) rfl rfl (by rfl) Q34 ?_
  simp only [List.append_toArray, List.cons_append, List.nil_append]
  refine (impl_FirstPath.ext k w (⟨w6.heap.size, gm, gn, gv, gp, gb, go, ge⟩ : Bl) _ c1 l1 a0 a2 A13 c13 s [0] 1 [] (.slice Ar 0 cr) (false, mo, M2, p2, o2) _ HR1.out HC1.out (nx_hl HN.out) (Kd.R_reads' HN.out).2.1 HS.out HB.out T4.out).mono ?_
  rintro e w14 ⟨v14, rfl, hs14, _, _, hb14⟩
  refine ⟨_, rfl, ?_⟩
  clear HS HB HN
  have HS := Ya hs14
  have HB := Ya hb14
  clear hs14 hb14
  refine hK.out _ _ ⟨(Z22 HS.out.env.e 0).trans rfl, (Z22 HS.out.env.n 0).trans rfl⟩ (fun hHeld => ?_)
  clear hK K
  refine norm_ (a' := ?_) ?_ ?_
  rotate_left
  ·show Act.put _ (some 35) _ = _
   simp only [Act.put, Z0, Z1, Z2, i64_w, i32_w]
   rfl
  refine Yq 4 (some 31) (YA 9 31) rfl ?_
  refine Yq 5 (some 36) (YA 9 63) rfl ?_
  refine Yq 6 (some 37) (YA 9 127) rfl ?_
  refine Yq 7 (some 12) (YA 9 255) rfl ?_
  refine Yq 8 (some 13) (YA 9 511) rfl ?_
  refine done_ (by kernel_rfl) ?_
  go_wp2
  go_ret2
  exact ⟨_, rfl, Kd.R_nil _ _ _ _ _, HB.out⟩
 ·have H := HH.out
  simp only [if_true, Option.some.injEq, Prod.mk.injEq] at H
  obtain ⟨rfl, rfl⟩ := H
  go_enter Try.func9, Try.ntmps9
  go_wp2_with (first | ((with_reducible refine gate_dst (N := 3) rfl ?_); refine Yx 3 #[.int .i64 a0] 3 ?_; intro gn hg w1 hbox hb; have BN := Ya hbox; have LN := Ya (show w.heap.size ≤ gn by rw [hg]; exact Nat.le_refl _); have HB := Ya hb; have hxn : w1.cell? ⟨gn, 0, none⟩ = some (.int .i64 a0) := (Z22 hbox 0).trans rfl; clear hb hbox hg) | ((with_reducible refine gate_dst (N := 4) rfl ?_); refine Yx 4 #[.slice A1 l1.length c1] 27 ?_; intro gv hg w2 hbox hb; have LV := Ya (show gn < gv by rw [hg]; exact blk_lt BN.out); have BV := Ya hbox; have m0_ := Ya (Z27 BN.out hb); have m1_ := Ya (Z8 HB.out hb); clear BN HB; have BN := m0_; have HB := m1_; clear m0_ m1_; have hxn : w2.cell? ⟨gn, 0, none⟩ = some (.int .i64 a0) := (Z22 BN.out 0).trans rfl; have hxv : w2.cell? ⟨gv, 0, none⟩ = some (.slice A1 l1.length c1) := (Z22 hbox 0).trans rfl; clear hb hbox hg) | ((with_reducible refine gate_dst (N := 5) rfl ?_); refine Yx 5 #[.int .i64 a2] 3 ?_; intro gb hg w3 hbox hb; have LB := Ya (show gv < gb by rw [hg]; exact blk_lt BV.out); have BB := Ya hbox; have m0_ := Ya (Z27 BN.out hb); have m1_ := Ya (Z27 BV.out hb); have m2_ := Ya (Z8 HB.out hb); clear BN BV HB; have BN := m0_; have BV := m1_; have HB := m2_; clear m0_ m1_ m2_; have hxn : w3.cell? ⟨gn, 0, none⟩ = some (.int .i64 a0) := (Z22 BN.out 0).trans rfl; have hxv : w3.cell? ⟨gv, 0, none⟩ = some (.slice A1 l1.length c1) := (Z22 BV.out 0).trans rfl; have hxb : w3.cell? ⟨gb, 0, none⟩ = some (.int .i64 a2) := (Z22 hbox 0).trans rfl; clear hb hbox hg))
  refine (impl_areMoves.calls k a0 A1 c1 l1 true _ (Z21 HR1.out HB.out) HC1.out T1.out).mono ?_
  rintro e w4 ⟨rfl, hd4⟩
  have hb4 : Below w3.heap.size w3 w4 := by first | exact hd4 | exact Drawn0.below hd4
  have m0_ := Ya (Z27 BN.out hb4)
  have m1_ := Ya (Z27 BV.out hb4)
  have m2_ := Ya (Z27 BB.out hb4)
  have m3_ := Ya (Z8 HB.out hb4)
  clear BN BV BB HB
  have BN := m0_
  have BV := m1_
  have BB := m2_
  have HB := m3_
  clear m0_ m1_ m2_ m3_
  clear hb4 hd4 hxn hxv hxb
  have hxn : w4.cell? ⟨gn, 0, none⟩ = some (.int .i64 a0) := (Z22 BN.out 0).trans rfl
  have hxb : w4.cell? ⟨gb, 0, none⟩ = some (.int .i64 a2) := (Z22 BB.out 0).trans rfl
  go_wp2_with fail
  refine (impl_within.calls a2 1 4000 true _ T2.out).mono ?_
  rintro e w5 ⟨rfl, hd5⟩
  have hb5 : Below w4.heap.size w4 w5 := by first | exact hd5 | exact Drawn0.below hd5
  have m0_ := Ya (Z27 BN.out hb5)
  have m1_ := Ya (Z27 BV.out hb5)
  have m2_ := Ya (Z27 BB.out hb5)
  have m3_ := Ya (Z8 HB.out hb5)
  clear BN BV BB HB
  have BN := m0_
  have BV := m1_
  have BB := m2_
  have HB := m3_
  clear m0_ m1_ m2_ m3_
  clear hb5 hd5 hxn hxb
  have LW := Ya HB.out.size
  go_wp2_with (first | ((with_reducible refine gate_dst (N := 27) rfl ?_); refine Kd.R_lit (Kd.int .i64) (w0 := w) w.heap.size 3 ?hg (N := 27) ?hd (xs := ([] : List Int)) (inner := []) (ok := fun k_ => k_ ≠ gn ∧ k_ ≠ gv ∧ k_ ≠ gb) (okp := fun _ => False) ?hr ?hp (fun _ hk => hk.elim) ⟨Nat.ne_of_gt (blk_lt BN.out), Nat.ne_of_gt (blk_lt BV.out), Nat.ne_of_gt (blk_lt BB.out)⟩ HB.out HB.out.size (by simp) ?_; (case hd => rfl); (case hg => rfl); (case hr => first | (go_simp; done) | (go_simp; rfl)); (case hp => exact (Reps.none _ _)); intro vr w6 ho hb hg hnew; obtain ⟨Ar, cr, er⟩ := Z17 ho; rw [List.length_nil] at er; subst er; have HO := Ya (show Kd.R (Kd.int .i64) 3 (w6.alloc (.map #[] 0)) w.heap.size (fun k_ => (k_ ≠ gn ∧ k_ ≠ gv ∧ k_ ≠ gb) ∧ k_ < w6.heap.size) (.slice Ar 0 cr) [] from Z9 (Z12 (Kd.R_bound ho) (fun _ hk => ⟨hk.1, hk.2.2.1⟩)) _); have HM := Ya (MSet.made w6 Try.prog 3 4); have GQ := Ya (show gb < w6.heap.size from Nat.lt_of_lt_of_le (blk_lt BB.out) hg.size); have GW := Ya hb.size; replace BN := Ya (Z26 (blk_grown BN.out hg (fun e_ => by cases e_)) (.map #[] 0)); replace BV := Ya (Z26 (blk_grown BV.out hg (fun e_ => by cases e_)) (.map #[] 0)); replace BB := Ya (Z26 (blk_grown BB.out hg (fun e_ => by cases e_)) (.map #[] 0)); replace HB := Ya (Z5 hb (.map #[] 0)); clear ho hb hg hnew) | ((with_reducible refine wpList_insert rfl (.tmp 28) (.const (.int .i64 0)) (.const (.bool true)) rfl impl_FirstPath.mt impl_FirstPath.mk_ impl_FirstPath.me rfl HM.out (by unfold maxLen; decide) 0 (by decide) rfl rfl ?_); intro w7 hm7 hg7; have n4_ := Ya (show MSet Try.prog 3 4 w7 w6.heap.size [0] from hm7); have n5_ := Ya (Kd.R_grown HO.out hg7 (fun k_ hk e_ => by injection e_ with e_; rw [e_] at hk; exact Nat.lt_irrefl _ hk.2)); replace BN := Ya (blk_grown BN.out hg7 (fun e_ => by injection e_ with e_; have h1_ := GQ.out; have h2_ := LV.out; have h3_ := LB.out; omega)); replace BV := Ya (blk_grown BV.out hg7 (fun e_ => by injection e_ with e_; have h1_ := GQ.out; have h3_ := LB.out; omega)); replace BB := Ya (blk_grown BB.out hg7 (fun e_ => by injection e_ with e_; have h1_ := GQ.out; omega)); replace HB := Ya (HB.out.grown hg7 HB.out.size (fun j hj => by cases hj; exact GW.out)); clear HM HO hm7 hg7; have HM := n4_; have HO := n5_; clear n4_ n5_) | ((with_reducible refine gate_dst (N := 8) rfl ?_); refine Yx 8 #[.slice none 0 0] 24 ?_; intro go hg w8 hbox hb; have LO := Ya (show w6.heap.size < go by rw [hg]; exact HM.out.lt); have BO := Ya hbox; have m0_ := Ya (Z27 BN.out hb); have m1_ := Ya (Z27 BV.out hb); have m2_ := Ya (Z27 BB.out hb); have m3_ := Ya (Z8 HB.out hb); have m4_ := Ya (HM.out.below hb); have m5_ := Ya (Z14 HO.out hb); clear BN BV BB HB HM HO; have BN := m0_; have BV := m1_; have BB := m2_; have HB := m3_; have HM := m4_; have HO := m5_; clear m0_ m1_ m2_ m3_ m4_ m5_; clear hb hbox hg) | ((with_reducible refine gate_dst (N := 9) rfl ?_); refine Yx 9 #[.map none] 73 ?_; intro gm hg w9 hbox hb; have LM := Ya (show go < gm by rw [hg]; exact blk_lt BO.out); have BM := Ya hbox; have m0_ := Ya (Z27 BN.out hb); have m1_ := Ya (Z27 BV.out hb); have m2_ := Ya (Z27 BB.out hb); have m3_ := Ya (Z8 HB.out hb); have m4_ := Ya (HM.out.below hb); have m5_ := Ya (Z14 HO.out hb); have m6_ := Ya (Z27 BO.out hb); clear BN BV BB HB HM HO BO; have BN := m0_; have BV := m1_; have BB := m2_; have HB := m3_; have HM := m4_; have HO := m5_; have BO := m6_; clear m0_ m1_ m2_ m3_ m4_ m5_ m6_; clear hb hbox hg) | ((with_reducible refine gate_dst (N := 10) rfl ?_); refine Yx 10 #[.int .i64 0] 3 ?_; intro gp hg w10 hbox hb; have LP := Ya (show gm < gp by rw [hg]; exact blk_lt BM.out); have BP := Ya hbox; have m0_ := Ya (Z27 BN.out hb); have m1_ := Ya (Z27 BV.out hb); have m2_ := Ya (Z27 BB.out hb); have m3_ := Ya (Z8 HB.out hb); have m4_ := Ya (HM.out.below hb); have m5_ := Ya (Z14 HO.out hb); have m6_ := Ya (Z27 BO.out hb); have m7_ := Ya (Z27 BM.out hb); clear BN BV BB HB HM HO BO BM; have BN := m0_; have BV := m1_; have BB := m2_; have HB := m3_; have HM := m4_; have HO := m5_; have BO := m6_; have BM := m7_; clear m0_ m1_ m2_ m3_ m4_ m5_ m6_ m7_; have hco : w10.cell? ⟨go, 0, none⟩ = some (.slice none 0 0) := (Z22 BO.out 0).trans rfl; have hcm : w10.cell? ⟨gm, 0, none⟩ = some (.map none) := (Z22 BM.out 0).trans rfl; have hcp : w10.cell? ⟨gp, 0, none⟩ = some (.int .i64 0) := (Z22 BP.out 0).trans rfl; have hfo := Z23 BO.out 0; have hfm := Z23 BM.out 0; have hfp := Z23 BP.out 0; have nq1 : go ≠ gm := Nat.ne_of_lt LM.out; have nq2 : gm ≠ go := Ne.symm nq1; have nq3 : gm ≠ gp := Nat.ne_of_lt LP.out; have nq4 : gp ≠ gm := Ne.symm nq3; have nq5 : go ≠ gp := Nat.ne_of_lt (Nat.lt_trans LM.out LP.out); have nq6 : gp ≠ go := Ne.symm nq5; clear hb hbox hg) | ((with_reducible refine gate_dst (N := 11) rfl ?_); refine Yx 11 #[.nilFunc] 74 ?_; intro ge hg w11 hbox hb; have LEb := Ya (show (((w10.setCell ⟨go, 0, none⟩ (.slice Ar 0 cr)).setCell ⟨gm, 0, none⟩ (.map (some w6.heap.size))).setCell ⟨gp, 0, none⟩ (.int .i64 1)).heap.size ≤ ge by rw [hg]; exact Nat.le_refl _); have BE := Ya hbox; have HE := Ya hb; have hce : w11.cell? ⟨ge, 0, none⟩ = some .nilFunc := (Z22 hbox 0).trans rfl; have hfe := Z23 hbox 0; clear hb hbox hg))
  have hdi : Bl.Di (⟨w6.heap.size, gm, gn, gv, gp, gb, go, ge⟩ : Bl) w.heap.size := by
   have h0 := LN.out
   have h1 := LV.out
   have h2 := LB.out
   have h3 := GQ.out
   have h4 := GW.out
   have h5 := LO.out
   have h6 := LM.out
   have h7 := LP.out
   have h8 := blk_lt BP.out
   have h9 := LEb.out
   simp only [World.setCell, Array.size_modify] at h9
   refine ⟨⟨?_, ?_, ?_, ?_, ?_, ?_⟩, ⟨?_, ?_, ?_, ?_, ?_⟩, ?_, ?_, ?_⟩ <;> (dsimp only; omega)
  have hne : gn ≠ gm ∧ gv ≠ gm ∧ gb ≠ gm := by
   have h1 := LV.out
   have h2 := LB.out
   have h3 := GQ.out
   have h5 := LO.out
   have h6 := LM.out
   omega
  have hOk : ∀ k_, ((k_ ≠ gn ∧ k_ ≠ gv ∧ k_ ≠ gb) ∧ k_ < w6.heap.size) → Bl.Ok (⟨w6.heap.size, gm, gn, gv, gp, gb, go, ge⟩ : Bl) k_ := fun k_ hk => by
   have h5 := LO.out
   have h6 := LM.out
   have h7 := LP.out
   have h8 := blk_lt BP.out
   have h9 := LEb.out
   simp only [World.setCell, Array.size_modify] at h9
   refine ⟨?_, ?_, hk.1.1, hk.1.2.1, ?_, hk.1.2.2, ?_, ?_⟩ <;> (have := hk.2; dsimp only; omega)
  have HS := Ya (show St Try.prog 3 4 (w11.setCell ⟨ge, 0, none⟩ (.func (.func 49) #[] #[.pointer (some ⟨gm, 0, none⟩), .pointer (some ⟨gn, 0, none⟩), .pointer (some ⟨gv, 0, none⟩), .pointer (some ⟨gp, 0, none⟩), .pointer (some ⟨gb, 0, none⟩), .pointer (some ⟨go, 0, none⟩), .pointer (some ⟨ge, 0, none⟩)])) w.heap.size (⟨w6.heap.size, gm, gn, gv, gp, gb, go, ge⟩ : Bl) (impl_FirstPath.cs a0 a2 A1 l1.length c1 (⟨w6.heap.size, gm, gn, gv, gp, gb, go, ge⟩ : Bl)) [0] 1 [] (.slice Ar 0 cr) from St.init (g := (⟨w6.heap.size, gm, gn, gv, gp, gb, go, ge⟩ : Bl)) (c := impl_FirstPath.cs a0 a2 A1 l1.length c1 (⟨w6.heap.size, gm, gn, gv, gp, gb, go, ge⟩ : Bl)) (put := 1) BN.out BV.out BB.out BO.out BM.out BP.out HM.out HO.out hOk hdi hne HE.out BE.out LEb.out)
  have HB2 := Ya (show Below w.heap.size w (w11.setCell ⟨ge, 0, none⟩ (.func (.func 49) #[] #[.pointer (some ⟨gm, 0, none⟩), .pointer (some ⟨gn, 0, none⟩), .pointer (some ⟨gv, 0, none⟩), .pointer (some ⟨gp, 0, none⟩), .pointer (some ⟨gb, 0, none⟩), .pointer (some ⟨go, 0, none⟩), .pointer (some ⟨ge, 0, none⟩)])) from Z6 (Z8 (Z6 (Z6 (Z6 HB.out hdi.ge.2.2) (by have h1 := HB.out.size; have h4 := GW.out; have h5 := LO.out; have h6 := LM.out; omega)) hdi.ge.2.1) HE.out) Q46)
  clear HB HE BN BV BB BO BM BP HM HO hOk hdi hne LEb BE LN LV LB GQ GW LO LM LP LW hco hcm hcp hfo hfm hfp hce hfe nq1 nq2 nq3 nq4 nq5 nq6 hmm hmf hsf
  have HB := HB2
  clear HB2
  replace HS := Ya HS.out.drew
  replace HB := Ya (Z4 HB.out)
  refine start_ (n := 9) (S := fun w' => w'.cell? ⟨ge, 0, none⟩ = some (.func (.func 49) #[] #[.pointer (some ⟨gm, 0, none⟩), .pointer (some ⟨gn, 0, none⟩), .pointer (some ⟨gv, 0, none⟩), .pointer (some ⟨gp, 0, none⟩), .pointer (some ⟨gb, 0, none⟩), .pointer (some ⟨go, 0, none⟩), .pointer (some ⟨ge, 0, none⟩)]) ∧ w'.cell? ⟨gn, 0, none⟩ = some (.int .i64 a0)) (ds := []) (YA 9 0) (by kernel_rfl) rfl rfl ⟨(Z22 HS.out.env.e 0).trans rfl, (Z22 HS.out.env.n 0).trans rfl⟩ (fun hHeld => ?_)
  generalize World.drew _ = w12 at HS HB hHeld ⊢
  refine Ys 0 (some 32) (YA 9 1) rfl hHeld Q28 ?_
  refine Ys 1 (some 33) (YA 9 3) rfl hHeld Q28 ?_
  refine one_ (i := 2) (N := some 34) (YA 9 7) rfl rfl (by kernel_rfl) (by decide) (fun K hK => ?_)
  refine goes_ Try.func53 (by kernel_rfl) rfl #[.int .i64 a0] (by rfl) rfl rfl Q34 ?_
  with_reducible refine (impl_identity.calls k a0 s _ T3.out).mono ?_
  rintro e w13 ⟨v13, rfl, ho13, hb13⟩
  refine ⟨_, rfl, ?_⟩
  obtain ⟨A13, c13, rfl⟩ := Z17 ho13
  have HN := Ya (nx_new HS.out ho13 (Nat.le_refl _))
  replace HS := Ya (HS.out.below hb13)
  replace HB := Ya (HB.out.trans (hb13.mono HB.out.size))
  clear ho13 hb13
  refine hK.out _ _ ⟨(Z22 HS.out.env.e 0).trans rfl, (Z22 HS.out.env.n 0).trans rfl⟩ (fun hHeld => ?_)
  clear hK K
  refine norm_ (a' := ?_) ?_ ?_
  rotate_left
  ·show Act.put _ (some 34) _ = _
   simp only [Act.put, Z0, Z1, Z2, i64_w, i32_w]
   rfl
  refine one_ (i := 3) (N := some 35) (YA 9 15) rfl rfl (by kernel_rfl) (by decide) (fun K hK => ?_)
  refine goesV_ Try.func49 (by kernel_rfl) rfl #[.slice A13 s.length c13] (by rfl) rfl rfl (by rfl) Q34 ?_
  simp only [List.append_toArray, List.cons_append, List.nil_append]
  refine (impl_FirstPath.ext k w (⟨w6.heap.size, gm, gn, gv, gp, gb, go, ge⟩ : Bl) _ c1 l1 a0 a2 A13 c13 s [0] 1 [] (.slice Ar 0 cr) (true, mo, M2, p2, o2) _ HR1.out HC1.out (nx_hl HN.out) (Kd.R_reads' HN.out).2.1 HS.out HB.out T4.out).mono ?_
  rintro e w14 ⟨v14, rfl, hs14, _, _, hb14⟩
  refine ⟨_, rfl, ?_⟩
  clear HS HB HN
  have HS := Ya hs14
  have HB := Ya hb14
  clear hs14 hb14
  refine hK.out _ _ ⟨(Z22 HS.out.env.e 0).trans rfl, (Z22 HS.out.env.n 0).trans rfl⟩ (fun hHeld => ?_)
  clear hK K
  refine norm_ (a' := ?_) ?_ ?_
  rotate_left
  ·show Act.put _ (some 35) _ = _
   simp only [Act.put, Z0, Z1, Z2, i64_w, i32_w]
   rfl
  refine Yq 4 (some 31) (YA 9 31) rfl ?_
  refine Yq 5 (some 36) (YA 9 63) rfl ?_
  refine Yq 6 (some 37) (YA 9 127) rfl ?_
  refine Yq 7 (some 12) (YA 9 255) rfl ?_
  refine Yq 8 (some 13) (YA 9 511) rfl ?_
  refine done_ (by kernel_rfl) ?_
  have hxo : w14.cell? ⟨go, 0, none⟩ = some v14 := (Z22 HS.out.o 0).trans rfl
  go_wp2
  go_ret2
  exact ⟨_, rfl, Z12 HS.out.r (fun _ _ => trivial), HB.out⟩
end Go.Proofs.Ytllhnnjkonghlaa.MFnReached
