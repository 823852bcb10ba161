/- Functions of the program as Lean functions, each with the proof that its call comes to just that: laid for this claim by this session's own program. -/
import Derived.Test.YtaogaigpnmpdcaaMFnExactCountTurnsx0
import Derived.Test.YtaogaigpnmpdcaaMFnExactCountTurnsx6
import Derived.Test.YtaogaigpnmpdcaaMFnExactCountTurnsx7
import Derived.Test.YtaogaigpnmpdcaaMFnExactCountTurnsx8
import Derived.Test.YtaogaigpnmpdcaaMFnExactCountTurnsx9
namespace Go.Proofs.Ytaogaigpnmpdcaa.MFnExactCountTurns
open Go.RowKit Go.Proofs.YtaogaigpnmpdcaaW.PrintWords Go.Proofs.YtaogaigpnmpdcaaW.PrintLast Go.Proofs.YtaogaigpnmpdcaaW.PrintMore
attribute [local go_sem] max2_int min2_int max_two min_two max_three min_three max_four min_four   -- for this text's walks alone
set_option linter.unusedVariables false
set_option linter.unusedSimpArgs false

/-! ### impl_runFocus: function 64 -/
mutual
def impl_runFocus.l0 : Nat → Int → Int → List Int → List Int → List Int → List Bool → List Int → Option (List Int)
 | 0, _, _, _, _, _, _, _ => none
 | k + 1, n, m, b, out, d, u, p => if (out.length : Int) < m then ((impl_Focus_isLast.f b d u p).bind fun t => (if t = true then (some out) else ((Go.Proofs.Ytaogaigpnmpdcaa.FoW.stepF b d u p).bind fun r => (if out.length < 1000000 then (impl_runFocus.l0 k n m b (out ++ [wrap64 (wrap64 (n - 1) - r.2.2.2)]) r.1 r.2.1 r.2.2.1) else (none))))) else (some out)
end
def impl_runFocus.f (k : Nat) (l0 : List Int) (a1 : Int) : Option (List Int) := (impl_startFocus.f k l0).bind fun t => (impl_runFocus.l0 k (l0.length : Int) a1 t.1 ([] : List Int) t.2.1 t.2.2.1 t.2.2.2)
theorem impl_runFocus.mono_l : ∀ k, (∀ y0 y1 y2 y3 y4 y5 y6, LeO (impl_runFocus.l0 k y0 y1 y2 y3 y4 y5 y6) (impl_runFocus.l0 (k + 1) y0 y1 y2 y3 y4 y5 y6))
 | 0 => fun _ _ _ _ _ _ _ r h => by simp [impl_runFocus.l0] at h
 | k + 1 => by
  have ih0 := impl_runFocus.mono_l k
  ·intro y0 y1 y2 y3 y4 y5 y6
   unfold impl_runFocus.l0
   repeat' first
   | (with_reducible exact ih0 _ _ _ _ _ _ _)
   | (with_reducible exact impl_startFocus.mono _ _)
   | (with_reducible exact LeO.refl _)
   | (with_reducible exact LeO.none _)
   | (with_reducible refine LeO.ite ?_ ?_)
   | (with_reducible refine LeO.bind ?_ (fun _ => ?_))
   | exact ih0 _ _ _ _ _ _ _
   | exact impl_startFocus.mono _ _
   | exact LeO.none _
   | refine LeO.ite ?_ ?_
   | refine LeO.bind ?_ (fun _ => ?_)
theorem impl_runFocus.mono : ∀ a0 a1 k, LeO (impl_runFocus.f k a0 a1) (impl_runFocus.f (k + 1) a0 a1) := by
 intro a0 a1 k
 have ih0 := impl_runFocus.mono_l k
 unfold impl_runFocus.f
 repeat' first
   | (with_reducible exact ih0 _ _ _ _ _ _ _)
   | (with_reducible exact impl_startFocus.mono _ _)
   | (with_reducible exact LeO.refl _)
   | (with_reducible exact LeO.none _)
   | (with_reducible refine LeO.ite ?_ ?_)
   | (with_reducible refine LeO.bind ?_ (fun _ => ?_))
   | exact ih0 _ _ _ _ _ _ _
   | exact impl_startFocus.mono _ _
   | exact LeO.none _
   | refine LeO.ite ?_ ?_
   | refine LeO.bind ?_ (fun _ => ?_)
open Go.Proofs.Ytaogaigpnmpdcaa.FoW in
set_option maxHeartbeats 8000000 in
set_option maxRecDepth 100000 in
theorem impl_runFocus.calls (k : Nat) (A0_ : Option Addr) (c0_ : Nat) (l0 : List Int) (a1 : Int) (r1 : List Int) (w : World) (hr0 : Kd.C (Kd.int .i64) w A0_ l0.length l0) (hc0 : l0.length ≤ c0_) (h : impl_runFocus.f k l0 a1 = some r1) :
  Calls Try.prog 64 #[.slice A0_ l0.length c0_, .int .i64 a1] w fun e w' => ∃ v0_ : Value, e = .returned (v0_) ∧ Kd.R (Kd.int .i64) 3 w' w.heap.size (fun _ => True) v0_ r1 ∧ Below w.heap.size w w' := by
 have hu := Try.underlying31
 unfold impl_runFocus.f at h
 obtain ⟨⟨b, D1, U1, P1⟩, h1, h⟩ := Option.bind_eq_some_iff.mp h
 have A1_ := Aside0.mk h1
 have H' := Aside0.mk h
 have HR0 := Aside0.mk hr0
 have HC0 := Aside0.mk hc0
 have HB := Aside0.mk (Below.refl w.heap.size w)
 clear h h1 hr0 hc0
 go_enter Try.func64, Try.ntmps64
 go_upto_region 2 with (first | ((with_reducible refine gate_dst (N := 7) rfl ?_); refine Kd.R_lit (Kd.int .i64) _ 3 ?hg (N := 7) ?hd (xs := ([] : List Int)) (inner := []) (ok := fun _ => True) (okp := fun _ => True) ?hr ?hp (fun _ hk => hk) trivial (Below.refl _ _) (Nat.le_refl _) (by simp) ?_; (case hd => rfl); (case hg => rfl); (case hr => first | (go_simp; done) | (go_simp; rfl)); (case hp => exact (Reps.none _ _)); intro vL w1 ho hb hg_ hnew_; have HO := Aside0.mk (Kd.R_lower ho (below_size (by repeat (first | (with_reducible first | exact HB.out | apply below_alloc | apply pw_below_drewN | apply below_drew1) | exact HB.out)))); have n0_ := Aside0.mk (below_step (by repeat (first | (with_reducible first | exact HB.out | apply below_alloc | apply pw_below_drewN | apply below_drew1) | exact HB.out)) hb); clear HB; have HB := n0_; clear n0_ ho hb hg_ hnew_) | ((with_reducible refine gate_callee (f := 66) rfl ?_); refine goesL_ (some 9) rfl rfl Try.func66 (by kernel_rfl) rfl #[.slice A0_ l0.length c0_] rfl (by (try simp only [List.map_toArray, List.map_cons, List.map_nil]); first | done | rfl) ?_; (with_reducible refine (impl_startFocus.calls k _ _ l0 b D1 U1 P1 _ ?s1 ?s2 A1_.out).mono ?_); (case s1 => exact (by repeat (first | exact (Kd.C_below HR0.out HB.out) | (with_reducible refine Kd.C_alloc ?_ _) | (with_reducible refine Kd.C_drewN ?_ _) | (with_reducible refine Kd.C_drew ?_)))); (case s2 => exact HC0.out); rintro e w2 ⟨v0, v1, v2, v3, rfl, ho0, ho1, ho2, ho3, hb⟩; refine ⟨_, rfl, ?_⟩; have hFV : FoV w2 w.heap.size v0 v1 v2 v3 b D1 U1 P1 := ⟨Kd.R_lower ho0 (below_size (by repeat (first | (with_reducible first | exact HB.out | apply below_alloc | apply pw_below_drewN | apply below_drew1) | exact HB.out))), Kd.R_lower ho1 (below_size (by repeat (first | (with_reducible first | exact HB.out | apply below_alloc | apply pw_below_drewN | apply below_drew1) | exact HB.out))), Kd.R_lower ho2 (below_size (by repeat (first | (with_reducible first | exact HB.out | apply below_alloc | apply pw_below_drewN | apply below_drew1) | exact HB.out))), Kd.R_lower ho3 (below_size (by repeat (first | (with_reducible first | exact HB.out | apply below_alloc | apply pw_below_drewN | apply below_drew1) | exact HB.out)))⟩; have q0 := Kd.R_base ho0; have q1 := Kd.R_base ho1; have q2 := Kd.R_base ho2; have q3 := Kd.R_base ho3; obtain ⟨A0, c0, rfl⟩ := Kd.R_slice ho0; obtain ⟨A1, c1', rfl⟩ := Kd.R_slice ho1; obtain ⟨A2, c2, rfl⟩ := Kd.R_slice ho2; obtain ⟨A3, c3, rfl⟩ := Kd.R_slice ho3; have n1_ : Aside0 (Kd.R (Kd.int .i64) 3 w2 w.heap.size (fun k_ => some k_ ≠ (.slice A0 b.length c0 : Value).ownBlock ∧ some k_ ≠ (.slice A1 D1.length c1' : Value).ownBlock ∧ some k_ ≠ (.slice A2 U1.length c2 : Value).ownBlock ∧ some k_ ≠ (.slice A3 P1.length c3 : Value).ownBlock) vL ([] : List Int)) := ⟨Kd.R_below (Kd.R_reok rfl (by (with_reducible repeat (first | apply Kd.R_alloc | apply Kd.R_drewN | apply Kd.R_drew)); exact HO.out) (fun k_ hk => (by have hl_ := Kd.R_lt HO.out k_ hk; first | exact ⟨fun e_ => Nat.not_le.2 hl_ (q0 k_ e_.symm), fun e_ => Nat.not_le.2 hl_ (q1 k_ e_.symm), fun e_ => Nat.not_le.2 hl_ (q2 k_ e_.symm), fun e_ => Nat.not_le.2 hl_ (q3 k_ e_.symm)⟩))) hb⟩; have n0_ := Aside0.mk (below_step (by repeat (first | (with_reducible first | exact HB.out | apply below_alloc | apply pw_below_drewN | apply below_drew1) | exact HB.out)) hb); have HV := Aside0.mk hFV; clear HB HO ho0 ho1 ho2 ho3 hb hFV q0 q1 q2 q3; have HB := n0_; have HO := n1_; clear n0_ n1_) | ((with_reducible refine gate_dst (N := 6) rfl ?_); refine box_event ?hg (N := 6) ?hd (cs := #[.slice none 0 0, .slice none 0 0, .slice none 0 0, .slice none 0 0]) (t := 31) ?hr ?_; (case hd => rfl); (case hg => rfl); (case hr => first | (go_simp; done) | (go_simp; rfl)); intro gb6 hg w3 hbox hb; have n0_ := Aside0.mk (below_step (by repeat (first | (with_reducible first | exact HB.out | apply below_alloc | apply pw_below_drewN | apply below_drew1) | exact HB.out)) hb); have BK := Aside0.mk hbox; have n1_ := Aside0.mk (FoV.below (by (with_reducible repeat (first | apply FoV.drewN | apply FoV.drew)); exact HV.out) hb); have n2_ := Aside0.mk (Kd.R_below (by (with_reducible repeat (first | apply Kd.R_alloc | apply Kd.R_drewN | apply Kd.R_drew)); exact HO.out) hb); have GE6 := Aside0.mk (by rw [hg]; exact below_size (by repeat (first | (with_reducible first | exact HB.out | apply below_alloc | apply pw_below_drewN | apply below_drew1) | exact HB.out)) : w.heap.size ≤ gb6); clear HB HV HO; have HB := n0_; have HV := n1_; have HO := n2_; clear n0_ n1_ n2_; have hd0 := (blk_cell BK.out 0).trans rfl; have hd1 := (blk_cell BK.out 1).trans rfl; have hd2 := (blk_cell BK.out 2).trans rfl; have hd3 := (blk_cell BK.out 3).trans rfl; have hf0 := blk_frozen BK.out 0; have hf1 := blk_frozen BK.out 1; have hf2 := blk_frozen BK.out 2; have hf3 := blk_frozen BK.out 3; clear hb hbox hg))
 have n0_ := Aside0.mk (set4_at BK.out (.slice A0 b.length c0) (.slice A1 D1.length c1') (.slice A2 U1.length c2) (.slice A3 P1.length c3))
 have n1_ := Aside0.mk (FoV.set4 HV.out BK.out (by decide) (by decide) (.slice A0 b.length c0) (.slice A1 D1.length c1') (.slice A2 U1.length c2) (.slice A3 P1.length c3))
 have n2_ := Aside0.mk (Kd.R_mono (Kd.R_move (w1 := set4 w3 gb6 (.slice A0 b.length c0) (.slice A1 D1.length c1') (.slice A2 U1.length c2) (.slice A3 P1.length c3)) (Kd.R_types HO.out BK.out (by decide)) (fun k hk => set4_far _ _ _ _ _ _ k hk.2)) (fun k hk => hk.1))
 have n3_ := Aside0.mk (set4_below HB.out GE6.out (.slice A0 b.length c0) (.slice A1 D1.length c1') (.slice A2 U1.length c2) (.slice A3 P1.length c3))
 clear BK HV HO HB hd0 hd1 hd2 hd3 hf0 hf1 hf2 hf3
 have BK := n0_
 have HV := n1_
 have HO := n2_
 have HB := n3_
 clear n0_ n1_ n2_ n3_
 unfold set4 at BK HV HO HB
 generalize ((((w3.setCell ⟨gb6, 0, none⟩ (.slice A0 b.length c0)).setCell ⟨gb6, 1, none⟩ (.slice A1 D1.length c1')).setCell ⟨gb6, 2, none⟩ (.slice A2 U1.length c2)).setCell ⟨gb6, 3, none⟩ (.slice A3 P1.length c3)) = w4 at BK HV HO HB ⊢
 go_loopg [5] k (fun kq v5 w' => ∃ (out d : List Int) (u : List Bool) (p : List Int), Aside0 (impl_runFocus.l0 kq (l0.length : Int) a1 b out d u p = some r1) ∧ Aside0 (kq ≤ k) ∧ Aside0 (d.length = D1.length ∧ u.length = U1.length ∧ p.length = P1.length) ∧ Aside0 (w'.heap[gb6]? = some (.cells #[.slice A0 b.length c0, .slice A1 D1.length c1', .slice A2 U1.length c2, .slice A3 P1.length c3] 31 (0, 0))) ∧ Aside0 (FoV w' w.heap.size (.slice A0 b.length c0) (.slice A1 D1.length c1') (.slice A2 U1.length c2) (.slice A3 P1.length c3) b d u p) ∧ Aside0 (Kd.R (Kd.int .i64) 3 w' w.heap.size (fun k_ => some k_ ≠ (.slice A0 b.length c0 : Value).ownBlock ∧ some k_ ≠ (.slice A1 D1.length c1' : Value).ownBlock ∧ some k_ ≠ (.slice A2 U1.length c2 : Value).ownBlock ∧ some k_ ≠ (.slice A3 P1.length c3 : Value).ownBlock) v5 out) ∧ Aside0 (Below w.heap.size w w'))
 case atStart => exact ⟨[], D1, U1, P1, H', ⟨Nat.le_refl _⟩, ⟨rfl, rfl, rfl⟩, BK, HV, HO, HB⟩
 case round =>
  clear H' BK HV HO HB
  obtain ⟨out, d, u, p, HA, HK1, HL, BK, HV, HO, HB⟩ := hrel
  cases gk with
  | zero => exact absurd HA.out (by simp [impl_runFocus.l0])
  | succ k1 =>
   have H := HA.out
   clear HA
   simp only [impl_runFocus.l0] at H
   obtain ⟨hd, hu', hp⟩ := HL.out
   obtain ⟨Ao, co, eo⟩ := Kd.R_slice HO.out
   subst eo
   have hbk := BK.out
   rw [← hd, ← hu', ← hp] at hbk
   have HBK := Aside0.mk hbk
   have hc0 := (blk_cell hbk 0).trans rfl
   have hc1 := (blk_cell hbk 1).trans rfl
   have hc2 := (blk_cell hbk 2).trans rfl
   have hc3 := (blk_cell hbk 3).trans rfl
   clear hbk
   by_cases c1 : (out.length : Int) < a1
   rotate_left
   ·rw [if_neg c1] at H
    obtain rfl := Option.some.inj H
    have b1 : decide ((out.length : Int) < a1) = false := decide_eq_false c1
    clear c1 H hd hu' hp
    go_wp2
    go_ret
    exact ⟨_, rfl, Kd.R_mono HO.out (fun _ _ => trivial), HB.out⟩
   rw [if_pos c1] at H
   have b1 : decide ((out.length : Int) < a1) = true := decide_eq_true c1
   obtain ⟨t, ht, H⟩ := Option.bind_eq_some_iff.mp H
   have HT := Aside0.mk ht
   have HV2 : Aside0 (FoV _ w.heap.size (.slice A0 b.length c0) (.slice A1 d.length c1') (.slice A2 u.length c2) (.slice A3 p.length c3) b d u p) := ⟨by have := HV.out; rw [← hd, ← hu', ← hp] at this; exact this⟩
   clear c1 ht
   cases t
   rotate_left
   ·rw [if_pos rfl] at H
    obtain rfl := Option.some.inj H
    clear H hd hu' hp
    go_wp2_with fail
    refine (impl_Focus_isLast.calls _ _ b _ _ d _ _ u _ _ p true _ (Kd.R_reads' HV2.out.r0).2.2 (Kd.R_reads' HV2.out.r0).2.1 (Kd.R_reads' HV2.out.r1).2.2 (Kd.R_reads' HV2.out.r1).2.1 (Kd.R_reads' HV2.out.r2).2.2 (Kd.R_reads' HV2.out.r2).2.1 (Kd.R_reads' HV2.out.r3).2.2 (Kd.R_reads' HV2.out.r3).2.1 HT.out).mono ?_
    rintro e w6 ⟨rfl, hb⟩
    have n0_ := Aside0.mk (below_step HB.out hb)
    have n1_ := Aside0.mk (Kd.R_below HO.out hb)
    clear HB HO
    have HB := n0_
    have HO := n1_
    clear n0_ n1_ hb hc0 hc1 hc2 hc3
    go_wp2
    go_ret
    exact ⟨_, rfl, Kd.R_mono HO.out (fun _ _ => trivial), HB.out⟩
   rw [if_neg (by simp)] at H
   obtain ⟨⟨d', u', p', r⟩, hs, H⟩ := Option.bind_eq_some_iff.mp H
   by_cases c2' : out.length < 1000000
   rotate_left
   ·rw [if_neg c2'] at H; exact absurd H (by simp)
   rw [if_pos c2'] at H
   have H' := Aside0.mk H
   have HS := Aside0.mk hs
   have LM := Aside0.mk c2'
   obtain ⟨hl, hl0, hl1, hl2, hl3⟩ := stepF_len hs
   have HL2 := Aside0.mk hl
   obtain ⟨g0, q0, g1, q1, g2, q2, g3, q3, e0, e1, e2, e3, hF⟩ := FoR.of HV2.out.r0 HV2.out.r1 HV2.out.r2 HV2.out.r3 hl0 hl1 hl2 hl3
   injection e0 with x0 _ z0
   injection e1 with x1 _ z1
   injection e2 with x2 _ z2
   injection e3 with x3 _ z3
   subst x0 z0 x1 z1 x2 z2 x3 z3
   have HF := Aside0.mk hF
   clear H hs c2' hl hl0 hl1 hl2 hl3 hF hd hu' hp
   go_wp2_with fail
   refine (impl_Focus_isLast.calls _ _ b _ _ d _ _ u _ _ p false _ (Kd.R_reads' HV2.out.r0).2.2 (Kd.R_reads' HV2.out.r0).2.1 (Kd.R_reads' HV2.out.r1).2.2 (Kd.R_reads' HV2.out.r1).2.1 (Kd.R_reads' HV2.out.r2).2.2 (Kd.R_reads' HV2.out.r2).2.1 (Kd.R_reads' HV2.out.r3).2.2 (Kd.R_reads' HV2.out.r3).2.1 HT.out).mono ?_
   rintro e w6 ⟨rfl, hb⟩
   have n0_ := Aside0.mk (below_step HB.out hb)
   have n1_ := Aside0.mk (Kd.R_below HO.out hb)
   have n2_ := Aside0.mk (blk_below HBK.out hb)
   have n3_ := Aside0.mk (FoR.below HF.out hb)
   clear HBK HF
   have HBK := n2_
   have HF := n3_
   clear n2_ n3_
   clear HB HO
   have HB := n0_
   have HO := n1_
   clear n0_ n1_ hb hc0 hc1 hc2 hc3
   go_wp2_with (first | ((with_reducible refine gate_callee (f := 96) rfl ?_); refine goesL_ (some 23) rfl rfl Try.func96 (by kernel_rfl) rfl #[.pointer (some ⟨gb6, 0, none⟩)] rfl (by (try simp only [List.map_toArray, List.map_cons, List.map_nil]); first | done | rfl) ?_; (with_reducible refine (impl_Focus_step.calls w gb6 g0 c0 g1 c1' g2 c2 g3 c3 b d u p d' u' p' r _ HBK.out HF.out HB.out HS.out).mono ?_); rintro e w7 ⟨rfl, hk1, hk2, hk3, hk4⟩; refine ⟨_, rfl, ?_⟩; have n0_ := Aside0.mk (hk1.trans HBK.out); have n1_ := Aside0.mk (Kd.R_kept HO.out hk3 (fun k hk hs_ => by rcases hs_ with rfl | rfl | rfl; exact hk.2.1 rfl; exact hk.2.2.1 rfl; exact hk.2.2.2 rfl)); clear HBK HF HO HB; have HBK := n0_; have HF := Aside0.mk hk2; have HO := n1_; have HB := Aside0.mk hk4; clear n0_ n1_ hk1 hk2 hk3 hk4) | ((with_reducible refine gate_builtin (b := .append) (xs := #[.tmp 19, .tmp 25]) rfl ?_); at_builtin; refine Kd.R_append (Kd.int .i64) (w0 := w) w.heap.size rfl (.tmp 19) (.tmp 25) 22 3 (.int .i64 0) 8 rfl Try.underlying22 info3 rfl (by decide) (by omega) (.slice Ao out.length co) out (wrap64 (wrap64 ((l0.length : Int) - 1) - r)) [.int .i64 (wrap64 (wrap64 ((l0.length : Int) - 1) - r))] (fun k_ => some k_ ≠ (.slice (some ⟨g0, 0, none⟩) b.length c0 : Value).ownBlock ∧ some k_ ≠ (.slice (some ⟨g1, 0, none⟩) D1.length c1' : Value).ownBlock ∧ some k_ ≠ (.slice (some ⟨g2, 0, none⟩) U1.length c2 : Value).ownBlock ∧ some k_ ≠ (.slice (some ⟨g3, 0, none⟩) P1.length c3 : Value).ownBlock) (fun _ => False) rfl (by first | (go_simp; done) | (go_simp; rfl)) ?aP (fun _ hk => hk.elim) ?aF ?aO ?aB ?aS ?aL ?_; (case aP => exact rfl); (case aB => exact (by repeat (first | (with_reducible first | exact HB.out | apply below_alloc | apply pw_below_drewN | apply below_drew1) | exact HB.out))); (case aF => exact (fun k hk => by have l_ := FoR.lt HF.out; first | exact ⟨fun e => by injection e with e; subst e; exact absurd hk (by simp only [Nat.not_le]; exact l_.1), fun e => by injection e with e; subst e; exact absurd hk (by simp only [Nat.not_le]; exact l_.2.1), fun e => by injection e with e; subst e; exact absurd hk (by simp only [Nat.not_le]; exact l_.2.2.1), fun e => by injection e with e; subst e; exact absurd hk (by simp only [Nat.not_le]; exact l_.2.2.2)⟩)); (case aO => exact HO.out); (case aS => exact HB.out.size); (case aL => have := LM.out; omega); intro v8 w8 ho hb hg hat; have hv := FoR.back HF.out; have hV7 : FoV w7 w.heap.size (.slice (some ⟨g0, 0, none⟩) b.length c0) (.slice (some ⟨g1, 0, none⟩) d'.length c1') (.slice (some ⟨g2, 0, none⟩) u'.length c2) (.slice (some ⟨g3, 0, none⟩) p'.length c3) b d' u' p' := ⟨hv.1, hv.2.1, hv.2.2.1, hv.2.2.2⟩; rw [HL2.out.1, HL2.out.2.1, HL2.out.2.2] at hV7; have BK := Aside0.mk (by rw [HL.out.1, HL.out.2.1, HL.out.2.2] at HBK; exact blk_grown HBK.out hg (Kd.R_ne HO.out HBK.out (by decide)) : w8.heap[gb6]? = some (.cells #[.slice (some ⟨g0, 0, none⟩) b.length c0, .slice (some ⟨g1, 0, none⟩) D1.length c1', .slice (some ⟨g2, 0, none⟩) U1.length c2, .slice (some ⟨g3, 0, none⟩) P1.length c3] 31 (0, 0))); have HV := Aside0.mk (by have h_ := FoV.grown hV7 hg (fun k hk => by have o_ := HO.out.1 k hk; rw [HL.out.1, HL.out.2.1, HL.out.2.2]; exact not_own o_.1 o_.2.1 o_.2.2.1 o_.2.2.2); rw [HL.out.1, HL.out.2.1, HL.out.2.2] at h_; exact h_ : FoV w8 w.heap.size (.slice (some ⟨g0, 0, none⟩) b.length c0) (.slice (some ⟨g1, 0, none⟩) D1.length c1') (.slice (some ⟨g2, 0, none⟩) U1.length c2) (.slice (some ⟨g3, 0, none⟩) P1.length c3) b d' u' p'); clear HO HB; have HO := Aside0.mk ho; have HB := Aside0.mk hb; clear ho hb hg hat hv hV7))
   go_roundg k1
   case measure => have := HK1.out; omega
   case rel => exact ⟨_, d', u', p', H', ⟨by have := HK1.out; omega⟩, ⟨by obtain ⟨a_, b_, c_⟩ := HL2.out; obtain ⟨x_, y_, z_⟩ := HL.out; exact ⟨a_.trans x_, b_.trans y_, c_.trans z_⟩⟩, BK, HV, HO, HB⟩

/-! ### impl_counted: function 74 -/
def impl_counted.l0 : Nat → List Int → List Int → Int → Int → Option (List Int)
 | 0, _, _, _, _ => none
 | k + 1, x5, x10, x11, x12 => if x12 < x11 then (if 0 ≤ x12 then (if x12 < (x10.length : Int) then (if 0 ≤ (rd x10 x12) then (if (rd x10 x12) < (x5.length : Int) then (impl_counted.l0 k (x5.set ((rd x10 x12) : Int).toNat (wrap64 ((rd x5 (rd x10 x12)) + 1))) x10 x11 (wrap64 (x12 + 1))) else (none)) else (none)) else (none)) else (none)) else (some x5)
def impl_counted.f (k : Nat) (a0 : Int) (l1 : List Int) : Option (List Int) := if 0 ≤ a0 then (if (a0 : Int).toNat ≤ 35184372088832 then (impl_counted.l0 k (List.replicate (a0 : Int).toNat 0) l1 (l1.length : Int) 0) else (none)) else (none)
theorem impl_counted.mono_l : ∀ k, (∀ y0 y1 y2 y3, LeO (impl_counted.l0 k y0 y1 y2 y3) (impl_counted.l0 (k + 1) y0 y1 y2 y3))
 | 0 => fun _ _ _ _ r h => by simp [impl_counted.l0] at h
 | k + 1 => by
  have ih0 := impl_counted.mono_l k
  ·intro y0 y1 y2 y3
   unfold impl_counted.l0
   repeat' first
   | (with_reducible exact ih0 _ _ _ _)
   | (with_reducible exact LeO.refl _)
   | (with_reducible exact LeO.none _)
   | (with_reducible refine LeO.ite ?_ ?_)
   | (with_reducible refine LeO.bind ?_ (fun _ => ?_))
   | exact ih0 _ _ _ _
   | exact LeO.none _
   | refine LeO.ite ?_ ?_
   | refine LeO.bind ?_ (fun _ => ?_)
theorem impl_counted.mono : ∀ a0 a1 k, LeO (impl_counted.f k a0 a1) (impl_counted.f (k + 1) a0 a1) := by
 intro a0 a1 k
 have ih0 := impl_counted.mono_l k
 unfold impl_counted.f
 repeat' first
   | (with_reducible exact ih0 _ _ _ _)
   | (with_reducible exact LeO.refl _)
   | (with_reducible exact LeO.none _)
   | (with_reducible refine LeO.ite ?_ ?_)
   | (with_reducible refine LeO.bind ?_ (fun _ => ?_))
   | exact ih0 _ _ _ _
   | exact LeO.none _
   | refine LeO.ite ?_ ?_
   | refine LeO.bind ?_ (fun _ => ?_)
set_option maxHeartbeats 8000000 in
set_option maxRecDepth 100000 in
theorem impl_counted.calls (k : Nat) (a0 : Int) (A1 : Option Addr) (c1 : Nat) (l1 : List Int) (r : List Int) (w : World) (hr1 : Kd.C (Kd.int .i64) w A1 l1.length l1) (hc1 : l1.length ≤ c1) (h : impl_counted.f k a0 l1 = some r) :
  Calls Try.prog 74 #[.int .i64 a0, .slice A1 l1.length c1] w fun e w' => ∃ v0_ : Value, e = .returned (v0_) ∧ Kd.R (Kd.int .i64) 3 w' w.heap.size (fun _ => True) v0_ r ∧ Below w.heap.size w w' := by
 have HR1 := Aside0.mk hr1
 have HC1 := Aside0.mk hc1
 clear hr1 hc1
 have HB := Aside0.mk (Below.refl w.heap.size w)
 have H : (if 0 ≤ a0 then (if (a0 : Int).toNat ≤ 35184372088832 then (impl_counted.l0 k (List.replicate (a0 : Int).toNat 0) l1 (l1.length : Int) 0) else (none)) else (none)) = some r := h
 clear h
 by_cases c3 : 0 ≤ a0
 ·rw [if_pos c3] at H
  have c3b0 := eq_true c3
  have c3b1 : decide (0 ≤ a0) = true := decide_eq_true c3
  clear c3
  by_cases c4 : (a0 : Int).toNat ≤ 35184372088832
  ·rw [if_pos c4] at H
   have c4b0 := eq_true c4
   have c4b1 : decide ((a0 : Int).toNat ≤ 35184372088832) = true := decide_eq_true c4
   clear c4
   obtain ⟨y232, hy232⟩ : ∃ y_ : List Int, y_ = (List.replicate (a0 : Int).toNat 0) := ⟨_, rfl⟩
   replace H : (impl_counted.l0 k y232 l1 (l1.length : Int) 0) = some r := by first | (rw [hy232]; with_reducible exact H) | (have H2_ := (Option.bind_some _ _).symm.trans H; rw [hy232]; with_reducible exact H2_) | (have H2_ := (Option.bind_some _ _).symm.trans H; with_reducible exact H2_) | with_reducible exact H | (rw [hy232]; exact H) | exact H
   have Ny232 := Aside0.mk hy232
   clear hy232
   have H' := Aside0.mk H
   clear H
   go_enter Try.func74, Try.ntmps74
   go_wp2_with (first | ((with_reducible refine gate_dst (N := 9) rfl ?_); refine Kd.R_make (Kd.int .i64) _ 3 rfl (N := 9) rfl 22 _ _ rfl a0 rfl rfl Try.underlying22 (.int .i64 0) 8 info3 rfl (by decide) (by omega) 0 (ok := fun _ => True) (okp := fun _ => True) rfl (fun _ hk => hk) trivial (of_decide_eq_true (by first | (with_reducible assumption) | assumption)) (Nat.le_trans (Nat.mul_le_mul_right _ (of_decide_eq_true (by first | (with_reducible assumption) | assumption) : a0.toNat ≤ 35184372088832)) (by omega)) (Below.refl _ _) (Nat.le_refl _) ?_; intro v233 w5 ho6 hb hg_ hnew_; clear hg_ hnew_; (first | rw [← Ny232.out] at ho6 | (simp only [Int.reduceToNat] at ho6; rw [← Ny232.out] at ho6)); have n0_ := Aside0.mk (Kd.R_lower ho6 (below_size (by repeat (first | (with_reducible first | exact HB.out | apply below_alloc | apply pw_below_drewN | apply below_drew1) | exact HB.out)))); have n1_ := Aside0.mk (below_step (by repeat (first | (with_reducible first | exact HB.out | apply below_alloc | apply pw_below_drewN | apply below_drew1) | exact HB.out)) hb); clear HB; have HO234 := n0_; have HB := n1_; clear n0_ n1_; clear hb ho6))
   go_loopg [12] k (fun kq v12 w' => ∃ (x5_1 : List Int) (x12_1 : Int), v12 = .int .i64 x12_1 ∧ Aside0 (impl_counted.l0 kq x5_1 l1 (l1.length : Int) x12_1 = some r) ∧ Aside0 (kq ≤ k) ∧ Aside0 (Kd.R (Kd.int .i64) 3 w' w.heap.size (fun _ => True) v233 x5_1) ∧ Aside0 (Below w.heap.size w w'))
   case atStart => exact ⟨(y232), (0), (by first | rfl | (simp; done) | (simp [*]; done)), H', ⟨Nat.le_refl _⟩, ⟨by (with_reducible repeat (first | apply Kd.R_alloc | apply Kd.R_drewN | apply Kd.R_drew)); exact HO234.out⟩, ⟨by repeat (first | (with_reducible first | exact HB.out | apply below_alloc | apply pw_below_drewN | apply below_drew1) | exact HB.out)⟩⟩
   case round =>
    clear H'
    try clear c1
    try clear p2
    try clear c3
    try clear c3b0
    try clear c3b1
    try clear c4
    try clear c4b0
    try clear c4b1
    obtain ⟨x5_1, x12_1, rfl, HA, HK1, HO_5, HB⟩ := hrel
    cases gk with
    | zero => exact absurd HA.out (by simp [impl_counted.l0])
    | succ k1 =>
     have H := HA.out
     clear HA
     simp only [impl_counted.l0] at H
     by_cases c7 : x12_1 < (l1.length : Int)
     ·rw [if_pos c7] at H
      have c7b0 : decide (x12_1 < (l1.length : Int)) = true := decide_eq_true c7
      clear c7
      by_cases c8 : 0 ≤ x12_1
      ·rw [if_pos c8] at H
       have c8b0 : decide (0 ≤ x12_1) = true := decide_eq_true c8
       clear c8
       by_cases c9 : x12_1 < (l1.length : Int)
       ·rw [if_pos c9] at H
        have c9b0 : decide (x12_1 < (l1.length : Int)) = true := decide_eq_true c9
        clear c9
        by_cases c10 : 0 ≤ (rd l1 x12_1)
        ·rw [if_pos c10] at H
         have c10b0 : decide (0 ≤ (rd l1 x12_1)) = true := decide_eq_true c10
         clear c10
         by_cases c11 : (rd l1 x12_1) < (x5_1.length : Int)
         ·rw [if_pos c11] at H
          have c11b0 : decide ((rd l1 x12_1) < (x5_1.length : Int)) = true := decide_eq_true c11
          clear c11
          obtain ⟨y237, hy237⟩ : ∃ y_ : List Int, y_ = (x5_1.set ((rd l1 x12_1) : Int).toNat (wrap64 ((rd x5_1 (rd l1 x12_1)) + 1))) := ⟨_, rfl⟩
          replace H : (impl_counted.l0 k1 y237 l1 (l1.length : Int) (wrap64 (x12_1 + 1))) = some r := by first | (rw [hy237]; with_reducible exact H) | (have H2_ := (Option.bind_some _ _).symm.trans H; rw [hy237]; with_reducible exact H2_) | (have H2_ := (Option.bind_some _ _).symm.trans H; with_reducible exact H2_) | with_reducible exact H | (rw [hy237]; exact H) | exact H
          have Ny237 := Aside0.mk hy237
          clear hy237
          have H' := Aside0.mk H
          clear H
          have p235 : 0 ≤ (x12_1 : Int) := of_decide_eq_true (by first | (with_reducible assumption) | assumption)
          have q235 : x12_1 < (l1.length : Int) := of_decide_eq_true (by first | (with_reducible assumption) | assumption)
          obtain ⟨ad235, e235, hx235_0⟩ := Kd.at_int HR1.out x12_1 p235 q235
          cases e235
          try replace hx235_0 := (HB.out.cell (World.block_lt_of_cell? w _ hx235_0)).trans hx235_0
          replace p235 := eq_true p235
          replace q235 := eq_true q235
          obtain ⟨Ao13, co13, eo13⟩ := Kd.R_slice HO_5.out
          subst eo13
          have p236 : 0 ≤ ((rd l1 x12_1) : Int) := of_decide_eq_true (by first | (with_reducible assumption) | assumption)
          have q236 : (rd l1 x12_1) < (x5_1.length : Int) := of_decide_eq_true (by first | (with_reducible assumption) | assumption)
          obtain ⟨ad236, e236, hx236_0⟩ := Kd.at_int (Kd.R_reads' HO_5.out).2.2 (rd l1 x12_1) p236 q236
          cases e236
          replace p236 := eq_true p236
          replace q236 := eq_true q236
          have p12 : 0 ≤ ((rd l1 x12_1) : Int) := of_decide_eq_true (by first | (with_reducible assumption) | assumption)
          have q12 : ((rd l1 x12_1) : Int) < ((x5_1.length : Int) : Int) := of_decide_eq_true (by first | (with_reducible assumption) | assumption)
          obtain ⟨go12, co12, eo12, gb12, gl12, cl12, HG12⟩ := Kd.R_form HO_5.out (by omega)
          (first | cases eo12 | (injection eo12 with ea_ en_ ec_; (first | subst ea_ | (injection ea_ with ea_; subst ea_)); subst ec_; clear en_))
          have GB12 := Aside0.mk gb12
          have GG12 := Aside0.mk HG12
          clear gb12 gl12 HG12
          (first | simp only [add_plain] at hx236_0 | skip)
          obtain ⟨hx12_0, hf12_0⟩ := Kd.R_celln 0 HO_5.out ((rd l1 x12_1) : Int) p12 q12
          replace p12 := eq_true p12
          replace q12 := eq_true q12
          have HP14 := Kd.R_putg HO_5.out ((rd l1 x12_1) : Int) (wrap64 ((rd x5_1 (rd l1 x12_1)) + 1))
          go_wp2_with (first | ((with_reducible refine gate_store (t := 3) (p := 21) rfl ?_); refine store_event (t := 3) (p := 21) (v := ?vo_w15) (w1 := (wr.setCell ⟨go12, ((rd l1 x12_1) : Int).toNat, none⟩ (.int .i64 (wrap64 ((rd x5_1 (rd l1 x12_1)) + 1))))) ?hg ?ho ?hn ?hr ?_; (case ho => rfl); (case hg => rfl); (case hn => rfl); (case hr => first | (go_simp; done) | (go_simp; rfl)); intro w15 hw; have hg : wr.grownBy w15 (some go12) := (by rw [hw]; exact HP14.2); have hp_ : Kd.R (Kd.int .i64) 3 w15 w.heap.size (fun _ => True) (.slice (some ⟨go12, 0, none⟩) x5_1.length co13) y237 := (by rw [hw, Ny237.out]; exact HP14.1); clear HP14; have n0_ := Aside0.mk (hp_); have n1_ := Aside0.mk ((by rw [hw]; exact below_set (HB.out) GB12.out : Below w.heap.size w w15)); clear HO_5; clear HB; have HO_5 := n0_; have HB := n1_; clear n0_ n1_; clear hg hw hp_))
          go_roundg k1
          case measure => have := HK1.out; omega
          case rel => exact ⟨(y237), (wrap64 (x12_1 + 1)), (by first | rfl | (simp; done) | (simp [*]; done)), H', ⟨by have := HK1.out; omega⟩, ⟨by (with_reducible repeat (first | apply Kd.R_alloc | apply Kd.R_drewN | apply Kd.R_drew)); exact HO_5.out⟩, ⟨by repeat (first | (with_reducible first | exact HB.out | apply below_alloc | apply pw_below_drewN | apply below_drew1) | exact HB.out)⟩⟩
         ·rw [if_neg c11] at H
          exact absurd H (by simp)
        ·rw [if_neg c10] at H
         exact absurd H (by simp)
       ·rw [if_neg c9] at H
        exact absurd H (by simp)
      ·rw [if_neg c8] at H
       exact absurd H (by simp)
     ·rw [if_neg c7] at H
      have c7b0 : decide (x12_1 < (l1.length : Int)) = false := decide_eq_false c7
      clear c7
      obtain rfl := Option.some.inj H
      go_wp2
      go_ret
      exact ⟨_, by first | rfl | (simp [errW_none, errW_some] <;> rfl) | (simp [*, errW_none, errW_some] <;> rfl), by (with_reducible repeat (first | apply Kd.R_alloc | apply Kd.R_drewN | apply Kd.R_drew)); exact HO_5.out, by repeat (first | (with_reducible first | exact HB.out | apply below_alloc | apply pw_below_drewN | apply below_drew1) | exact HB.out)⟩
  ·rw [if_neg c4] at H
   exact absurd H (by simp)
 ·rw [if_neg c3] at H
  exact absurd H (by simp)

/-! ### impl_CountTurns: function 34 -/
def impl_CountTurns.f (k : Nat) (l0 : List Int) : Option (List Int × Bool) := (impl_areFocusBases.f k l0).bind fun t238 => (if t238 = true then ((impl_runFocus.f k l0 5040).bind fun t239 => ((impl_counted.f k (l0.length : Int) t239).bind fun t242 => (some (t242, true)))) else (some (([] : List Int), false)))
theorem impl_CountTurns.mono : ∀ a0 k, LeO (impl_CountTurns.f k a0) (impl_CountTurns.f (k + 1) a0) := by
 intro a0 k
 unfold impl_CountTurns.f
 repeat' first
   | (with_reducible exact impl_areFocusBases.mono _ _)
   | (with_reducible exact impl_counted.mono _ _ _)
   | (with_reducible exact impl_runFocus.mono _ _ _)
   | (with_reducible exact LeO.refl _)
   | (with_reducible exact LeO.none _)
   | (with_reducible refine LeO.ite ?_ ?_)
   | (with_reducible refine LeO.bind ?_ (fun _ => ?_))
   | exact impl_areFocusBases.mono _ _
   | exact impl_counted.mono _ _ _
   | exact impl_runFocus.mono _ _ _
   | exact LeO.none _
   | refine LeO.ite ?_ ?_
   | refine LeO.bind ?_ (fun _ => ?_)
set_option maxHeartbeats 8000000 in
set_option maxRecDepth 100000 in
theorem impl_CountTurns.calls (k : Nat) (A0 : Option Addr) (c0 : Nat) (l0 : List Int) (r1 : List Int) (r2 : Bool) (w : World) (hr0 : Kd.C (Kd.int .i64) w A0 l0.length l0) (hc0 : l0.length ≤ c0) (h : impl_CountTurns.f k l0 = some (r1, r2)) :
  Calls Try.prog 34 #[.slice A0 l0.length c0] w fun e w' => ∃ v0_ : Value, e = .returned (.tuple #[v0_, .bool r2]) ∧ Kd.R (Kd.int .i64) 3 w' w.heap.size (fun _ => True) v0_ r1 ∧ Below w.heap.size w w' := by
 have HR0 := Aside0.mk hr0
 have HC0 := Aside0.mk hc0
 clear hr0 hc0
 have HB := Aside0.mk (Below.refl w.heap.size w)
 have H : ((impl_areFocusBases.f k l0).bind fun t238 => (if t238 = true then ((impl_runFocus.f k l0 5040).bind fun t239 => ((impl_counted.f k (l0.length : Int) t239).bind fun t242 => (some (t242, true)))) else (some (([] : List Int), false)))) = some (r1, r2) := h
 clear h
 replace H := Option.bind_eq_some_iff.mp H
 obtain ⟨t238, A20, H⟩ := H
 replace H : (if t238 = true then ((impl_runFocus.f k l0 5040).bind fun t239 => ((impl_counted.f k (l0.length : Int) t239).bind fun t242 => (some (t242, true)))) else (some (([] : List Int), false))) = some (r1, r2) := H
 have A2 := Aside0.mk A20
 clear A20
 by_cases c3 : t238 = true
 ·subst c3
  have H1 : ((impl_runFocus.f k l0 5040).bind fun t239 => ((impl_counted.f k (l0.length : Int) t239).bind fun t242 => (some (t242, true)))) = some (r1, r2) := by rw [if_pos rfl] at H; exact H
  clear H
  have H := H1
  clear H1
  replace H := Option.bind_eq_some_iff.mp H
  obtain ⟨t239, A40, H⟩ := H
  replace H : ((impl_counted.f k (l0.length : Int) t239).bind fun t242 => (some (t242, true))) = some (r1, r2) := H
  have A4 := Aside0.mk A40
  clear A40
  replace H := Option.bind_eq_some_iff.mp H
  obtain ⟨t242, A50, H⟩ := H
  replace H : (some (t242, true)) = some (r1, r2) := H
  have A5 := Aside0.mk A50
  clear A50
  simp only [Option.some.injEq, Prod.mk.injEq] at H
  obtain ⟨rfl, rfl⟩ := H
  go_enter Try.func34, Try.ntmps34
  go_wp2_with (first | ((with_reducible refine gate_callee (f := 62) rfl ?_); refine goesL_ (some 5) rfl rfl Try.func62 (by kernel_rfl) rfl #[.slice A0 l0.length c0] rfl (by (try simp only [List.map_toArray, List.map_cons, List.map_nil]); first | done | rfl | (simp only [List.length_drop, List.length_take]; rfl)) ?_; (with_reducible refine (impl_areFocusBases.calls k _ _ l0 true _ ?side1 ?side2 A2.out).mono ?_); (case side1 => repeat (first | exact HR0.out | (with_reducible refine Kd.C_alloc ?_ _) | (with_reducible refine Kd.C_drewN ?_ _) | (with_reducible refine Kd.C_drew ?_))); (case side2 => exact HC0.out); rintro e w6 ⟨rfl, hb⟩; refine ⟨_, rfl, ?_⟩; have n0_ := Aside0.mk (below_step (by repeat (first | (with_reducible first | exact HB.out | apply below_alloc | apply pw_below_drewN | apply below_drew1) | exact HB.out)) hb); clear HB; have HB := n0_; clear n0_; (try clear hb); (try clear hb2); (try clear hk); (try clear hi)) | ((with_reducible refine gate_callee (f := 64) rfl ?_); refine goesL_ (some 10) rfl rfl Try.func64 (by kernel_rfl) rfl #[.slice A0 l0.length c0, .int .i64 5040] rfl (by (try simp only [List.map_toArray, List.map_cons, List.map_nil]); first | done | rfl | (simp only [List.length_drop, List.length_take]; rfl)) ?_; (with_reducible refine (impl_runFocus.calls k _ _ l0 5040 t239 _ ?side1 ?side2 A4.out).mono ?_); (case side1 => repeat (first | exact (Kd.C_below HR0.out HB.out) | (with_reducible refine Kd.C_alloc ?_ _) | (with_reducible refine Kd.C_drewN ?_ _) | (with_reducible refine Kd.C_drew ?_))); (case side2 => exact HC0.out); rintro e w7 ⟨v240, rfl, ho0, hb⟩; refine ⟨_, rfl, ?_⟩; have n0_ := Aside0.mk (Kd.R_lower ho0 (below_size (by repeat (first | (with_reducible first | exact HB.out | apply below_alloc | apply pw_below_drewN | apply below_drew1) | exact HB.out)))); have n1_ := Aside0.mk (below_step (by repeat (first | (with_reducible first | exact HB.out | apply below_alloc | apply pw_below_drewN | apply below_drew1) | exact HB.out)) hb); clear HB; have HO241 := n0_; have HB := n1_; clear n0_ n1_; (try clear hb); (try clear hb2); (try clear hk); (try clear hi); (try clear ho0); obtain ⟨Ao8, co8, eo8⟩ := Kd.R_slice HO241.out; subst eo8) | ((with_reducible refine gate_callee (f := 74) rfl ?_); refine goesL_ (some 11) rfl rfl Try.func74 (by kernel_rfl) rfl #[.int .i64 (l0.length : Int), .slice Ao8 t239.length co8] rfl (by (try simp only [List.map_toArray, List.map_cons, List.map_nil]); first | done | rfl | (simp only [List.length_drop, List.length_take]; rfl)) ?_; (with_reducible refine (impl_counted.calls k (l0.length : Int) _ _ t239 t242 _ ?side1 ?side2 A5.out).mono ?_); (case side1 => repeat (first | exact (Kd.R_reads' HO241.out).2.2 | (with_reducible refine Kd.C_alloc ?_ _) | (with_reducible refine Kd.C_drewN ?_ _) | (with_reducible refine Kd.C_drew ?_))); (case side2 => exact (Kd.R_reads' HO241.out).2.1); rintro e w9 ⟨v243, rfl, ho0, hb⟩; refine ⟨_, rfl, ?_⟩; have n0_ := Aside0.mk (Kd.R_elder' (by (with_reducible repeat (first | apply Kd.R_alloc | apply Kd.R_drewN | apply Kd.R_drew)); exact HO241.out) (Kd.R_base ho0) hb); have n1_ := Aside0.mk (Kd.R_lower (Kd.R_new' ho0 (Kd.R_lt (by (with_reducible repeat (first | apply Kd.R_alloc | apply Kd.R_drewN | apply Kd.R_drew)); exact HO241.out))) (below_size (by repeat (first | (with_reducible first | exact HB.out | apply below_alloc | apply pw_below_drewN | apply below_drew1) | exact HB.out)))); have n2_ := Aside0.mk (below_step (by repeat (first | (with_reducible first | exact HB.out | apply below_alloc | apply pw_below_drewN | apply below_drew1) | exact HB.out)) hb); clear HO241; clear HB; have HO241 := n0_; have HO244 := n1_; have HB := n2_; clear n0_ n1_ n2_; (try clear hb); (try clear hb2); (try clear hk); (try clear hi); (try clear ho0)))
  go_ret2
  exact ⟨_, by first | rfl | (simp [errW_none, errW_some] <;> rfl) | (simp [*, errW_none, errW_some] <;> rfl), by (with_reducible repeat (first | apply Kd.R_alloc | apply Kd.R_drewN | apply Kd.R_drew)); exact Kd.R_mono HO244.out (fun _ hk => trivial), by repeat (first | (with_reducible first | exact HB.out | apply below_alloc | apply pw_below_drewN | apply below_drew1) | exact HB.out)⟩
 ·replace c3 := Bool.eq_false_iff.mpr c3
  subst c3
  have H1 : (some (([] : List Int), false)) = some (r1, r2) := by rw [if_neg (show ¬ (false = true) by decide)] at H; exact H
  clear H
  have H := H1
  clear H1
  simp only [Option.some.injEq, Prod.mk.injEq] at H
  obtain ⟨rfl, rfl⟩ := H
  go_enter Try.func34, Try.ntmps34
  go_wp2_with (first | ((with_reducible refine gate_callee (f := 62) rfl ?_); refine goesL_ (some 5) rfl rfl Try.func62 (by kernel_rfl) rfl #[.slice A0 l0.length c0] rfl (by (try simp only [List.map_toArray, List.map_cons, List.map_nil]); first | done | rfl | (simp only [List.length_drop, List.length_take]; rfl)) ?_; (with_reducible refine (impl_areFocusBases.calls k _ _ l0 false _ ?side1 ?side2 A2.out).mono ?_); (case side1 => repeat (first | exact HR0.out | (with_reducible refine Kd.C_alloc ?_ _) | (with_reducible refine Kd.C_drewN ?_ _) | (with_reducible refine Kd.C_drew ?_))); (case side2 => exact HC0.out); rintro e w10 ⟨rfl, hb⟩; refine ⟨_, rfl, ?_⟩; have n0_ := Aside0.mk (below_step (by repeat (first | (with_reducible first | exact HB.out | apply below_alloc | apply pw_below_drewN | apply below_drew1) | exact HB.out)) hb); clear HB; have HB := n0_; clear n0_; (try clear hb); (try clear hb2); (try clear hk); (try clear hi)))
  go_ret2
  exact ⟨_, by first | rfl | (simp [errW_none, errW_some] <;> rfl) | (simp [*, errW_none, errW_some] <;> rfl), by first | exact Kd.R_nil _ _ _ _ _ | exact Kd.N_nil _ _ _ _ _ | exact Kd.V_nil _ _ _ _ _ | exact Kd.Q_nil _ _ _ _ _ | exact Kd.S_nil _ _ _ _ _, by repeat (first | (with_reducible first | exact HB.out | apply below_alloc | apply pw_below_drewN | apply below_drew1) | exact HB.out)⟩

end Go.Proofs.Ytaogaigpnmpdcaa.MFnExactCountTurns
