import Derived.Test.YtedijkelbdpcdaaMFnExactRunSwapperx0
import Derived.Test.YtedijkelbdpcdaaMFnExactRunSwapperx8
import Derived.Test.YtedijkelbdpcdaaMFnExactRunSwapperx10
import Derived.Test.YtedijkelbdpcdaaMFnExactRunSwapperx12
namespace Go.Proofs.Ytedijkelbdpcdaa.MFnExactRunSwapper
open Go.RowKit Go.Proofs.YtedijkelbdpcdaaW.PrintWords Go.Proofs.YtedijkelbdpcdaaW.PrintLast Go.Proofs.YtedijkelbdpcdaaW.PrintMore
attribute [local go_sem] max2_int min2_int max_two min_two max_three min_three max_four min_four   
set_option linter.unusedVariables false
set_option linter.unusedSimpArgs false
mutual
def impl_RunSwapper.l0 : Nat → Int → List Int → List Int → List Int → List Bool → List Int → List Int → List Int → Option (List Int)
 | 0, _, _, _, _, _, _, _, _ => none
 | k + 1, m, b, out, d, u, p, it, wh => if (out.length : Int) < m then ((impl_Focus_isLast.f b d u p).bind fun t => (if t = true then some out else ((Go.Proofs.Ytedijkelbdpcdaa.SwW.stepS b d u p it wh).bind fun r => (if out.length < 1000000 then (impl_RunSwapper.l0 k m b (out ++ [r.2.2.2.2.2]) r.1 r.2.1 r.2.2.1 r.2.2.2.1 r.2.2.2.2.1) else none)))) else (some out)
end
def impl_RunSwapper.f (k : Nat) (a0 : Int) (a1 : Int) : Option (List Int × Bool) := (impl_isSwapperSize.f a0).bind fun t => (if t = true then ((impl_within.f a1 0 5040).bind fun b => (if b = true then ((impl_startSwapper.f k a0).bind fun s => ((impl_RunSwapper.l0 k a1 s.1 [] s.2.1 s.2.2.1 s.2.2.2.1 s.2.2.2.2.1 s.2.2.2.2.2).bind fun o => some (o, true))) else some ([], false))) else some ([], false))
theorem impl_RunSwapper.mono_l : ∀ k, (∀ y0 y1 y2 y3 y4 y5 y6 y7, LeO (impl_RunSwapper.l0 k y0 y1 y2 y3 y4 y5 y6 y7) (impl_RunSwapper.l0 (k + 1) y0 y1 y2 y3 y4 y5 y6 y7))
 | 0 => fun _ _ _ _ _ _ _ _ r h => by simp [impl_RunSwapper.l0] at h
 | k + 1 => by
  have ih0 := impl_RunSwapper.mono_l k
  ·intro y0 y1 y2 y3 y4 y5 y6 y7
   unfold impl_RunSwapper.l0
   repeat' first
   | (with_reducible exact ih0 _ _ _ _ _ _ _ _)
   | (with_reducible exact impl_startSwapper.mono _ _)
   | (with_reducible exact LeO.refl _)
   | (with_reducible exact LeO.none _)
   | (with_reducible refine LeO.ite ?_ ?_)
   | (with_reducible refine LeO.bind ?_ (fun _ => ?_))
   | exact ih0 _ _ _ _ _ _ _ _
   | exact impl_startSwapper.mono _ _
   | exact LeO.none _
   | refine LeO.ite ?_ ?_
   | refine LeO.bind ?_ (fun _ => ?_)
theorem impl_RunSwapper.mono : ∀ a0 a1 k, LeO (impl_RunSwapper.f k a0 a1) (impl_RunSwapper.f (k + 1) a0 a1) := by
 intro a0 a1 k
 have ih0 := impl_RunSwapper.mono_l k
 unfold impl_RunSwapper.f
 repeat' first
   | (with_reducible exact ih0 _ _ _ _ _ _ _ _)
   | (with_reducible exact impl_startSwapper.mono _ _)
   | (with_reducible exact LeO.refl _)
   | (with_reducible exact LeO.none _)
   | (with_reducible refine LeO.ite ?_ ?_)
   | (with_reducible refine LeO.bind ?_ (fun _ => ?_))
   | exact ih0 _ _ _ _ _ _ _ _
   | exact impl_startSwapper.mono _ _
   | exact LeO.none _
   | refine LeO.ite ?_ ?_
   | refine LeO.bind ?_ (fun _ => ?_)
open Go.Proofs.Ytedijkelbdpcdaa.FoW Go.Proofs.Ytedijkelbdpcdaa.SwW in
set_option maxHeartbeats 8000000 in
set_option maxRecDepth 100000 in
theorem impl_RunSwapper.calls (k : Nat) (a0 : Int) (a1 : Int) (r1 : List Int) (r2 : Bool) (w : World) (h : impl_RunSwapper.f k a0 a1 = some (r1, r2)) :
  Calls Try.prog 29 #[.int .i64 a0, .int .i64 a1] w fun e w' => ∃ v0_ : Value, e = .returned (.tuple #[v0_, .bool r2]) ∧ Kd.R (Kd.int .i64) 3 w' w.heap.size (fun _ => True) v0_ r1 ∧ Below w.heap.size w w' := by
 have hu := Try.underlying39
 have hu2 := Try.underlying29
 unfold impl_RunSwapper.f at h
 obtain ⟨t1, h1, H⟩ := Z37.mp h
 have T1 := Aside0.mk h1
 clear h h1
 cases t1
 ·simp only [Bool.false_eq_true, if_false, Option.some.injEq, Prod.mk.injEq] at H
  obtain ⟨rfl, rfl⟩ := H
  go_enter Try.func29, Try.ntmps29
  go_wp2_with fail
  refine (impl_isSwapperSize.calls a0 false _ T1.out).mono ?_
  rintro e w1 ⟨rfl, hd1⟩
  have hb1 : Below w.heap.size w w1 := by first | exact hd1 | exact Drawn0.below hd1
  have HB := Aside0.mk hb1
  clear hb1 hd1
  go_wp2
  go_ret2
  exact ⟨_, rfl, Kd.R_nil _ _ _ _ _, HB.out⟩
 simp only [if_true] at H
 replace H := Z37.mp H
 obtain ⟨t2, h2, H⟩ := H
 have T2 := Aside0.mk h2
 clear h2
 cases t2
 ·simp only [Bool.false_eq_true, if_false, Option.some.injEq, Prod.mk.injEq] at H
  obtain ⟨rfl, rfl⟩ := H
  go_enter Try.func29, Try.ntmps29
  go_wp2_with fail
  refine (impl_isSwapperSize.calls a0 true _ T1.out).mono ?_
  rintro e w1 ⟨rfl, hd1⟩
  have hb1 : Below w.heap.size w w1 := by first | exact hd1 | exact Drawn0.below hd1
  have HB := Aside0.mk hb1
  clear hb1 hd1
  go_wp2_with fail
  refine (impl_within.calls a1 0 5040 false _ T2.out).mono ?_
  rintro e w5 ⟨rfl, hd5⟩
  have hb5 : Below w1.heap.size w1 w5 := by first | exact hd5 | exact Drawn0.below hd5
  have n0_ := Aside0.mk (Z8 HB.out hb5)
  clear HB hb5 hd5
  have HB := n0_
  clear n0_
  go_wp2
  go_ret2
  exact ⟨_, rfl, Kd.R_nil _ _ _ _ _, HB.out⟩
 simp only [if_true] at H
 replace H := Z37.mp H
 obtain ⟨⟨b, D1, U1, P1, I1, W1⟩, h3, H⟩ := H
 replace H := Z37.mp H
 obtain ⟨o, h4, H⟩ := H
 simp only [Option.some.injEq, Prod.mk.injEq] at H
 obtain ⟨rfl, rfl⟩ := H
 have A1_ := Aside0.mk h3
 have H' := Aside0.mk h4
 clear h3 h4
 go_enter Try.func29, Try.ntmps29
 go_wp2_with fail
 refine (impl_isSwapperSize.calls a0 true _ T1.out).mono ?_
 rintro e w1 ⟨rfl, hd1⟩
 have hb1 : Below w.heap.size w w1 := by first | exact hd1 | exact Drawn0.below hd1
 have HB := Aside0.mk hb1
 clear hb1 hd1
 go_wp2_with fail
 refine (impl_within.calls a1 0 5040 true _ T2.out).mono ?_
 rintro e w5 ⟨rfl, hd5⟩
 have hb5 : Below w1.heap.size w1 w5 := by first | exact hd5 | exact Drawn0.below hd5
 have n0_ := Aside0.mk (Z8 HB.out hb5)
 clear HB hb5 hd5
 have HB := n0_
 clear n0_
 go_upto_region 4 with (first | ((with_reducible refine gate_dst (N := 16) rfl ?_); refine Kd.R_lit (Kd.int .i64) _ 3 ?hg (N := 16) ?hd (xs := ([] : List Int)) (inner := []) (ok := fun _ => True) (okp := fun _ => True) ?hr ?hp (fun _ hk => hk) trivial (Below.refl _ _) (Nat.le_refl _) (by simp) ?_; (case hd => rfl); (case hg => rfl); (case hr => first | (go_simp; done) | (go_simp; rfl)); (case hp => exact (Reps.none _ _)); intro vL w1 ho hb hg_ hnew_; have HO := Aside0.mk (Kd.R_lower ho (Z7 (by repeat (first | (with_reducible first | exact HB.out | apply Z5 | apply Z3 | apply Z4) | exact HB.out)))); have n0_ := Aside0.mk (Z8 (by repeat (first | (with_reducible first | exact HB.out | apply Z5 | apply Z3 | apply Z4) | exact HB.out)) hb); clear HB; have HB := n0_; clear n0_ ho hb hg_ hnew_) | ((with_reducible refine gate_callee (f := 61) rfl ?_); refine goesL_ (some 18) rfl rfl Try.func61 (by kernel_rfl) rfl #[.int .i64 a0] rfl (by (try simp only [Z34, Z35, Z36]); first | done | rfl) ?_; (with_reducible refine (impl_startSwapper.calls k a0 b D1 U1 P1 I1 W1 _ A1_.out).mono ?_); rintro e w2 ⟨v0, v1, v2, v3, v4, v5, rfl, ho0, ho1, ho2, ho3, ho4, ho5, hb⟩; refine ⟨_, rfl, ?_⟩; have HSZ := Z7 (by repeat (first | (with_reducible first | exact HB.out | apply Z5 | apply Z3 | apply Z4) | exact HB.out)); have hSV : SwV w2 w.heap.size v0 v1 v2 v3 v4 v5 b D1 U1 P1 I1 W1 := ⟨Kd.R_lower ho0 HSZ, Kd.R_lower ho1 HSZ, Kd.R_lower ho2 HSZ, Kd.R_lower ho3 HSZ, Kd.R_lower ho4 HSZ, Kd.R_lower ho5 HSZ⟩; have s0 := Kd.R_base ho0; have s1 := Kd.R_base ho1; have s2 := Kd.R_base ho2; have s3 := Kd.R_base ho3; have s4 := Kd.R_base ho4; have s5 := Kd.R_base ho5; obtain ⟨A0, q0, rfl⟩ := Z19 ho0; obtain ⟨A1, q1, rfl⟩ := Z19 ho1; obtain ⟨A2, q2, rfl⟩ := Z19 ho2; obtain ⟨A3, q3, rfl⟩ := Z19 ho3; obtain ⟨A4, q4, rfl⟩ := Z19 ho4; obtain ⟨A5, q5, rfl⟩ := Z19 ho5; have n0_ := Aside0.mk (Z8 (by repeat (first | (with_reducible first | exact HB.out | apply Z5 | apply Z3 | apply Z4) | exact HB.out)) hb); have n1_ : Aside0 (Kd.R (Kd.int .i64) 3 w2 w.heap.size (fun k_ => some k_ ≠ (.slice A0 b.length q0 : Value).ownBlock ∧ some k_ ≠ (.slice A1 D1.length q1 : Value).ownBlock ∧ some k_ ≠ (.slice A2 U1.length q2 : Value).ownBlock ∧ some k_ ≠ (.slice A3 P1.length q3 : Value).ownBlock ∧ some k_ ≠ (.slice A4 I1.length q4 : Value).ownBlock ∧ some k_ ≠ (.slice A5 W1.length q5 : Value).ownBlock) vL ([] : List Int)) := ⟨Z14 (Kd.R_reok rfl (by (with_reducible repeat (first | apply Z9 | apply Z10 | apply Z11)); exact HO.out) (fun k_ hk => (by have hl_ := Z18 HO.out k_ hk; exact ⟨fun e_ => Nat.not_le.2 hl_ (s0 k_ e_.symm), fun e_ => Nat.not_le.2 hl_ (s1 k_ e_.symm), fun e_ => Nat.not_le.2 hl_ (s2 k_ e_.symm), fun e_ => Nat.not_le.2 hl_ (s3 k_ e_.symm), fun e_ => Nat.not_le.2 hl_ (s4 k_ e_.symm), fun e_ => Nat.not_le.2 hl_ (s5 k_ e_.symm)⟩))) hb⟩; have HV := Aside0.mk hSV; clear HB HO HSZ ho0 ho1 ho2 ho3 ho4 ho5 s0 s1 s2 s3 s4 s5 hb hSV; have HB := n0_; have HO := n1_; clear n0_ n1_) | ((with_reducible refine gate_dst (N := 7) rfl ?_); refine box_event ?hg (N := 7) ?hd (cs := #[.slice none 0 0, .slice none 0 0, .slice none 0 0, .slice none 0 0, .slice none 0 0, .slice none 0 0]) (t := 39) ?hr ?_; (case hd => rfl); (case hg => rfl); (case hr => first | (go_simp; done) | (go_simp; rfl)); intro gb5 hg w3 hbox hb; have n0_ := Aside0.mk (Z8 (by repeat (first | (with_reducible first | exact HB.out | apply Z5 | apply Z3 | apply Z4) | exact HB.out)) hb); have BK := Aside0.mk hbox; have GE5 := Aside0.mk (by rw [hg]; exact Z7 (by repeat (first | (with_reducible first | exact HB.out | apply Z5 | apply Z3 | apply Z4) | exact HB.out)) : w.heap.size ≤ gb5); have n1_ := Aside0.mk (SwV.below (by (with_reducible repeat (first | apply SwV.drewN | apply SwV.drew)); exact HV.out) hb); have n2_ := Aside0.mk (Z14 (by (with_reducible repeat (first | apply Z9 | apply Z10 | apply Z11)); exact HO.out) hb); clear HV HO; have HV := n1_; have HO := n2_; clear n1_ n2_; clear HB; have HB := n0_; clear n0_; have hd0 := (Z24 BK.out 0).trans rfl; have hd1 := (Z24 BK.out 1).trans rfl; have hd2 := (Z24 BK.out 2).trans rfl; have hd3 := (Z24 BK.out 3).trans rfl; have hd4 := (Z24 BK.out 4).trans rfl; have hd5 := (Z24 BK.out 5).trans rfl; have hf0 := Z25 BK.out 0; have hf1 := Z25 BK.out 1; have hf2 := Z25 BK.out 2; have hf3 := Z25 BK.out 3; have hf4 := Z25 BK.out 4; have hf5 := Z25 BK.out 5; clear hb hbox hg))
 have n0_ := Aside0.mk (set6_at BK.out (.slice A0 b.length q0) (.slice A1 D1.length q1) (.slice A2 U1.length q2) (.slice A3 P1.length q3) (.slice A4 I1.length q4) (.slice A5 W1.length q5))
 have n1_ := Aside0.mk (SwV.set6 HV.out BK.out (by decide) (by decide) (.slice A0 b.length q0) (.slice A1 D1.length q1) (.slice A2 U1.length q2) (.slice A3 P1.length q3) (.slice A4 I1.length q4) (.slice A5 W1.length q5))
 have n2_ := Aside0.mk (Z12 (Kd.R_move (w1 := set6 w3 gb5 (.slice A0 b.length q0) (.slice A1 D1.length q1) (.slice A2 U1.length q2) (.slice A3 P1.length q3) (.slice A4 I1.length q4) (.slice A5 W1.length q5)) (Z15 HO.out BK.out (by decide)) (fun k hk => set6_far _ _ _ _ _ _ _ _ k hk.2)) (fun k hk => hk.1))
 have n3_ := Aside0.mk (set6_below HB.out GE5.out (.slice A0 b.length q0) (.slice A1 D1.length q1) (.slice A2 U1.length q2) (.slice A3 P1.length q3) (.slice A4 I1.length q4) (.slice A5 W1.length q5))
 clear BK HV HO HB hd0 hf0 hd1 hf1 hd2 hf2 hd3 hf3 hd4 hf4 hd5 hf5
 have BK := n0_
 have HV := n1_
 have HO := n2_
 have HB := n3_
 clear n0_ n1_ n2_ n3_
 unfold set6 at BK HV HO HB
 generalize ((((((w3.setCell ⟨gb5, 0, none⟩ (.slice A0 b.length q0)).setCell ⟨gb5, 1, none⟩ (.slice A1 D1.length q1)).setCell ⟨gb5, 2, none⟩ (.slice A2 U1.length q2)).setCell ⟨gb5, 3, none⟩ (.slice A3 P1.length q3)).setCell ⟨gb5, 4, none⟩ (.slice A4 I1.length q4)).setCell ⟨gb5, 5, none⟩ (.slice A5 W1.length q5)) = w4 at BK HV HO HB ⊢
 go_loopg [6] k (fun kq v6 w' => ∃ (out d : List Int) (u : List Bool) (p it wh : List Int), Aside0 (impl_RunSwapper.l0 kq a1 b out d u p it wh = some o) ∧ Aside0 (kq ≤ k) ∧ Aside0 (d.length = D1.length ∧ u.length = U1.length ∧ p.length = P1.length ∧ it.length = I1.length ∧ wh.length = W1.length) ∧ Aside0 (w'.heap[gb5]? = some (.cells #[.slice A0 b.length q0, .slice A1 D1.length q1, .slice A2 U1.length q2, .slice A3 P1.length q3, .slice A4 I1.length q4, .slice A5 W1.length q5] 39 (0, 0))) ∧ Aside0 (SwV w' w.heap.size (.slice A0 b.length q0) (.slice A1 D1.length q1) (.slice A2 U1.length q2) (.slice A3 P1.length q3) (.slice A4 I1.length q4) (.slice A5 W1.length q5) b d u p it wh) ∧ Aside0 (Kd.R (Kd.int .i64) 3 w' w.heap.size (fun k_ => some k_ ≠ (.slice A0 b.length q0 : Value).ownBlock ∧ some k_ ≠ (.slice A1 D1.length q1 : Value).ownBlock ∧ some k_ ≠ (.slice A2 U1.length q2 : Value).ownBlock ∧ some k_ ≠ (.slice A3 P1.length q3 : Value).ownBlock ∧ some k_ ≠ (.slice A4 I1.length q4 : Value).ownBlock ∧ some k_ ≠ (.slice A5 W1.length q5 : Value).ownBlock) v6 out) ∧ Aside0 (Below w.heap.size w w'))
 case atStart => exact ⟨[], D1, U1, P1, I1, W1, H', ⟨Nat.le_refl _⟩, ⟨rfl, rfl, rfl, rfl, rfl⟩, BK, HV, HO, HB⟩
 case round =>
  clear H' BK HV HO HB
  obtain ⟨out, d, u, p, it, wh, HA, HK1, HL, BK, HV, HO, HB⟩ := hrel
  cases gk with
  | zero => exact absurd HA.out (by simp [impl_RunSwapper.l0])
  | succ k1 =>
   have H := HA.out
   clear HA
   simp only [impl_RunSwapper.l0] at H
   obtain ⟨Ao, co, eo⟩ := Z19 HO.out
   subst eo
   by_cases c1 : (out.length : Int) < a1
   rotate_left
   ·rw [if_neg c1] at H
    obtain rfl := Option.some.inj H
    have b1 : decide ((out.length : Int) < a1) = false := Z38 c1
    clear c1 H
    go_wp2
    go_ret2
    first | exact ⟨_, rfl, Z12 HO.out (fun _ _ => trivial), HB.out⟩ | exact ⟨rfl, _, Z12 HO.out (fun _ _ => trivial), HB.out⟩
   rw [if_pos c1] at H
   have b1 : decide ((out.length : Int) < a1) = true := Z39 c1
   replace H := Z37.mp H
   obtain ⟨t, ht, H⟩ := H
   have HT := Aside0.mk ht
   obtain ⟨hd, hu', hp, hi', hw'⟩ := HL.out
   have hbk := BK.out
   rw [← hd, ← hu', ← hp, ← hi', ← hw'] at hbk
   have HBK := Aside0.mk hbk
   have HV2 : Aside0 (SwV _ w.heap.size (.slice A0 b.length q0) (.slice A1 d.length q1) (.slice A2 u.length q2) (.slice A3 p.length q3) (.slice A4 it.length q4) (.slice A5 wh.length q5) b d u p it wh) := ⟨by have := HV.out; rw [← hd, ← hu', ← hp, ← hi', ← hw'] at this; exact this⟩
   have hc0 := (Z24 HBK.out 0).trans rfl
   have hc1 := (Z24 HBK.out 1).trans rfl
   have hc2 := (Z24 HBK.out 2).trans rfl
   have hc3 := (Z24 HBK.out 3).trans rfl
   clear c1 ht hbk hd hu' hp hi' hw'
   cases t
   rotate_left
   ·simp only [if_true] at H
    obtain rfl := Option.some.inj H
    clear H
    go_wp2_with fail
    refine (impl_Focus_isLast.calls _ _ b _ _ d _ _ u _ _ p true _ (Kd.R_reads' HV2.out.r0).2.2 (Kd.R_reads' HV2.out.r0).2.1 (Kd.R_reads' HV2.out.r1).2.2 (Kd.R_reads' HV2.out.r1).2.1 (Kd.R_reads' HV2.out.r2).2.2 (Kd.R_reads' HV2.out.r2).2.1 (Kd.R_reads' HV2.out.r3).2.2 (Kd.R_reads' HV2.out.r3).2.1 HT.out).mono ?_
    rintro e w6 ⟨rfl, hd6⟩
    have hb6 : Below wr.heap.size wr w6 := by first | exact hd6 | exact Drawn0.below hd6
    have n0_ := Aside0.mk (Z8 HB.out hb6)
    have n1_ := Aside0.mk (Z14 HO.out hb6)
    clear HB HO hd6 hb6 hc0 hc1 hc2 hc3
    have HB := n0_
    have HO := n1_
    clear n0_ n1_
    go_wp2
    go_ret2
    first | exact ⟨_, rfl, Z12 HO.out (fun _ _ => trivial), HB.out⟩ | exact ⟨rfl, _, Z12 HO.out (fun _ _ => trivial), HB.out⟩
   simp only [Bool.false_eq_true, if_false] at H
   replace H := Z37.mp H
   obtain ⟨⟨d', u', p', it', wh', r⟩, hs, H⟩ := H
   by_cases c2' : out.length < 1000000
   rotate_left
   ·rw [if_neg c2'] at H; exact absurd H (by simp)
   rw [if_pos c2'] at H
   have H' := Aside0.mk H
   have HS := Aside0.mk hs
   have LM := Aside0.mk c2'
   obtain ⟨hl, hl0, hl1, hl2, hl3, hl4, hl5⟩ := stepS_len hs
   have HL2 := Aside0.mk hl
   obtain ⟨g0, p0, g1, p1, g2, p2, g3, p3, g4, p4, g5, p5, e0, e1, e2, e3, e4, e5, hF⟩ := SwR.of HV2.out hl0 hl1 hl2 hl3 hl4 hl5
   injection e0 with x0 _ z0
   injection e1 with x1 _ z1
   injection e2 with x2 _ z2
   injection e3 with x3 _ z3
   injection e4 with x4 _ z4
   injection e5 with x5 _ z5
   subst x0 z0 x1 z1 x2 z2 x3 z3 x4 z4 x5 z5
   have HF := Aside0.mk hF
   clear H hs c2' hl hl0 hl1 hl2 hl3 hl4 hl5 hF HV
   go_wp2_with fail
   refine (impl_Focus_isLast.calls _ _ b _ _ d _ _ u _ _ p false _ (Kd.R_reads' HV2.out.r0).2.2 (Kd.R_reads' HV2.out.r0).2.1 (Kd.R_reads' HV2.out.r1).2.2 (Kd.R_reads' HV2.out.r1).2.1 (Kd.R_reads' HV2.out.r2).2.2 (Kd.R_reads' HV2.out.r2).2.1 (Kd.R_reads' HV2.out.r3).2.2 (Kd.R_reads' HV2.out.r3).2.1 HT.out).mono ?_
   rintro e w6 ⟨rfl, hd6⟩
   have hb6 : Below wr.heap.size wr w6 := by first | exact hd6 | exact Drawn0.below hd6
   have n0_ := Aside0.mk (Z8 HB.out hb6)
   have n1_ := Aside0.mk (Z14 HO.out hb6)
   have n2_ := Aside0.mk (Z29 HBK.out hb6)
   have n3_ := Aside0.mk (SwR.below HF.out hb6)
   have n4_ := Aside0.mk (Z29 BK.out hb6)
   clear HB HO HBK HF BK hd6 hb6 hc0 hc1 hc2 hc3 HV2
   have HB := n0_
   have HO := n1_
   have HBK := n2_
   have HF := n3_
   have BK := n4_
   clear n0_ n1_ n2_ n3_ n4_
   go_wp2_with (first | ((with_reducible refine gate_callee (f := 65) rfl ?_); refine goesL_ (some 30) rfl rfl Try.func65 (by kernel_rfl) rfl #[.pointer (some ⟨gb5, 0, none⟩)] rfl (by (try simp only [Z34, Z35, Z36]); first | done | rfl) ?_; (with_reducible refine (impl_Swapper_step.calls w gb5 g0 q0 g1 q1 g2 q2 g3 q3 g4 q4 g5 q5 b d u p it wh d' u' p' it' wh' r _ HBK.out HF.out HB.out HS.out).mono ?_); rintro e w7 ⟨rfl, hk1, hk2, hk3, hk4⟩; refine ⟨_, rfl, ?_⟩; have n0_ := Aside0.mk (hk1.trans BK.out); have n1_ := Aside0.mk (Kd.R_kept HO.out hk3 (fun k hk hs_ => by rcases hs_ with (e | e | e) | e | e; exact hk.2.1 (by rw [e]; rfl); exact hk.2.2.1 (by rw [e]; rfl); exact hk.2.2.2.1 (by rw [e]; rfl); exact hk.2.2.2.2.1 (by rw [e]; rfl); exact hk.2.2.2.2.2 (by rw [e]; rfl))); have hv := SwR.back hk2; rw [HL2.out.1, HL2.out.2.1, HL2.out.2.2.1, HL2.out.2.2.2.1, HL2.out.2.2.2.2, HL.out.1, HL.out.2.1, HL.out.2.2.1, HL.out.2.2.2.1, HL.out.2.2.2.2] at hv; have HV := Aside0.mk hv; clear HBK BK HF HO HB; have BK := n0_; have HO := n1_; have HB := Aside0.mk hk4; clear n0_ n1_ hk1 hk2 hk3 hk4 hv) | ((with_reducible refine gate_builtin (b := .append) (xs := #[.tmp 29, .tmp 31]) rfl ?_); at_builtin; refine Kd.R_append (Kd.int .i64) (w0 := w) w.heap.size rfl (.tmp 29) (.tmp 31) 22 3 (.int .i64 0) 8 rfl Try.underlying22 info3 rfl (by decide) (by omega) (.slice Ao out.length co) out r [.int .i64 r] (fun k_ => some k_ ≠ (.slice (some ⟨g0, 0, none⟩) b.length q0 : Value).ownBlock ∧ some k_ ≠ (.slice (some ⟨g1, 0, none⟩) D1.length q1 : Value).ownBlock ∧ some k_ ≠ (.slice (some ⟨g2, 0, none⟩) U1.length q2 : Value).ownBlock ∧ some k_ ≠ (.slice (some ⟨g3, 0, none⟩) P1.length q3 : Value).ownBlock ∧ some k_ ≠ (.slice (some ⟨g4, 0, none⟩) I1.length q4 : Value).ownBlock ∧ some k_ ≠ (.slice (some ⟨g5, 0, none⟩) W1.length q5 : Value).ownBlock) (fun _ => False) rfl (by first | (go_simp; done) | (go_simp; rfl)) ?aP (fun _ hk => hk.elim) ?aF ?aO ?aB ?aS ?aL ?_; (case aP => exact rfl); (case aB => exact HB.out); (case aF => exact (fun k hk => by have l_ := fun j (hj : OwnS (.slice (some ⟨g0, 0, none⟩) b.length q0) (.slice (some ⟨g1, 0, none⟩) D1.length q1) (.slice (some ⟨g2, 0, none⟩) U1.length q2) (.slice (some ⟨g3, 0, none⟩) P1.length q3) (.slice (some ⟨g4, 0, none⟩) I1.length q4) (.slice (some ⟨g5, 0, none⟩) W1.length q5) j) => Nat.lt_of_lt_of_le (SwV.lt HV.out j hj) hk; exact ⟨fun e => Nat.lt_irrefl _ (l_ k (.inl e.symm)), fun e => Nat.lt_irrefl _ (l_ k (.inr (.inl e.symm))), fun e => Nat.lt_irrefl _ (l_ k (.inr (.inr (.inl e.symm)))), fun e => Nat.lt_irrefl _ (l_ k (.inr (.inr (.inr (.inl e.symm))))), fun e => Nat.lt_irrefl _ (l_ k (.inr (.inr (.inr (.inr (.inl e.symm)))))), fun e => Nat.lt_irrefl _ (l_ k (.inr (.inr (.inr (.inr (.inr e.symm))))))⟩)); (case aO => exact HO.out); (case aS => exact HB.out.size); (case aL => have := LM.out; omega); intro v8 w8 ho hb hg hat; have n0_ := Aside0.mk (blk_grown BK.out hg (Kd.R_ne HO.out BK.out (by decide))); have n1_ := Aside0.mk (SwV.grown HV.out hg (fun k hk => by have o_ := HO.out.1 k hk; exact not_ownS o_.1 o_.2.1 o_.2.2.1 o_.2.2.2.1 o_.2.2.2.2.1 o_.2.2.2.2.2)); clear HO HB BK HV; have HO := Aside0.mk ho; have HB := Aside0.mk hb; have BK := n0_; have HV := n1_; clear n0_ n1_ ho hb hg hat))
   go_roundg k1
   case measure => have := HK1.out; omega
   case rel => exact ⟨_, d', u', p', it', wh', H', ⟨by have := HK1.out; omega⟩, ⟨by obtain ⟨a_, b_, c_, d_, e_⟩ := HL2.out; obtain ⟨x_, y_, z_, m_, n_⟩ := HL.out; exact ⟨a_.trans x_, b_.trans y_, c_.trans z_, d_.trans m_, e_.trans n_⟩⟩, BK, HV, HO, HB⟩
def laws_eqIntS.l0 : Nat → List Int → List Int → Int → Option (Bool)
 | 0, _, _, _ => none
 | k + 1, x0, x1, x5 => if x5 < (x0.length : Int) then (if 0 ≤ x5 then (if x5 < (x1.length : Int) then (if (rd x0 x5) = (rd x1 x5) then (laws_eqIntS.l0 k x0 x1 (wrap64 (x5 + 1))) else (some false)) else (none)) else (none)) else (some true)
def laws_eqIntS.f (k : Nat) (l0 : List Int) (l1 : List Int) : Option (Bool) := if (l0.length : Int) = (l1.length : Int) then (laws_eqIntS.l0 k l0 l1 0) else (some false)
theorem laws_eqIntS.mono_l : ∀ k, (∀ y0 y1 y2, LeO (laws_eqIntS.l0 k y0 y1 y2) (laws_eqIntS.l0 (k + 1) y0 y1 y2))
 | 0 => fun _ _ _ r h => by simp [laws_eqIntS.l0] at h
 | k + 1 => by
  have ih0 := laws_eqIntS.mono_l k
  ·intro y0 y1 y2
   unfold laws_eqIntS.l0
   repeat' first
   | (with_reducible exact ih0 _ _ _)
   | (with_reducible exact LeO.refl _)
   | (with_reducible exact LeO.none _)
   | (with_reducible refine LeO.ite ?_ ?_)
   | (with_reducible refine LeO.bind ?_ (fun _ => ?_))
   | exact ih0 _ _ _
   | exact LeO.none _
   | refine LeO.ite ?_ ?_
   | refine LeO.bind ?_ (fun _ => ?_)
theorem laws_eqIntS.mono : ∀ a0 a1 k, LeO (laws_eqIntS.f k a0 a1) (laws_eqIntS.f (k + 1) a0 a1) := by
 intro a0 a1 k
 have ih0 := laws_eqIntS.mono_l k
 unfold laws_eqIntS.f
 repeat' first
   | (with_reducible exact ih0 _ _ _)
   | (with_reducible exact LeO.refl _)
   | (with_reducible exact LeO.none _)
   | (with_reducible refine LeO.ite ?_ ?_)
   | (with_reducible refine LeO.bind ?_ (fun _ => ?_))
   | exact ih0 _ _ _
   | exact LeO.none _
   | refine LeO.ite ?_ ?_
   | refine LeO.bind ?_ (fun _ => ?_)
set_option maxHeartbeats 8000000 in
set_option maxRecDepth 100000 in
theorem laws_eqIntS.calls (k : Nat) (A0 : Option Addr) (c0 : Nat) (l0 : List Int) (A1 : Option Addr) (c1 : Nat) (l1 : List Int) (r : Bool) (w : World) (hr0 : Kd.C (Kd.int .i64) w A0 l0.length l0) (hc0 : l0.length ≤ c0) (hr1 : Kd.C (Kd.int .i64) w A1 l1.length l1) (hc1 : l1.length ≤ c1) (h : laws_eqIntS.f k l0 l1 = some r) :
  Calls Try.prog 30 #[.slice A0 l0.length c0, .slice A1 l1.length c1] w fun e w' => e = .returned (.bool r) ∧ Drawn0 w w' := by
 have HR0 := Aside0.mk hr0
 have HC0 := Aside0.mk hc0
 clear hr0 hc0
 have HR1 := Aside0.mk hr1
 have HC1 := Aside0.mk hc1
 clear hr1 hc1
 have H : (if (l0.length : Int) = (l1.length : Int) then (laws_eqIntS.l0 k l0 l1 0) else (some false)) = some r := h
 clear h
 by_cases c3 : (l0.length : Int) = (l1.length : Int)
 ·rw [if_pos c3] at H
  have c3b0 : ((l0.length : Int) == (l1.length : Int)) = true := beq_iff_eq.mpr c3
  have c3b1 : ((l0.length : Int) != (l1.length : Int)) = false := bne_eq_false_iff_eq.mpr c3
  have c3b2 : (l0.length == l1.length) = true := by first | simpa using c3 | (simp at c3 ⊢; omega)
  clear c3
  have H' := Aside0.mk H
  clear H
  go_enter Try.func30, Try.ntmps30
  go_wp2
  repeat (go_quiet (fail); try go_wp2)
  go_loopg [5] k (fun kq v5 w' => ∃ (x5_1 : Int), v5 = .int .i64 x5_1 ∧ Aside0 (laws_eqIntS.l0 kq l0 l1 x5_1 = some r) ∧ Aside0 (kq ≤ k) ∧ Drawn0 w w')
  case atStart => exact ⟨(0), (by first | rfl | (simp; done) | (simp [*]; done)), H', ⟨Nat.le_refl _⟩, by repeat (first | exact Drawn0.refl _ | apply Drawn0.step)⟩
  case round =>
   clear H'
   try clear c1
   try clear p2
   try clear c3
   try clear c3b0
   try clear c3b1
   try clear c3b2
   obtain ⟨x5_1, rfl, HA, HK1, ⟨m1, rfl⟩⟩ := hrel
   cases gk with
   | zero => exact absurd HA.out (by simp [laws_eqIntS.l0])
   | succ k1 =>
    have H := HA.out
    clear HA
    simp only [laws_eqIntS.l0] at H
    by_cases c4 : x5_1 < (l0.length : Int)
    ·rw [if_pos c4] at H
     have c4b0 : decide (x5_1 < (l0.length : Int)) = true := Z39 c4
     clear c4
     by_cases c5 : 0 ≤ x5_1
     ·rw [if_pos c5] at H
      have c5b0 : decide (0 ≤ x5_1) = true := Z39 c5
      clear c5
      by_cases c6 : x5_1 < (l1.length : Int)
      ·rw [if_pos c6] at H
       have c6b0 : decide (x5_1 < (l1.length : Int)) = true := Z39 c6
       clear c6
       by_cases c7 : (rd l0 x5_1) = (rd l1 x5_1)
       ·rw [if_pos c7] at H
        have c7b0 : ((rd l0 x5_1) == (rd l1 x5_1)) = true := beq_iff_eq.mpr c7
        have c7b1 : ((rd l0 x5_1) != (rd l1 x5_1)) = false := bne_eq_false_iff_eq.mpr c7
        clear c7
        have H' := Aside0.mk H
        clear H
        have p310 : 0 ≤ (x5_1 : Int) := Z31 (by first | (with_reducible assumption) | assumption)
        have q310 : x5_1 < (l0.length : Int) := Z31 (by first | (with_reducible assumption) | assumption)
        obtain ⟨ad310, e310, hx310_0⟩ := Kd.at_int HR0.out x5_1 p310 q310
        cases e310
        replace p310 := eq_true p310
        replace q310 := eq_true q310
        have p311 : 0 ≤ (x5_1 : Int) := Z31 (by first | (with_reducible assumption) | assumption)
        have q311 : x5_1 < (l1.length : Int) := Z31 (by first | (with_reducible assumption) | assumption)
        obtain ⟨ad311, e311, hx311_0⟩ := Kd.at_int HR1.out x5_1 p311 q311
        cases e311
        replace p311 := eq_true p311
        replace q311 := eq_true q311
        go_wp2
        repeat (go_quiet (fail); try go_wp2)
        go_roundg k1
        case measure => have := HK1.out; omega
        case rel => exact ⟨(wrap64 (x5_1 + 1)), (by first | rfl | (simp; done) | (simp [*]; done)), H', ⟨by have := HK1.out; omega⟩, by repeat (first | exact Drawn0.refl _ | apply Drawn0.step)⟩
       ·rw [if_neg c7] at H
        have c7b0 : ((rd l0 x5_1) == (rd l1 x5_1)) = false := beq_eq_false_iff_ne.mpr c7
        have c7b1 : ((rd l0 x5_1) != (rd l1 x5_1)) = true := bne_iff_ne.mpr c7
        obtain rfl := Option.some.inj H
        have p310 : 0 ≤ (x5_1 : Int) := Z31 (by first | (with_reducible assumption) | assumption)
        have q310 : x5_1 < (l0.length : Int) := Z31 (by first | (with_reducible assumption) | assumption)
        obtain ⟨ad310, e310, hx310_0⟩ := Kd.at_int HR0.out x5_1 p310 q310
        cases e310
        replace p310 := eq_true p310
        replace q310 := eq_true q310
        have p311 : 0 ≤ (x5_1 : Int) := Z31 (by first | (with_reducible assumption) | assumption)
        have q311 : x5_1 < (l1.length : Int) := Z31 (by first | (with_reducible assumption) | assumption)
        obtain ⟨ad311, e311, hx311_0⟩ := Kd.at_int HR1.out x5_1 p311 q311
        cases e311
        replace p311 := eq_true p311
        replace q311 := eq_true q311
        go_wp2
        repeat (go_quiet (fail); try go_wp2)
        go_ret
        exact ⟨by first | rfl | (simp; done) | (simp [*]; done), by repeat (first | exact Drawn0.refl _ | apply Drawn0.step)⟩
      ·rw [if_neg c6] at H
       exact absurd H (by simp)
     ·rw [if_neg c5] at H
      exact absurd H (by simp)
    ·rw [if_neg c4] at H
     have c4b0 : decide (x5_1 < (l0.length : Int)) = false := Z38 c4
     clear c4
     obtain rfl := Option.some.inj H
     go_wp2
     repeat (go_quiet (fail); try go_wp2)
     go_ret
     exact ⟨by first | rfl | (simp; done) | (simp [*]; done), by repeat (first | exact Drawn0.refl _ | apply Drawn0.step)⟩
 ·rw [if_neg c3] at H
  have c3b0 : ((l0.length : Int) == (l1.length : Int)) = false := beq_eq_false_iff_ne.mpr c3
  have c3b1 : ((l0.length : Int) != (l1.length : Int)) = true := bne_iff_ne.mpr c3
  have c3b2 : (l0.length == l1.length) = false := by first | simpa using c3 | (simp at c3 ⊢; omega)
  obtain rfl := Option.some.inj H
  go_enter Try.func30, Try.ntmps30
  go_wp2
  repeat (go_quiet (fail); try go_wp2)
  go_ret
  exact ⟨by first | rfl | (simp; done) | (simp [*]; done), by repeat (first | exact Drawn0.refl _ | apply Drawn0.step)⟩
def laws_markIntS.l0 : Nat → List Int → Int → Int → Option (Int × List Int)
 | 0, _, _, _ => none
 | k + 1, x0, x1, x5 => if x5 < (x0.length : Int) then (if 0 ≤ x5 then (laws_markIntS.l0 k (x0.set (x5 : Int).toNat x1) (wrap64 (x1 + 1)) (wrap64 (x5 + 1))) else (none)) else (some (x1, x0))
def laws_markIntS.f (k : Nat) (l0 : List Int) (a1 : Int) : Option (Int × List Int) := laws_markIntS.l0 k l0 a1 0
theorem laws_markIntS.mono_l : ∀ k, (∀ y0 y1 y2, LeO (laws_markIntS.l0 k y0 y1 y2) (laws_markIntS.l0 (k + 1) y0 y1 y2))
 | 0 => fun _ _ _ r h => by simp [laws_markIntS.l0] at h
 | k + 1 => by
  have ih0 := laws_markIntS.mono_l k
  ·intro y0 y1 y2
   unfold laws_markIntS.l0
   repeat' first
   | (with_reducible exact ih0 _ _ _)
   | (with_reducible exact LeO.refl _)
   | (with_reducible exact LeO.none _)
   | (with_reducible refine LeO.ite ?_ ?_)
   | (with_reducible refine LeO.bind ?_ (fun _ => ?_))
   | exact ih0 _ _ _
   | exact LeO.none _
   | refine LeO.ite ?_ ?_
   | refine LeO.bind ?_ (fun _ => ?_)
theorem laws_markIntS.mono : ∀ a0 a1 k, LeO (laws_markIntS.f k a0 a1) (laws_markIntS.f (k + 1) a0 a1) := by
 intro a0 a1 k
 have ih0 := laws_markIntS.mono_l k
 unfold laws_markIntS.f
 repeat' first
   | (with_reducible exact ih0 _ _ _)
   | (with_reducible exact LeO.refl _)
   | (with_reducible exact LeO.none _)
   | (with_reducible refine LeO.ite ?_ ?_)
   | (with_reducible refine LeO.bind ?_ (fun _ => ?_))
   | exact ih0 _ _ _
   | exact LeO.none _
   | refine LeO.ite ?_ ?_
   | refine LeO.bind ?_ (fun _ => ?_)
set_option maxHeartbeats 8000000 in
set_option maxRecDepth 100000 in
theorem laws_markIntS.calls (k : Nat) (P0_ : Nat → Prop) (u9000_ : Value) (l0 : List Int) (a1 : Int) (r1 : Int) (r2 : List Int) (w0 w : World) (hB : Below w0.heap.size w0 w) (ho0 : Kd.R (Kd.int .i64) 3 w w0.heap.size P0_ u9000_ l0) (h : laws_markIntS.f k l0 a1 = some (r1, r2)) :
  Calls Try.prog 31 #[u9000_, .int .i64 a1] w fun e w' => e = .returned (.int .i64 r1) ∧ Kd.R (Kd.int .i64) 3 w' w0.heap.size (fun k_ => (P0_ k_ ∨ w.heap.size ≤ k_)) u9000_ r2 ∧ Below w0.heap.size w0 w' ∧ Kept w w' (fun k_ => P0_ k_) := by
 have HO0 := Aside0.mk (show Kd.R (Kd.int .i64) 3 w w0.heap.size (fun k_ => (P0_ k_ ∨ w.heap.size ≤ k_)) u9000_ l0 from Z12 ho0 (fun k_ hk => (.inl hk)))
 have HK := Aside0.mk (Kept.refl w (fun k_ => P0_ k_))
 have HW0 := Aside0.mk hB.size
 have HB := Aside0.mk hB
 clear hB
 have H : (laws_markIntS.l0 k l0 a1 0) = some (r1, r2) := h
 clear h
 have H' := Aside0.mk H
 clear H
 go_enter Try.func31, Try.ntmps31
 go_wp2
 go_loopg [1, 5] k (fun kq v1 v5 w' => ∃ (x0_1 : List Int) (x1_1 : Int) (x5_1 : Int), v1 = .int .i64 x1_1 ∧ v5 = .int .i64 x5_1 ∧ Aside0 (laws_markIntS.l0 kq x0_1 x1_1 x5_1 = some (r1, r2)) ∧ Aside0 (kq ≤ k) ∧ Aside0 (Kd.R (Kd.int .i64) 3 w' w0.heap.size (fun k_ => (P0_ k_ ∨ w.heap.size ≤ k_)) u9000_ x0_1) ∧ Aside0 (Kept w w' (fun k_ => P0_ k_)) ∧ Aside0 (Below w0.heap.size w0 w'))
 case atStart => exact ⟨(l0), (a1), (0), (by first | rfl | (simp; done) | (simp [*]; done)), (by first | rfl | (simp; done) | (simp [*]; done)), H', ⟨Nat.le_refl _⟩, ⟨by (with_reducible repeat (first | apply Z9 | apply Z10 | apply Z11)); exact HO0.out⟩, ⟨by repeat (first | (with_reducible first | exact HK.out | apply Kept.alloc | apply Kept.drewN | apply Kept.drew) | exact HK.out)⟩, ⟨by repeat (first | (with_reducible first | exact HB.out | apply Z5 | apply Z3 | apply Z4) | exact HB.out)⟩⟩
 case round =>
  clear H'
  try clear p2
  obtain ⟨x0_1, x1_1, x5_1, rfl, rfl, HA, HK1, HO_0, HK, HB⟩ := hrel
  cases gk with
  | zero => exact absurd HA.out (by simp [laws_markIntS.l0])
  | succ k1 =>
   have H := HA.out
   clear HA
   simp only [laws_markIntS.l0] at H
   by_cases c3 : x5_1 < (x0_1.length : Int)
   ·rw [if_pos c3] at H
    have c3b0 : decide (x5_1 < (x0_1.length : Int)) = true := Z39 c3
    clear c3
    by_cases c4 : 0 ≤ x5_1
    ·rw [if_pos c4] at H
     have c4b0 : decide (0 ≤ x5_1) = true := Z39 c4
     clear c4
     obtain ⟨y312, hy312⟩ : ∃ y_ : List Int, y_ = (x0_1.set (x5_1 : Int).toNat x1_1) := ⟨_, rfl⟩
     replace H : (laws_markIntS.l0 k1 y312 (wrap64 (x1_1 + 1)) (wrap64 (x5_1 + 1))) = some (r1, r2) := by first | (rw [hy312]; with_reducible exact H) | (have H2_ := (Option.bind_some _ _).symm.trans H; rw [hy312]; with_reducible exact H2_) | (have H2_ := (Option.bind_some _ _).symm.trans H; with_reducible exact H2_) | with_reducible exact H | (rw [hy312]; exact H) | exact H
     have Ny312 := Aside0.mk hy312
     clear hy312
     have H' := Aside0.mk H
     clear H
     obtain ⟨Ao6, co6, eo6⟩ := Z19 HO_0.out
     subst eo6
     have p5 : 0 ≤ (x5_1 : Int) := Z31 (by first | (with_reducible assumption) | assumption)
     have q5 : (x5_1 : Int) < ((x0_1.length : Int) : Int) := Z31 (by first | (with_reducible assumption) | assumption)
     obtain ⟨go5, co5, eo5, gb5, gl5, cl5, HG5⟩ := Kd.R_form HO_0.out (by omega)
     (first | cases eo5 | (injection eo5 with ea_ en_ ec_; (first | subst ea_ | (injection ea_ with ea_; subst ea_)); subst ec_; clear en_))
     have GB5 := Aside0.mk gb5
     have GG5 := Aside0.mk HG5
     clear gb5 gl5 HG5
     have HMgo5 := Aside0.mk (show (P0_ go5 ∨ w.heap.size ≤ go5) from (HO_0.out.1 _ rfl))
     obtain ⟨hx5_0, hf5_0⟩ := Kd.R_celln 0 HO_0.out (x5_1 : Int) p5 q5
     replace p5 := eq_true p5
     replace q5 := eq_true q5
     have HP7 := Kd.R_putg HO_0.out (x5_1 : Int) x1_1
     go_wp2_with (first | ((with_reducible refine gate_store (t := 3) (p := 15) rfl ?_); refine store_event (t := 3) (p := 15) (v := ?vo_w8) (w1 := (wr.setCell ⟨go5, (x5_1 : Int).toNat, none⟩ (.int .i64 x1_1))) ?hg ?ho ?hn ?hr ?_; (case ho => rfl); (case hg => rfl); (case hn => rfl); (case hr => first | (go_simp; done) | (go_simp; rfl)); intro w8 hw; have hg : wr.grownBy w8 (some go5) := (by rw [hw]; exact HP7.2); have hp_ : Kd.R (Kd.int .i64) 3 w8 w0.heap.size (fun k_ => (P0_ k_ ∨ w.heap.size ≤ k_)) (.slice (some ⟨go5, 0, none⟩) x0_1.length co6) y312 := (by rw [hw, Ny312.out]; exact HP7.1); clear HP7; have n0_ := Aside0.mk (hp_); have n1_ := Aside0.mk ((by rw [hw]; exact Z6 (HB.out) GB5.out : Below w0.heap.size w0 w8)); have n2_ := Aside0.mk (Kept.of_grown (S := (fun k_ => P0_ k_)) hg (by repeat (first | (with_reducible first | exact HK.out | apply Kept.alloc | apply Kept.drewN | apply Kept.drew) | exact HK.out)) (fun k_ e_ => (HO_0.out.1 k_ e_))); clear HO_0; clear HB; clear HK; have HO_0 := n0_; have HB := n1_; have HK := n2_; clear n0_ n1_ n2_; clear hg hw hp_))
     go_roundg k1
     case measure => have := HK1.out; omega
     case rel => exact ⟨(y312), (wrap64 (x1_1 + 1)), (wrap64 (x5_1 + 1)), (by first | rfl | (simp; done) | (simp [*]; done)), (by first | rfl | (simp; done) | (simp [*]; done)), H', ⟨by have := HK1.out; omega⟩, ⟨by (with_reducible repeat (first | apply Z9 | apply Z10 | apply Z11)); exact HO_0.out⟩, ⟨by repeat (first | (with_reducible first | exact HK.out | apply Kept.alloc | apply Kept.drewN | apply Kept.drew) | exact HK.out)⟩, ⟨by repeat (first | (with_reducible first | exact HB.out | apply Z5 | apply Z3 | apply Z4) | exact HB.out)⟩⟩
    ·rw [if_neg c4] at H
     exact absurd H (by simp)
   ·rw [if_neg c3] at H
    have c3b0 : decide (x5_1 < (x0_1.length : Int)) = false := Z38 c3
    clear c3
    simp only [Option.some.injEq, Prod.mk.injEq] at H
    obtain ⟨rfl, rfl⟩ := H
    obtain ⟨Ao9, co9, eo9⟩ := Z19 HO_0.out
    subst eo9
    go_wp2
    go_ret
    exact ⟨by first | rfl | (simp [errW_none, errW_some] <;> rfl) | (simp [*, errW_none, errW_some] <;> rfl), by (with_reducible repeat (first | apply Z9 | apply Z10 | apply Z11)); exact HO_0.out, by repeat (first | (with_reducible first | exact HB.out | apply Z5 | apply Z3 | apply Z4) | exact HB.out), by repeat (first | (with_reducible first | exact HK.out | apply Kept.alloc | apply Kept.drewN | apply Kept.drew) | exact HK.out)⟩
def laws_heldIntS.l0 : Nat → List Int → Int → Int → Option (Int)
 | 0, _, _, _ => none
 | k + 1, x0, x1, x5 => if x5 < (x0.length : Int) then (if 0 ≤ x5 then (if (rd x0 x5) = x1 then (laws_heldIntS.l0 k x0 (wrap64 (x1 + 1)) (wrap64 (x5 + 1))) else (some (-1))) else (none)) else (some x1)
def laws_heldIntS.f (k : Nat) (l0 : List Int) (a1 : Int) : Option (Int) := laws_heldIntS.l0 k l0 a1 0
theorem laws_heldIntS.mono_l : ∀ k, (∀ y0 y1 y2, LeO (laws_heldIntS.l0 k y0 y1 y2) (laws_heldIntS.l0 (k + 1) y0 y1 y2))
 | 0 => fun _ _ _ r h => by simp [laws_heldIntS.l0] at h
 | k + 1 => by
  have ih0 := laws_heldIntS.mono_l k
  ·intro y0 y1 y2
   unfold laws_heldIntS.l0
   repeat' first
   | (with_reducible exact ih0 _ _ _)
   | (with_reducible exact LeO.refl _)
   | (with_reducible exact LeO.none _)
   | (with_reducible refine LeO.ite ?_ ?_)
   | (with_reducible refine LeO.bind ?_ (fun _ => ?_))
   | exact ih0 _ _ _
   | exact LeO.none _
   | refine LeO.ite ?_ ?_
   | refine LeO.bind ?_ (fun _ => ?_)
theorem laws_heldIntS.mono : ∀ a0 a1 k, LeO (laws_heldIntS.f k a0 a1) (laws_heldIntS.f (k + 1) a0 a1) := by
 intro a0 a1 k
 have ih0 := laws_heldIntS.mono_l k
 unfold laws_heldIntS.f
 repeat' first
   | (with_reducible exact ih0 _ _ _)
   | (with_reducible exact LeO.refl _)
   | (with_reducible exact LeO.none _)
   | (with_reducible refine LeO.ite ?_ ?_)
   | (with_reducible refine LeO.bind ?_ (fun _ => ?_))
   | exact ih0 _ _ _
   | exact LeO.none _
   | refine LeO.ite ?_ ?_
   | refine LeO.bind ?_ (fun _ => ?_)
set_option maxHeartbeats 8000000 in
set_option maxRecDepth 100000 in
theorem laws_heldIntS.calls (k : Nat) (A0 : Option Addr) (c0 : Nat) (l0 : List Int) (a1 : Int) (r : Int) (w : World) (hr0 : Kd.C (Kd.int .i64) w A0 l0.length l0) (hc0 : l0.length ≤ c0) (h : laws_heldIntS.f k l0 a1 = some r) :
  Calls Try.prog 32 #[.slice A0 l0.length c0, .int .i64 a1] w fun e w' => e = .returned (.int .i64 r) ∧ Drawn0 w w' := by
 have HR0 := Aside0.mk hr0
 have HC0 := Aside0.mk hc0
 clear hr0 hc0
 have H : (laws_heldIntS.l0 k l0 a1 0) = some r := h
 clear h
 have H' := Aside0.mk H
 clear H
 go_enter Try.func32, Try.ntmps32
 go_wp2
 go_loopg [1, 5] k (fun kq v1 v5 w' => ∃ (x1_1 : Int) (x5_1 : Int), v1 = .int .i64 x1_1 ∧ v5 = .int .i64 x5_1 ∧ Aside0 (laws_heldIntS.l0 kq l0 x1_1 x5_1 = some r) ∧ Aside0 (kq ≤ k) ∧ Drawn0 w w')
 case atStart => exact ⟨(a1), (0), (by first | rfl | (simp; done) | (simp [*]; done)), (by first | rfl | (simp; done) | (simp [*]; done)), H', ⟨Nat.le_refl _⟩, by repeat (first | exact Drawn0.refl _ | apply Drawn0.step)⟩
 case round =>
  clear H'
  try clear p2
  obtain ⟨x1_1, x5_1, rfl, rfl, HA, HK1, ⟨m1, rfl⟩⟩ := hrel
  cases gk with
  | zero => exact absurd HA.out (by simp [laws_heldIntS.l0])
  | succ k1 =>
   have H := HA.out
   clear HA
   simp only [laws_heldIntS.l0] at H
   by_cases c3 : x5_1 < (l0.length : Int)
   ·rw [if_pos c3] at H
    have c3b0 : decide (x5_1 < (l0.length : Int)) = true := Z39 c3
    clear c3
    by_cases c4 : 0 ≤ x5_1
    ·rw [if_pos c4] at H
     have c4b0 : decide (0 ≤ x5_1) = true := Z39 c4
     clear c4
     by_cases c5 : (rd l0 x5_1) = x1_1
     ·rw [if_pos c5] at H
      have c5b0 : ((rd l0 x5_1) == x1_1) = true := beq_iff_eq.mpr c5
      have c5b1 : ((rd l0 x5_1) != x1_1) = false := bne_eq_false_iff_eq.mpr c5
      clear c5
      have H' := Aside0.mk H
      clear H
      have p313 : 0 ≤ (x5_1 : Int) := Z31 (by first | (with_reducible assumption) | assumption)
      have q313 : x5_1 < (l0.length : Int) := Z31 (by first | (with_reducible assumption) | assumption)
      obtain ⟨ad313, e313, hx313_0⟩ := Kd.at_int HR0.out x5_1 p313 q313
      cases e313
      replace p313 := eq_true p313
      replace q313 := eq_true q313
      go_wp2
      go_roundg k1
      case measure => have := HK1.out; omega
      case rel => exact ⟨(wrap64 (x1_1 + 1)), (wrap64 (x5_1 + 1)), (by first | rfl | (simp; done) | (simp [*]; done)), (by first | rfl | (simp; done) | (simp [*]; done)), H', ⟨by have := HK1.out; omega⟩, by repeat (first | exact Drawn0.refl _ | apply Drawn0.step)⟩
     ·rw [if_neg c5] at H
      have c5b0 : ((rd l0 x5_1) == x1_1) = false := beq_eq_false_iff_ne.mpr c5
      have c5b1 : ((rd l0 x5_1) != x1_1) = true := bne_iff_ne.mpr c5
      obtain rfl := Option.some.inj H
      have p313 : 0 ≤ (x5_1 : Int) := Z31 (by first | (with_reducible assumption) | assumption)
      have q313 : x5_1 < (l0.length : Int) := Z31 (by first | (with_reducible assumption) | assumption)
      obtain ⟨ad313, e313, hx313_0⟩ := Kd.at_int HR0.out x5_1 p313 q313
      cases e313
      replace p313 := eq_true p313
      replace q313 := eq_true q313
      go_wp2
      go_ret
      exact ⟨by first | rfl | (simp; done) | (simp [*]; done), by repeat (first | exact Drawn0.refl _ | apply Drawn0.step)⟩
    ·rw [if_neg c4] at H
     exact absurd H (by simp)
   ·rw [if_neg c3] at H
    have c3b0 : decide (x5_1 < (l0.length : Int)) = false := Z38 c3
    clear c3
    obtain rfl := Option.some.inj H
    go_wp2
    go_ret
    exact ⟨by first | rfl | (simp; done) | (simp [*]; done), by repeat (first | exact Drawn0.refl _ | apply Drawn0.step)⟩
end Go.Proofs.Ytedijkelbdpcdaa.MFnExactRunSwapper
