import Derived.Test.YtpfakdhfffehaaaMFnExactStepSwapperx0
import Derived.Test.YtpfakdhfffehaaaMFnExactStepSwapperx1
import Derived.Test.YtpfakdhfffehaaaMFnExactStepSwapperx2
import Derived.Test.YtpfakdhfffehaaaMFnExactStepSwapperx3
import Derived.Test.YtpfakdhfffehaaaMFnExactStepSwapperx8
import Derived.Test.YtpfakdhfffehaaaMFnExactStepSwapperx9
import Derived.Test.YtpfakdhfffehaaaMFnExactStepSwapperx11
namespace Go.Proofs.Ytpfakdhfffehaaa.MFnExactStepSwapper
open Go.RowKit Go.Proofs.YtpfakdhfffehaaaW.PrintWords Go.Proofs.YtpfakdhfffehaaaW.PrintLast Go.Proofs.YtpfakdhfffehaaaW.PrintMore
attribute [local go_sem] max2_int min2_int max_two min_two max_three min_three max_four min_four   
set_option linter.unusedVariables false
set_option linter.unusedSimpArgs false
def impl_StepSwapper.f (k : Nat) (b d : List Int) (u : List Bool) (p it wh : List Int) : Option (List Int × List Int × List Bool × List Int × List Int × List Int × Int × Bool) :=
 (impl_IsSwapper.f k b d u p it wh).bind fun t => if t = true then (impl_Focus_own.f b d u p).bind fun o => (impl_copied.f it).bind fun o4 => (impl_copied.f wh).bind fun o5 => (if 0 < o.2.2.2.length ∧ o.1.length ≤ 1000 ∧ rd o.2.2.2 0 = (o.1.length : Int) then some ([], [], [], [], [], [], 0, false) else (Go.Proofs.Ytpfakdhfffehaaa.SwW.stepS o.1 o.2.1 o.2.2.1 o.2.2.2 o4 o5).bind fun s => some (o.1, s.1, s.2.1, s.2.2.1, s.2.2.2.1, s.2.2.2.2.1, s.2.2.2.2.2, true)) else some ([], [], [], [], [], [], 0, false)
theorem impl_StepSwapper.mono : ∀ a0 a1 a2 a3 a4 a5 k, LeO (impl_StepSwapper.f k a0 a1 a2 a3 a4 a5) (impl_StepSwapper.f (k + 1) a0 a1 a2 a3 a4 a5) := by
 intro a0 a1 a2 a3 a4 a5 k
 unfold impl_StepSwapper.f
 repeat' first
   | (with_reducible exact impl_IsSwapper.mono _ _ _ _ _ _ _)
   | (with_reducible exact LeO.refl _)
   | (with_reducible exact LeO.none _)
   | (with_reducible refine LeO.ite ?_ ?_)
   | (with_reducible refine LeO.bind ?_ (fun _ => ?_))
   | exact impl_IsSwapper.mono _ _ _ _ _ _ _
   | exact LeO.none _
   | refine LeO.ite ?_ ?_
   | refine LeO.bind ?_ (fun _ => ?_)
open Go.Proofs.Ytpfakdhfffehaaa.FoW Go.Proofs.Ytpfakdhfffehaaa.SwW Go.Proofs.Ytpfakdhfffehaaa.SwL Go.Proofs.Ytpfakdhfffehaaa.StpW in
theorem impl_StepSwapper.at {b d : List Int} {u : List Bool} {p it wh d' : List Int} {u' : List Bool} {p' it' wh' : List Int} {r : Int} (h : stepS b d u p it wh = some (d', u', p', it', wh', r)) : 0 ≤ r := by
 unfold stepS at h
 simp only at h
 generalize (if rdOf false u ((b.length : Int) - 1 - rd p 0) = true then rd wh ((it.length : Int) - 1 - rd p 0) - 1 else rd wh ((it.length : Int) - 1 - rd p 0)) = a at h
 by_cases hc : it.length ≤ 1000 ∧ wh.length ≤ 1000 ∧ 0 ≤ (it.length : Int) - 1 - rd p 0 ∧ (it.length : Int) - 1 - rd p 0 < wh.length ∧ -1000 ≤ rd wh ((it.length : Int) - 1 - rd p 0) ∧ rd wh ((it.length : Int) - 1 - rd p 0) ≤ 1000 ∧ 0 ≤ a ∧ a + 1 < it.length ∧ 0 ≤ rd it a ∧ rd it a < wh.length ∧ 0 ≤ rd it (a + 1) ∧ rd it (a + 1) < wh.length
 rotate_left
 ·rw [if_neg hc] at h; cases h
 rw [if_pos hc] at h
 obtain ⟨⟨D1, U1, P1, R1⟩, hs, h⟩ := Z36.mp h
 simp only [Option.some.injEq, Prod.mk.injEq] at h
 obtain ⟨-, -, -, -, -, rfl⟩ := h
 exact hc.2.2.2.2.2.2.1
open Go.Proofs.Ytpfakdhfffehaaa.FoW Go.Proofs.Ytpfakdhfffehaaa.SwW Go.Proofs.Ytpfakdhfffehaaa.SwL Go.Proofs.Ytpfakdhfffehaaa.StpW in
set_option maxHeartbeats 16000000 in
set_option maxRecDepth 100000 in
theorem impl_StepSwapper.calls (k : Nat) (A0 : Option Addr) (c0 : Nat) (b : List Int) (A1 : Option Addr) (c1 : Nat) (d : List Int) (A2 : Option Addr) (c2 : Nat) (u : List Bool) (A3 : Option Addr) (c3 : Nat) (p : List Int) (A4 : Option Addr) (c4 : Nat) (it : List Int) (A5 : Option Addr) (c5 : Nat) (wh : List Int) (r1 r2 : List Int) (r3 : List Bool) (r4 r5 r6 : List Int) (r7 : Int) (r8 : Bool) (w : World)
  (hr0 : Kd.C (Kd.int .i64) w A0 b.length b) (hc0 : b.length ≤ c0) (hr1 : Kd.C (Kd.int .i64) w A1 d.length d) (hc1 : d.length ≤ c1) (hr2 : Kd.C Kd.bool w A2 u.length u) (hc2 : u.length ≤ c2) (hr3 : Kd.C (Kd.int .i64) w A3 p.length p) (hc3 : p.length ≤ c3) (hr4 : Kd.C (Kd.int .i64) w A4 it.length it) (hc4 : it.length ≤ c4) (hr5 : Kd.C (Kd.int .i64) w A5 wh.length wh) (hc5 : wh.length ≤ c5) (h : impl_StepSwapper.f k b d u p it wh = some (r1, r2, r3, r4, r5, r6, r7, r8)) :
  Calls Try.prog 27 #[.agg #[.slice A0 b.length c0, .slice A1 d.length c1, .slice A2 u.length c2, .slice A3 p.length c3, .slice A4 it.length c4, .slice A5 wh.length c5]] w fun e w' => ∃ v0_ v1_ v2_ v3_ v4_ v5_ : Value, e = .returned (.tuple #[.agg #[v0_, v1_, v2_, v3_, v4_, v5_], .int .i64 r7, .bool r8]) ∧ Kd.R (Kd.int .i64) 3 w' w.heap.size (fun k_ => some k_ ≠ (v1_ : Value).ownBlock ∧ some k_ ≠ (v3_ : Value).ownBlock ∧ some k_ ≠ (v4_ : Value).ownBlock ∧ some k_ ≠ (v5_ : Value).ownBlock) v0_ r1 ∧ Kd.R (Kd.int .i64) 3 w' w.heap.size (fun k_ => some k_ ≠ (v0_ : Value).ownBlock ∧ some k_ ≠ (v3_ : Value).ownBlock ∧ some k_ ≠ (v4_ : Value).ownBlock ∧ some k_ ≠ (v5_ : Value).ownBlock) v1_ r2 ∧ Kd.R Kd.bool 4 w' w.heap.size (fun _ => True) v2_ r3 ∧ Kd.R (Kd.int .i64) 3 w' w.heap.size (fun k_ => some k_ ≠ (v0_ : Value).ownBlock ∧ some k_ ≠ (v1_ : Value).ownBlock ∧ some k_ ≠ (v4_ : Value).ownBlock ∧ some k_ ≠ (v5_ : Value).ownBlock) v3_ r4 ∧ Kd.R (Kd.int .i64) 3 w' w.heap.size (fun k_ => some k_ ≠ (v0_ : Value).ownBlock ∧ some k_ ≠ (v1_ : Value).ownBlock ∧ some k_ ≠ (v3_ : Value).ownBlock ∧ some k_ ≠ (v5_ : Value).ownBlock) v4_ r5 ∧ Kd.R (Kd.int .i64) 3 w' w.heap.size (fun k_ => some k_ ≠ (v0_ : Value).ownBlock ∧ some k_ ≠ (v1_ : Value).ownBlock ∧ some k_ ≠ (v3_ : Value).ownBlock ∧ some k_ ≠ (v4_ : Value).ownBlock) v5_ r6 ∧ Below w.heap.size w w' := by
 have hu := Try.underlying35
 unfold impl_StepSwapper.f at h
 obtain ⟨t, ht, h⟩ := Z36.mp h
 have At := Ya ht
 clear ht
 have HR0 := Ya hr0
 have HC0 := Ya hc0
 have HR1 := Ya hr1
 have HC1 := Ya hc1
 have HR2 := Ya hr2
 have HC2 := Ya hc2
 have HR3 := Ya hr3
 have HC3 := Ya hc3
 have HR4 := Ya hr4
 have HC4 := Ya hc4
 have HR5 := Ya hr5
 have HC5 := Ya hc5
 clear hr0 hc0 hr1 hc1 hr2 hc2 hr3 hc3 hr4 hc4 hr5 hc5
 have HB := Ya (Below.refl w.heap.size w)
 cases t
 ·rw [if_neg (by decide)] at h
  simp only [Option.some.injEq, Prod.mk.injEq] at h
  obtain ⟨rfl, rfl, rfl, rfl, rfl, rfl, rfl, rfl⟩ := h
  go_enter Try.func27, Try.ntmps27
  go_wp2_with (first | ((with_reducible refine gate_dst (N := 1) rfl ?_); refine Yx 1 #[.slice A0 b.length c0, .slice A1 d.length c1, .slice A2 u.length c2, .slice A3 p.length c3, .slice A4 it.length c4, .slice A5 wh.length c5] 35 ?_; intro gb1 hg w_1 hbox hb; have BK1 := Ya hbox; have GE1 := Ya (by rw [hg]; exact Z7 Q0 : w.heap.size ≤ gb1); replace HB := Yh hb; clear hb hbox hg) | ((with_reducible refine gate_dst (N := 2) rfl ?_); refine Yx 2 YN6 35 ?_; intro gb2 hg w_2 hbox hb; have BK2 := Ya hbox; have GE2 := Ya (by rw [hg]; exact Z7 Q0 : w.heap.size ≤ gb2); have N12 := Ya (by rw [hg]; exact Nat.ne_of_lt (blk_lt Q14) : gb1 ≠ gb2); replace BK1 := Ya (Z28 Q14 hb); replace HB := Yh hb; have hn1 := N12.out; have hn2 := N12.out.symm; have hca0 := (Z23 BK1.out 0).trans rfl; have hfa0 := Z24 BK1.out 0; have hca1 := (Z23 BK1.out 1).trans rfl; have hfa1 := Z24 BK1.out 1; have hca2 := (Z23 BK1.out 2).trans rfl; have hfa2 := Z24 BK1.out 2; have hca3 := (Z23 BK1.out 3).trans rfl; have hfa3 := Z24 BK1.out 3; have hca4 := (Z23 BK1.out 4).trans rfl; have hfa4 := Z24 BK1.out 4; have hca5 := (Z23 BK1.out 5).trans rfl; have hfa5 := Z24 BK1.out 5; clear hb hbox hg) | ((with_reducible refine gate_callee (f := 23) rfl ?_); refine Yz 8 Try.func23 #[.agg #[.slice A0 b.length c0, .slice A1 d.length c1, .slice A2 u.length c2, .slice A3 p.length c3, .slice A4 it.length c4, .slice A5 wh.length c5]] ?_ (hargs := Q17); (with_reducible refine (impl_IsSwapper.calls k _ _ b _ _ d _ _ u _ _ p _ _ it _ _ wh false _ (Yc (Z22 HR0.out HB.out)) HC0.out (Yc (Z22 HR1.out HB.out)) HC1.out (Yc (Z22 HR2.out HB.out)) HC2.out (Yc (Z22 HR3.out HB.out)) HC3.out (Yc (Z22 HR4.out HB.out)) HC4.out (Yc (Z22 HR5.out HB.out)) HC5.out At.out).mono ?_); rintro e w1 ⟨rfl, hb⟩; refine ⟨_, rfl, ?_⟩; clear hca0 hfa0 hca1 hfa1 hca2 hfa2 hca3 hfa3 hca4 hfa4 hca5 hfa5; replace BK1 := Ya (Z28 Q14 hb); replace BK2 := Ya (Z28 Q16 hb); replace HB := Yh hb; clear hb; have hcb0 := (Z23 BK2.out 0).trans rfl; have hfb0 := Z24 BK2.out 0; have hcb1 := (Z23 BK2.out 1).trans rfl; have hfb1 := Z24 BK2.out 1; have hcb2 := (Z23 BK2.out 2).trans rfl; have hfb2 := Z24 BK2.out 2; have hcb3 := (Z23 BK2.out 3).trans rfl; have hfb3 := Z24 BK2.out 3; have hcb4 := (Z23 BK2.out 4).trans rfl; have hfb4 := Z24 BK2.out 4; have hcb5 := (Z23 BK2.out 5).trans rfl; have hfb5 := Z24 BK2.out 5))
  refine bodyPost_ret (results_ctt rfl _ _ gb2 35 YN6 (0, 0) _ rfl Q44 hu rfl (by kernel_rfl)) rfl ?_
  have hbb := set6_below HB.out GE2.out (.slice none 0 0) (.slice none 0 0) (.slice none 0 0) (.slice none 0 0) (.slice none 0 0) (.slice none 0 0)
  unfold set6 at hbb
  exact ⟨_, _, _, _, _, _, rfl, Kd.R_nil _ _ _ _ _, Kd.R_nil _ _ _ _ _, Kd.R_nil _ _ _ _ _, Kd.R_nil _ _ _ _ _, Kd.R_nil _ _ _ _ _, Kd.R_nil _ _ _ _ _, hbb⟩
 ·rw [if_pos rfl] at h
  obtain ⟨⟨b1, d1, u1, p1⟩, ho, h⟩ := Z36.mp h
  obtain ⟨it1, ho4, h⟩ := Z36.mp h
  obtain ⟨wh1, ho5, h⟩ := Z36.mp h
  dsimp only at h
  have Ao := Ya ho
  have A4_ := Ya ho4
  have A5_ := Ya ho5
  have HH := Ya h
  clear ho ho4 ho5 h
  go_enter Try.func27, Try.ntmps27
  go_upto_region 3 with (first | ((with_reducible refine gate_dst (N := 1) rfl ?_); refine Yx 1 #[.slice A0 b.length c0, .slice A1 d.length c1, .slice A2 u.length c2, .slice A3 p.length c3, .slice A4 it.length c4, .slice A5 wh.length c5] 35 ?_; intro gb1 hg w_1 hbox hb; have BK1 := Ya hbox; have GE1 := Ya (by rw [hg]; exact Z7 Q0 : w.heap.size ≤ gb1); replace HB := Yh hb; clear hb hbox hg) | ((with_reducible refine gate_dst (N := 2) rfl ?_); refine Yx 2 YN6 35 ?_; intro gb2 hg w_2 hbox hb; have BK2 := Ya hbox; have GE2 := Ya (by rw [hg]; exact Z7 Q0 : w.heap.size ≤ gb2); have N12 := Ya (by rw [hg]; exact Nat.ne_of_lt (blk_lt Q14) : gb1 ≠ gb2); replace BK1 := Ya (Z28 Q14 hb); replace HB := Yh hb; have hn1 := N12.out; have hn2 := N12.out.symm; have hca0 := (Z23 BK1.out 0).trans rfl; have hfa0 := Z24 BK1.out 0; have hca1 := (Z23 BK1.out 1).trans rfl; have hfa1 := Z24 BK1.out 1; have hca2 := (Z23 BK1.out 2).trans rfl; have hfa2 := Z24 BK1.out 2; have hca3 := (Z23 BK1.out 3).trans rfl; have hfa3 := Z24 BK1.out 3; have hca4 := (Z23 BK1.out 4).trans rfl; have hfa4 := Z24 BK1.out 4; have hca5 := (Z23 BK1.out 5).trans rfl; have hfa5 := Z24 BK1.out 5; clear hb hbox hg) | ((with_reducible refine gate_callee (f := 23) rfl ?_); refine Yz 8 Try.func23 #[.agg #[.slice A0 b.length c0, .slice A1 d.length c1, .slice A2 u.length c2, .slice A3 p.length c3, .slice A4 it.length c4, .slice A5 wh.length c5]] ?_ (hargs := Q17); (with_reducible refine (impl_IsSwapper.calls k _ _ b _ _ d _ _ u _ _ p _ _ it _ _ wh true _ (Yc (Z22 HR0.out HB.out)) HC0.out (Yc (Z22 HR1.out HB.out)) HC1.out (Yc (Z22 HR2.out HB.out)) HC2.out (Yc (Z22 HR3.out HB.out)) HC3.out (Yc (Z22 HR4.out HB.out)) HC4.out (Yc (Z22 HR5.out HB.out)) HC5.out At.out).mono ?_); rintro e w1 ⟨rfl, hb⟩; refine ⟨_, rfl, ?_⟩; clear hca0 hfa0 hca1 hfa1 hca2 hfa2 hca3 hfa3 hca4 hfa4 hca5 hfa5; replace BK1 := Ya (Z28 Q14 hb); replace BK2 := Ya (Z28 Q16 hb); replace HB := Yh hb; clear hb; have hca0 := (Z23 BK1.out 0).trans rfl; have hfa0 := Z24 BK1.out 0; have hca1 := (Z23 BK1.out 1).trans rfl; have hfa1 := Z24 BK1.out 1; have hca2 := (Z23 BK1.out 2).trans rfl; have hfa2 := Z24 BK1.out 2; have hca3 := (Z23 BK1.out 3).trans rfl; have hfa3 := Z24 BK1.out 3; have hca4 := (Z23 BK1.out 4).trans rfl; have hfa4 := Z24 BK1.out 4; have hca5 := (Z23 BK1.out 5).trans rfl; have hfa5 := Z24 BK1.out 5))
  clear hca0 hfa0 hca1 hfa1 hca2 hfa2 hca3 hfa3 hca4 hfa4 hca5 hfa5
  replace BK1 := Ya (Z26 BK1.out)
  replace BK2 := Ya (Z26 BK2.out)
  replace HB := Ya (Z4 HB.out)
  refine start_ (n := 12) (S := fun w' => w'.cell? ⟨gb1, 0, none⟩ = some (.slice A0 b.length c0) ∧ w'.cell? ⟨gb1, 1, none⟩ = some (.slice A1 d.length c1) ∧ w'.cell? ⟨gb1, 2, none⟩ = some (.slice A2 u.length c2) ∧ w'.cell? ⟨gb1, 3, none⟩ = some (.slice A3 p.length c3) ∧ w'.cell? ⟨gb1, 4, none⟩ = some (.slice A4 it.length c4) ∧ w'.cell? ⟨gb1, 5, none⟩ = some (.slice A5 wh.length c5)) (ds := [11]) (YA 12 0) (by kernel_rfl) rfl rfl (Yz6 BK1.out) (fun hHeld => ?_)
  generalize World.drew _ = w2 at BK1 BK2 HB hHeld ⊢
  refine Yq 0 (some 11) (YA 12 1) rfl ?_
  refine Yq 3 (some 14) (YA 12 9) rfl ?_
  refine Yq 6 (some 17) (YA 12 73) rfl ?_
  refine Ys 1 (some 12) (YA 12 75) rfl hHeld Q36 ?_
  refine Ys 4 (some 15) (YA 12 91) rfl hHeld Q36 ?_
  refine Ys 7 (some 18) (YA 12 219) rfl hHeld Q36 ?_
  refine join_ (σ := Value × Value × Value × Value × Value × Value × Nat) 1 (YA 12 2047) (fun s_ => [(13, .agg #[s_.1, s_.2.1, s_.2.2.1, s_.2.2.2.1]), (16, s_.2.2.2.2.1), (19, s_.2.2.2.2.2.1), (20, .agg #[s_.1, s_.2.1, s_.2.2.1, s_.2.2.2.1, s_.2.2.2.2.1, s_.2.2.2.2.2.1]), (5, .pointer (some ⟨s_.2.2.2.2.2.2, 0, none⟩))]) (fun s_ w' => (SwV w' w.heap.size s_.1 s_.2.1 s_.2.2.1 s_.2.2.2.1 s_.2.2.2.2.1 s_.2.2.2.2.2.1 b1 d1 u1 p1 it1 wh1) ∧ (w'.heap[gb1]? = some (.cells #[.slice A0 b.length c0, .slice A1 d.length c1, .slice A2 u.length c2, .slice A3 p.length c3, .slice A4 it.length c4, .slice A5 wh.length c5] 35 (0, 0))) ∧ (w'.heap[gb2]? = some (.cells YN6 35 (0, 0))) ∧ (w'.heap[s_.2.2.2.2.2.2]? = some (.cells YN6 35 (0, 0))) ∧ (w.heap.size ≤ s_.2.2.2.2.2.2) ∧ (gb1 ≠ s_.2.2.2.2.2.2) ∧ (gb2 ≠ s_.2.2.2.2.2.2) ∧ (Below w.heap.size w w')) ?_ ?_
  rotate_left
  ·intro hJ2_5_8_10
   refine join_ (σ := Value × Value × Value × Value × Value × Value) 2 (YA 12 1023) (fun s_ => [(13, .agg #[s_.1, s_.2.1, s_.2.2.1, s_.2.2.2.1]), (16, s_.2.2.2.2.1), (19, s_.2.2.2.2.2), (20, .agg #[s_.1, s_.2.1, s_.2.2.1, s_.2.2.2.1, s_.2.2.2.2.1, s_.2.2.2.2.2])]) (fun s_ w' => (SwV w' w.heap.size s_.1 s_.2.1 s_.2.2.1 s_.2.2.2.1 s_.2.2.2.2.1 s_.2.2.2.2.2 b1 d1 u1 p1 it1 wh1) ∧ (w'.heap[gb1]? = some (.cells #[.slice A0 b.length c0, .slice A1 d.length c1, .slice A2 u.length c2, .slice A3 p.length c3, .slice A4 it.length c4, .slice A5 wh.length c5] 35 (0, 0))) ∧ (w'.heap[gb2]? = some (.cells YN6 35 (0, 0))) ∧ (Below w.heap.size w w')) ?_ ?_
   rotate_left
   ·intro hJ2_5_8
    refine join_ (σ := Value × Value × Value × Value × Value × Nat) 3 (YA 12 1279) (fun s_ => [(13, .agg #[s_.1, s_.2.1, s_.2.2.1, s_.2.2.2.1]), (16, s_.2.2.2.2.1), (5, .pointer (some ⟨s_.2.2.2.2.2, 0, none⟩))]) (fun s_ w' => (P5 w' w.heap.size s_.1 s_.2.1 s_.2.2.1 s_.2.2.2.1 s_.2.2.2.2.1 b1 d1 u1 p1 it1) ∧ (w'.heap[gb1]? = some (.cells #[.slice A0 b.length c0, .slice A1 d.length c1, .slice A2 u.length c2, .slice A3 p.length c3, .slice A4 it.length c4, .slice A5 wh.length c5] 35 (0, 0))) ∧ (w'.heap[gb2]? = some (.cells YN6 35 (0, 0))) ∧ (w'.heap[s_.2.2.2.2.2]? = some (.cells YN6 35 (0, 0))) ∧ (w.heap.size ≤ s_.2.2.2.2.2) ∧ (gb1 ≠ s_.2.2.2.2.2) ∧ (gb2 ≠ s_.2.2.2.2.2) ∧ (Below w.heap.size w w')) ?_ ?_
    rotate_left
    ·intro hJ2_5_10
     refine join_ (σ := Value × Value × Value × Value × Value) 4 (YA 12 255) (fun s_ => [(13, .agg #[s_.1, s_.2.1, s_.2.2.1, s_.2.2.2.1]), (16, s_.2.2.2.2)]) (fun s_ w' => (P5 w' w.heap.size s_.1 s_.2.1 s_.2.2.1 s_.2.2.2.1 s_.2.2.2.2 b1 d1 u1 p1 it1) ∧ (w'.heap[gb1]? = some (.cells #[.slice A0 b.length c0, .slice A1 d.length c1, .slice A2 u.length c2, .slice A3 p.length c3, .slice A4 it.length c4, .slice A5 wh.length c5] 35 (0, 0))) ∧ (w'.heap[gb2]? = some (.cells YN6 35 (0, 0))) ∧ (Below w.heap.size w w')) ?_ ?_
     rotate_left
     ·intro hJ2_5
      refine join_ (σ := Value × Value × Value × Value × Nat) 4 (YA 12 1247) (fun s_ => [(13, .agg #[s_.1, s_.2.1, s_.2.2.1, s_.2.2.2.1]), (5, .pointer (some ⟨s_.2.2.2.2, 0, none⟩))]) (fun s_ w' => (FoV w' w.heap.size s_.1 s_.2.1 s_.2.2.1 s_.2.2.2.1 b1 d1 u1 p1) ∧ (w'.heap[gb1]? = some (.cells #[.slice A0 b.length c0, .slice A1 d.length c1, .slice A2 u.length c2, .slice A3 p.length c3, .slice A4 it.length c4, .slice A5 wh.length c5] 35 (0, 0))) ∧ (w'.heap[gb2]? = some (.cells YN6 35 (0, 0))) ∧ (w'.heap[s_.2.2.2.2]? = some (.cells YN6 35 (0, 0))) ∧ (w.heap.size ≤ s_.2.2.2.2) ∧ (gb1 ≠ s_.2.2.2.2) ∧ (gb2 ≠ s_.2.2.2.2) ∧ (Below w.heap.size w w')) ?_ ?_
      rotate_left
      ·intro hJ2_10
       refine join_ (σ := Value × Value × Value × Value) 5 (YA 12 223) (fun s_ => [(13, .agg #[s_.1, s_.2.1, s_.2.2.1, s_.2.2.2])]) (fun s_ w' => (FoV w' w.heap.size s_.1 s_.2.1 s_.2.2.1 s_.2.2.2 b1 d1 u1 p1) ∧ (w'.heap[gb1]? = some (.cells #[.slice A0 b.length c0, .slice A1 d.length c1, .slice A2 u.length c2, .slice A3 p.length c3, .slice A4 it.length c4, .slice A5 wh.length c5] 35 (0, 0))) ∧ (w'.heap[gb2]? = some (.cells YN6 35 (0, 0))) ∧ (Below w.heap.size w w')) ?_ ?_
       rotate_left
       ·intro hJ2
        refine join_ (σ := Nat) 5 (YA 12 1243) (fun s_ => [(5, .pointer (some ⟨s_, 0, none⟩))]) (fun s_ w' => (w'.heap[gb1]? = some (.cells #[.slice A0 b.length c0, .slice A1 d.length c1, .slice A2 u.length c2, .slice A3 p.length c3, .slice A4 it.length c4, .slice A5 wh.length c5] 35 (0, 0))) ∧ (w'.heap[gb2]? = some (.cells YN6 35 (0, 0))) ∧ (w'.heap[s_]? = some (.cells YN6 35 (0, 0))) ∧ (w.heap.size ≤ s_) ∧ (gb1 ≠ s_) ∧ (gb2 ≠ s_) ∧ (Below w.heap.size w w')) ?_ ?_
        rotate_left
        ·intro hJ10
         refine two_ (i := 2) (j := 10) (Ni := some 13) (Nj := some 5) (YA 12 223) (YA 12 1243) rfl rfl rfl rfl (by kernel_rfl) (by decide) (by decide) (fun K hK => ?_) (fun K hK => ?_)
         ·skip
          refine goes_ Try.func35 (by kernel_rfl) rfl #[.agg #[.slice A0 b.length c0, .slice A1 d.length c1, .slice A2 u.length c2, .slice A3 p.length c3]] (by rfl) rfl rfl Q40 ?_
          with_reducible refine (impl_Focus_own.calls _ _ b _ _ d _ _ u _ _ p b1 d1 u1 p1 _ ?side0 HC0.out ?side1 HC1.out ?side2 HC2.out ?side3 HC3.out Ao.out).mono ?_
          (case side0 => exact Yc (Z22 HR0.out HB.out))
          (case side1 => exact Yc (Z22 HR1.out HB.out))
          (case side2 => exact Yc (Z22 HR2.out HB.out))
          (case side3 => exact Yc (Z22 HR3.out HB.out))
          rintro e w3 ⟨v0, v1, v2, v3, rfl, ho0, ho1, ho2, ho3, hb⟩
          refine ⟨_, rfl, ?_⟩
          have HV : Aside0 (FoV w3 w.heap.size v0 v1 v2 v3 b1 d1 u1 p1) := ⟨FoV.mk (Kd.R_lower ho0 (Z7 Q0)) (Kd.R_lower ho1 (Z7 Q0)) (Kd.R_lower ho2 (Z7 Q0)) (Kd.R_lower ho3 (Z7 Q0))⟩
          replace BK1 := Ya (Z28 Q14 hb)
          replace BK2 := Ya (Z28 Q16 hb)
          replace HB := Yh hb
          refine hK.out _ _ (Yz6 BK1.out) (fun hHeld => ?_)
          clear hK K
          refine norm_ (a' := ?_) ?_ ?_
          rotate_left
          ·show Act.put _ (some 13) _ = _
           simp only [Act.put, Z0, Z1, Z2, i64_w, i32_w]
           rfl
          exact norm_ Q4 (hJ2 (v0, v1, v2, v3) _ ⟨HV.out, BK1.out, BK2.out, HB.out⟩)
         ·skip
          refine Yy 5 YN6 35 ?_
          intro gb5 hg w3 hbox hb
          have BK5 := Ya hbox
          have GE5 := Ya (by rw [hg]; exact Z7 Q0 : w.heap.size ≤ gb5)
          have N15 := Ya (by rw [hg]; exact Nat.ne_of_lt (blk_lt Q14) : gb1 ≠ gb5)
          have N25 := Ya (by rw [hg]; exact Nat.ne_of_lt (blk_lt Q16) : gb2 ≠ gb5)
          replace BK1 := Ya (Z28 Q14 hb)
          replace BK2 := Ya (Z28 Q16 hb)
          replace HB := Yh hb
          refine hK.out _ _ (Yz6 BK1.out) (fun hHeld => ?_)
          clear hK K
          refine norm_ (a' := ?_) ?_ ?_
          rotate_left
          ·show Act.put _ (some 5) _ = _
           simp only [Act.put, Z0, Z1, Z2, i64_w, i32_w]
           rfl
          exact norm_ Q4 (hJ10 (gb5) _ ⟨BK1.out, BK2.out, BK5.out, GE5.out, N15.out, N25.out, HB.out⟩)
        ·skip
         rintro gb5 wn_ ⟨h0_, h1_, h2_, h3_, h4_, h5_, h6_⟩
         replace BK1 : Aside0 (wn_.heap[gb1]? = some (.cells #[.slice A0 b.length c0, .slice A1 d.length c1, .slice A2 u.length c2, .slice A3 p.length c3, .slice A4 it.length c4, .slice A5 wh.length c5] 35 (0, 0))) := ⟨h0_⟩
         replace BK2 : Aside0 (wn_.heap[gb2]? = some (.cells YN6 35 (0, 0))) := ⟨h1_⟩
         replace BK5 : Aside0 (wn_.heap[gb5]? = some (.cells YN6 35 (0, 0))) := ⟨h2_⟩
         replace GE5 : Aside0 (w.heap.size ≤ gb5) := ⟨h3_⟩
         replace N15 : Aside0 (gb1 ≠ gb5) := ⟨h4_⟩
         replace N25 : Aside0 (gb2 ≠ gb5) := ⟨h5_⟩
         replace HB : Aside0 (Below w.heap.size w wn_) := ⟨h6_⟩
         clear h0_ h1_ h2_ h3_ h4_ h5_ h6_
         (try clear HV)
         have hHeld : wn_.cell? ⟨gb1, 0, none⟩ = some (.slice A0 b.length c0) ∧ wn_.cell? ⟨gb1, 1, none⟩ = some (.slice A1 d.length c1) ∧ wn_.cell? ⟨gb1, 2, none⟩ = some (.slice A2 u.length c2) ∧ wn_.cell? ⟨gb1, 3, none⟩ = some (.slice A3 p.length c3) ∧ wn_.cell? ⟨gb1, 4, none⟩ = some (.slice A4 it.length c4) ∧ wn_.cell? ⟨gb1, 5, none⟩ = some (.slice A5 wh.length c5) := (Yz6 BK1.out)
         refine norm_ (a' := ?_) ?_ ?_
         rotate_left
         ·simp only [putAll, Act.put, Z0, Z1, Z2]
          rfl
         refine one_ (i := 2) (N := some 13) (YA 12 1247) rfl rfl (by kernel_rfl) (by decide) (fun K hK => ?_)
         refine goes_ Try.func35 (by kernel_rfl) rfl #[.agg #[.slice A0 b.length c0, .slice A1 d.length c1, .slice A2 u.length c2, .slice A3 p.length c3]] (by rfl) rfl rfl Q40 ?_
         with_reducible refine (impl_Focus_own.calls _ _ b _ _ d _ _ u _ _ p b1 d1 u1 p1 _ ?side0 HC0.out ?side1 HC1.out ?side2 HC2.out ?side3 HC3.out Ao.out).mono ?_
         (case side0 => exact Yc (Z22 HR0.out HB.out))
         (case side1 => exact Yc (Z22 HR1.out HB.out))
         (case side2 => exact Yc (Z22 HR2.out HB.out))
         (case side3 => exact Yc (Z22 HR3.out HB.out))
         rintro e w3 ⟨v0, v1, v2, v3, rfl, ho0, ho1, ho2, ho3, hb⟩
         refine ⟨_, rfl, ?_⟩
         have HV : Aside0 (FoV w3 w.heap.size v0 v1 v2 v3 b1 d1 u1 p1) := ⟨FoV.mk (Kd.R_lower ho0 (Z7 Q0)) (Kd.R_lower ho1 (Z7 Q0)) (Kd.R_lower ho2 (Z7 Q0)) (Kd.R_lower ho3 (Z7 Q0))⟩
         replace BK1 := Ya (Z28 Q14 hb)
         replace BK2 := Ya (Z28 Q16 hb)
         replace BK5 := Ya (Z28 Q46 hb)
         replace HB := Yh hb
         refine hK.out _ _ (Yz6 BK1.out) (fun hHeld => ?_)
         clear hK K
         refine norm_ (a' := ?_) ?_ ?_
         rotate_left
         ·show Act.put _ (some 13) _ = _
          simp only [Act.put, Z0, Z1, Z2, i64_w, i32_w]
          rfl
         exact norm_ Q4 (hJ2_10 (v0, v1, v2, v3, gb5) _ ⟨HV.out, BK1.out, BK2.out, BK5.out, GE5.out, N15.out, N25.out, HB.out⟩)
       ·skip
        rintro ⟨v0, v1, v2, v3⟩ wn_ ⟨h0_, h1_, h2_, h3_⟩
        replace HV : Aside0 (FoV wn_ w.heap.size v0 v1 v2 v3 b1 d1 u1 p1) := ⟨h0_⟩
        replace BK1 : Aside0 (wn_.heap[gb1]? = some (.cells #[.slice A0 b.length c0, .slice A1 d.length c1, .slice A2 u.length c2, .slice A3 p.length c3, .slice A4 it.length c4, .slice A5 wh.length c5] 35 (0, 0))) := ⟨h1_⟩
        replace BK2 : Aside0 (wn_.heap[gb2]? = some (.cells YN6 35 (0, 0))) := ⟨h2_⟩
        replace HB : Aside0 (Below w.heap.size w wn_) := ⟨h3_⟩
        clear h0_ h1_ h2_ h3_
        skip
        have hHeld : wn_.cell? ⟨gb1, 0, none⟩ = some (.slice A0 b.length c0) ∧ wn_.cell? ⟨gb1, 1, none⟩ = some (.slice A1 d.length c1) ∧ wn_.cell? ⟨gb1, 2, none⟩ = some (.slice A2 u.length c2) ∧ wn_.cell? ⟨gb1, 3, none⟩ = some (.slice A3 p.length c3) ∧ wn_.cell? ⟨gb1, 4, none⟩ = some (.slice A4 it.length c4) ∧ wn_.cell? ⟨gb1, 5, none⟩ = some (.slice A5 wh.length c5) := (Yz6 BK1.out)
        refine norm_ (a' := ?_) ?_ ?_
        rotate_left
        ·simp only [putAll, Act.put, Z0, Z1, Z2]
         rfl
        refine two_ (i := 5) (j := 10) (Ni := some 16) (Nj := some 5) (YA 12 255) (YA 12 1247) rfl rfl rfl rfl (by kernel_rfl) (by decide) (by decide) (fun K hK => ?_) (fun K hK => ?_)
        ·skip
         refine goes_ Try.func56 (by kernel_rfl) rfl #[.slice A4 it.length c4] (by rfl) rfl rfl Q40 ?_
         with_reducible refine (impl_copied.calls _ _ it it1 _ ?side4 HC4.out A4_.out).mono ?_
         (case side4 => exact Yc (Z22 HR4.out HB.out))
         rintro e w3 ⟨v4, rfl, ho0, hb⟩
         refine ⟨_, rfl, ?_⟩
         replace HV := Ya (P5.of (Qm0 HV.out) hb (Z7 Q0) ho0)
         replace BK1 := Ya (Z28 Q14 hb)
         replace BK2 := Ya (Z28 Q16 hb)
         replace HB := Yh hb
         refine hK.out _ _ (Yz6 BK1.out) (fun hHeld => ?_)
         clear hK K
         refine norm_ (a' := ?_) ?_ ?_
         rotate_left
         ·show Act.put _ (some 16) _ = _
          simp only [Act.put, Z0, Z1, Z2, i64_w, i32_w]
          rfl
         exact norm_ Q4 (hJ2_5 (v0, v1, v2, v3, v4) _ ⟨HV.out, BK1.out, BK2.out, HB.out⟩)
        ·skip
         refine Yy 5 YN6 35 ?_
         intro gb5 hg w3 hbox hb
         have BK5 := Ya hbox
         have GE5 := Ya (by rw [hg]; exact Z7 Q0 : w.heap.size ≤ gb5)
         have N15 := Ya (by rw [hg]; exact Nat.ne_of_lt (blk_lt Q14) : gb1 ≠ gb5)
         have N25 := Ya (by rw [hg]; exact Nat.ne_of_lt (blk_lt Q16) : gb2 ≠ gb5)
         replace HV := Ya (FoV.below (Qm0 HV.out) hb)
         replace BK1 := Ya (Z28 Q14 hb)
         replace BK2 := Ya (Z28 Q16 hb)
         replace HB := Yh hb
         refine hK.out _ _ (Yz6 BK1.out) (fun hHeld => ?_)
         clear hK K
         refine norm_ (a' := ?_) ?_ ?_
         rotate_left
         ·show Act.put _ (some 5) _ = _
          simp only [Act.put, Z0, Z1, Z2, i64_w, i32_w]
          rfl
         exact norm_ Q4 (hJ2_10 (v0, v1, v2, v3, gb5) _ ⟨HV.out, BK1.out, BK2.out, BK5.out, GE5.out, N15.out, N25.out, HB.out⟩)
      ·skip
       rintro ⟨v0, v1, v2, v3, gb5⟩ wn_ ⟨h0_, h1_, h2_, h3_, h4_, h5_, h6_, h7_⟩
       replace HV : Aside0 (FoV wn_ w.heap.size v0 v1 v2 v3 b1 d1 u1 p1) := ⟨h0_⟩
       replace BK1 : Aside0 (wn_.heap[gb1]? = some (.cells #[.slice A0 b.length c0, .slice A1 d.length c1, .slice A2 u.length c2, .slice A3 p.length c3, .slice A4 it.length c4, .slice A5 wh.length c5] 35 (0, 0))) := ⟨h1_⟩
       replace BK2 : Aside0 (wn_.heap[gb2]? = some (.cells YN6 35 (0, 0))) := ⟨h2_⟩
       replace BK5 : Aside0 (wn_.heap[gb5]? = some (.cells YN6 35 (0, 0))) := ⟨h3_⟩
       replace GE5 : Aside0 (w.heap.size ≤ gb5) := ⟨h4_⟩
       replace N15 : Aside0 (gb1 ≠ gb5) := ⟨h5_⟩
       replace N25 : Aside0 (gb2 ≠ gb5) := ⟨h6_⟩
       replace HB : Aside0 (Below w.heap.size w wn_) := ⟨h7_⟩
       clear h0_ h1_ h2_ h3_ h4_ h5_ h6_ h7_
       have hHeld : wn_.cell? ⟨gb1, 0, none⟩ = some (.slice A0 b.length c0) ∧ wn_.cell? ⟨gb1, 1, none⟩ = some (.slice A1 d.length c1) ∧ wn_.cell? ⟨gb1, 2, none⟩ = some (.slice A2 u.length c2) ∧ wn_.cell? ⟨gb1, 3, none⟩ = some (.slice A3 p.length c3) ∧ wn_.cell? ⟨gb1, 4, none⟩ = some (.slice A4 it.length c4) ∧ wn_.cell? ⟨gb1, 5, none⟩ = some (.slice A5 wh.length c5) := (Yz6 BK1.out)
       refine norm_ (a' := ?_) ?_ ?_
       rotate_left
       ·simp only [putAll, Act.put, Z0, Z1, Z2]
        rfl
       refine one_ (i := 5) (N := some 16) (YA 12 1279) rfl rfl (by kernel_rfl) (by decide) (fun K hK => ?_)
       refine goes_ Try.func56 (by kernel_rfl) rfl #[.slice A4 it.length c4] (by rfl) rfl rfl Q40 ?_
       with_reducible refine (impl_copied.calls _ _ it it1 _ ?side4 HC4.out A4_.out).mono ?_
       (case side4 => exact Yc (Z22 HR4.out HB.out))
       rintro e w3 ⟨v4, rfl, ho0, hb⟩
       refine ⟨_, rfl, ?_⟩
       replace HV := Ya (P5.of (Qm0 HV.out) hb (Z7 Q0) ho0)
       replace BK1 := Ya (Z28 Q14 hb)
       replace BK2 := Ya (Z28 Q16 hb)
       replace BK5 := Ya (Z28 Q46 hb)
       replace HB := Yh hb
       refine hK.out _ _ (Yz6 BK1.out) (fun hHeld => ?_)
       clear hK K
       refine norm_ (a' := ?_) ?_ ?_
       rotate_left
       ·show Act.put _ (some 16) _ = _
        simp only [Act.put, Z0, Z1, Z2, i64_w, i32_w]
        rfl
       exact norm_ Q4 (hJ2_5_10 (v0, v1, v2, v3, v4, gb5) _ ⟨HV.out, BK1.out, BK2.out, BK5.out, GE5.out, N15.out, N25.out, HB.out⟩)
     ·skip
      rintro ⟨v0, v1, v2, v3, v4⟩ wn_ ⟨h0_, h1_, h2_, h3_⟩
      replace HV : Aside0 (P5 wn_ w.heap.size v0 v1 v2 v3 v4 b1 d1 u1 p1 it1) := ⟨h0_⟩
      replace BK1 : Aside0 (wn_.heap[gb1]? = some (.cells #[.slice A0 b.length c0, .slice A1 d.length c1, .slice A2 u.length c2, .slice A3 p.length c3, .slice A4 it.length c4, .slice A5 wh.length c5] 35 (0, 0))) := ⟨h1_⟩
      replace BK2 : Aside0 (wn_.heap[gb2]? = some (.cells YN6 35 (0, 0))) := ⟨h2_⟩
      replace HB : Aside0 (Below w.heap.size w wn_) := ⟨h3_⟩
      clear h0_ h1_ h2_ h3_
      skip
      have hHeld : wn_.cell? ⟨gb1, 0, none⟩ = some (.slice A0 b.length c0) ∧ wn_.cell? ⟨gb1, 1, none⟩ = some (.slice A1 d.length c1) ∧ wn_.cell? ⟨gb1, 2, none⟩ = some (.slice A2 u.length c2) ∧ wn_.cell? ⟨gb1, 3, none⟩ = some (.slice A3 p.length c3) ∧ wn_.cell? ⟨gb1, 4, none⟩ = some (.slice A4 it.length c4) ∧ wn_.cell? ⟨gb1, 5, none⟩ = some (.slice A5 wh.length c5) := (Yz6 BK1.out)
      refine norm_ (a' := ?_) ?_ ?_
      rotate_left
      ·simp only [putAll, Act.put, Z0, Z1, Z2]
       rfl
      refine two_ (i := 8) (j := 10) (Ni := some 19) (Nj := some 5) (YA 12 511) (YA 12 1279) rfl rfl rfl rfl (by kernel_rfl) (by decide) (by decide) (fun K hK => ?_) (fun K hK => ?_)
      ·skip
       refine goes_ Try.func56 (by kernel_rfl) rfl #[.slice A5 wh.length c5] (by rfl) rfl rfl Q40 ?_
       with_reducible refine (impl_copied.calls _ _ wh wh1 _ ?side5 HC5.out A5_.out).mono ?_
       (case side5 => exact Yc (Z22 HR5.out HB.out))
       rintro e w3 ⟨v5, rfl, ho0, hb⟩
       refine ⟨_, rfl, ?_⟩
       replace HV := Ya (SwV.of5 (Qm1 HV.out) hb (Z7 Q0) ho0)
       replace BK1 := Ya (Z28 Q14 hb)
       replace BK2 := Ya (Z28 Q16 hb)
       replace HB := Yh hb
       refine hK.out _ _ (Yz6 BK1.out) (fun hHeld => ?_)
       clear hK K
       refine norm_ (a' := ?_) ?_ ?_
       rotate_left
       ·show Act.put _ (some 19) _ = _
        simp only [Act.put, Z0, Z1, Z2, i64_w, i32_w]
        rfl
       obtain ⟨B4, e4, q4⟩ := Kd.R_slice HV.out.r4
       obtain ⟨B5, e5, q5⟩ := Kd.R_slice HV.out.r5
       rw [q4, q5]
       refine Yq 9 (some 20) (YA 12 1023) rfl ?_
       rw [← q4, ← q5]
       exact norm_ Q4 (hJ2_5_8 (v0, v1, v2, v3, v4, v5) _ ⟨HV.out, BK1.out, BK2.out, HB.out⟩)
      ·skip
       refine Yy 5 YN6 35 ?_
       intro gb5 hg w3 hbox hb
       have BK5 := Ya hbox
       have GE5 := Ya (by rw [hg]; exact Z7 Q0 : w.heap.size ≤ gb5)
       have N15 := Ya (by rw [hg]; exact Nat.ne_of_lt (blk_lt Q14) : gb1 ≠ gb5)
       have N25 := Ya (by rw [hg]; exact Nat.ne_of_lt (blk_lt Q16) : gb2 ≠ gb5)
       replace HV := Ya (P5.below (Qm1 HV.out) hb)
       replace BK1 := Ya (Z28 Q14 hb)
       replace BK2 := Ya (Z28 Q16 hb)
       replace HB := Yh hb
       refine hK.out _ _ (Yz6 BK1.out) (fun hHeld => ?_)
       clear hK K
       refine norm_ (a' := ?_) ?_ ?_
       rotate_left
       ·show Act.put _ (some 5) _ = _
        simp only [Act.put, Z0, Z1, Z2, i64_w, i32_w]
        rfl
       exact norm_ Q4 (hJ2_5_10 (v0, v1, v2, v3, v4, gb5) _ ⟨HV.out, BK1.out, BK2.out, BK5.out, GE5.out, N15.out, N25.out, HB.out⟩)
    ·skip
     rintro ⟨v0, v1, v2, v3, v4, gb5⟩ wn_ ⟨h0_, h1_, h2_, h3_, h4_, h5_, h6_, h7_⟩
     replace HV : Aside0 (P5 wn_ w.heap.size v0 v1 v2 v3 v4 b1 d1 u1 p1 it1) := ⟨h0_⟩
     replace BK1 : Aside0 (wn_.heap[gb1]? = some (.cells #[.slice A0 b.length c0, .slice A1 d.length c1, .slice A2 u.length c2, .slice A3 p.length c3, .slice A4 it.length c4, .slice A5 wh.length c5] 35 (0, 0))) := ⟨h1_⟩
     replace BK2 : Aside0 (wn_.heap[gb2]? = some (.cells YN6 35 (0, 0))) := ⟨h2_⟩
     replace BK5 : Aside0 (wn_.heap[gb5]? = some (.cells YN6 35 (0, 0))) := ⟨h3_⟩
     replace GE5 : Aside0 (w.heap.size ≤ gb5) := ⟨h4_⟩
     replace N15 : Aside0 (gb1 ≠ gb5) := ⟨h5_⟩
     replace N25 : Aside0 (gb2 ≠ gb5) := ⟨h6_⟩
     replace HB : Aside0 (Below w.heap.size w wn_) := ⟨h7_⟩
     clear h0_ h1_ h2_ h3_ h4_ h5_ h6_ h7_
     have hHeld : wn_.cell? ⟨gb1, 0, none⟩ = some (.slice A0 b.length c0) ∧ wn_.cell? ⟨gb1, 1, none⟩ = some (.slice A1 d.length c1) ∧ wn_.cell? ⟨gb1, 2, none⟩ = some (.slice A2 u.length c2) ∧ wn_.cell? ⟨gb1, 3, none⟩ = some (.slice A3 p.length c3) ∧ wn_.cell? ⟨gb1, 4, none⟩ = some (.slice A4 it.length c4) ∧ wn_.cell? ⟨gb1, 5, none⟩ = some (.slice A5 wh.length c5) := (Yz6 BK1.out)
     refine norm_ (a' := ?_) ?_ ?_
     rotate_left
     ·simp only [putAll, Act.put, Z0, Z1, Z2]
      rfl
     refine one_ (i := 8) (N := some 19) (YA 12 1535) rfl rfl (by kernel_rfl) (by decide) (fun K hK => ?_)
     refine goes_ Try.func56 (by kernel_rfl) rfl #[.slice A5 wh.length c5] (by rfl) rfl rfl Q40 ?_
     with_reducible refine (impl_copied.calls _ _ wh wh1 _ ?side5 HC5.out A5_.out).mono ?_
     (case side5 => exact Yc (Z22 HR5.out HB.out))
     rintro e w3 ⟨v5, rfl, ho0, hb⟩
     refine ⟨_, rfl, ?_⟩
     replace HV := Ya (SwV.of5 (Qm1 HV.out) hb (Z7 Q0) ho0)
     replace BK1 := Ya (Z28 Q14 hb)
     replace BK2 := Ya (Z28 Q16 hb)
     replace BK5 := Ya (Z28 Q46 hb)
     replace HB := Yh hb
     refine hK.out _ _ (Yz6 BK1.out) (fun hHeld => ?_)
     clear hK K
     refine norm_ (a' := ?_) ?_ ?_
     rotate_left
     ·show Act.put _ (some 19) _ = _
      simp only [Act.put, Z0, Z1, Z2, i64_w, i32_w]
      rfl
     obtain ⟨B4, e4, q4⟩ := Kd.R_slice HV.out.r4
     obtain ⟨B5, e5, q5⟩ := Kd.R_slice HV.out.r5
     rw [q4, q5]
     refine Yq 9 (some 20) (YA 12 2047) rfl ?_
     rw [← q4, ← q5]
     exact norm_ Q4 (hJ2_5_8_10 (v0, v1, v2, v3, v4, v5, gb5) _ ⟨HV.out, BK1.out, BK2.out, BK5.out, GE5.out, N15.out, N25.out, HB.out⟩)
   ·skip
    rintro ⟨v0, v1, v2, v3, v4, v5⟩ wn_ ⟨h0_, h1_, h2_, h3_⟩
    replace HV : Aside0 (SwV wn_ w.heap.size v0 v1 v2 v3 v4 v5 b1 d1 u1 p1 it1 wh1) := ⟨h0_⟩
    replace BK1 : Aside0 (wn_.heap[gb1]? = some (.cells #[.slice A0 b.length c0, .slice A1 d.length c1, .slice A2 u.length c2, .slice A3 p.length c3, .slice A4 it.length c4, .slice A5 wh.length c5] 35 (0, 0))) := ⟨h1_⟩
    replace BK2 : Aside0 (wn_.heap[gb2]? = some (.cells YN6 35 (0, 0))) := ⟨h2_⟩
    replace HB : Aside0 (Below w.heap.size w wn_) := ⟨h3_⟩
    clear h0_ h1_ h2_ h3_
    skip
    have hHeld : wn_.cell? ⟨gb1, 0, none⟩ = some (.slice A0 b.length c0) ∧ wn_.cell? ⟨gb1, 1, none⟩ = some (.slice A1 d.length c1) ∧ wn_.cell? ⟨gb1, 2, none⟩ = some (.slice A2 u.length c2) ∧ wn_.cell? ⟨gb1, 3, none⟩ = some (.slice A3 p.length c3) ∧ wn_.cell? ⟨gb1, 4, none⟩ = some (.slice A4 it.length c4) ∧ wn_.cell? ⟨gb1, 5, none⟩ = some (.slice A5 wh.length c5) := (Yz6 BK1.out)
    refine norm_ (a' := ?_) ?_ ?_
    rotate_left
    ·simp only [putAll, Act.put, Z0, Z1, Z2]
     rfl
    refine one_ (i := 10) (N := some 5) (YA 12 2047) rfl rfl (by kernel_rfl) (by decide) (fun K hK => ?_)
    refine Yy 5 YN6 35 ?_
    intro gb5 hg w3 hbox hb
    have BK5 := Ya hbox
    have GE5 := Ya (by rw [hg]; exact Z7 Q0 : w.heap.size ≤ gb5)
    have N15 := Ya (by rw [hg]; exact Nat.ne_of_lt (blk_lt Q14) : gb1 ≠ gb5)
    have N25 := Ya (by rw [hg]; exact Nat.ne_of_lt (blk_lt Q16) : gb2 ≠ gb5)
    replace HV := Ya (SwV.below (by (with_reducible repeat (first | apply SwV.drewN | apply SwV.drew)); exact HV.out) hb)
    replace BK1 := Ya (Z28 Q14 hb)
    replace BK2 := Ya (Z28 Q16 hb)
    replace HB := Yh hb
    refine hK.out _ _ (Yz6 BK1.out) (fun hHeld => ?_)
    clear hK K
    refine norm_ (a' := ?_) ?_ ?_
    rotate_left
    ·show Act.put _ (some 5) _ = _
     simp only [Act.put, Z0, Z1, Z2, i64_w, i32_w]
     rfl
    exact norm_ Q4 (hJ2_5_8_10 (v0, v1, v2, v3, v4, v5, gb5) _ ⟨HV.out, BK1.out, BK2.out, BK5.out, GE5.out, N15.out, N25.out, HB.out⟩)
  rintro ⟨v0, v1, v2, v3, v4, v5, gb5⟩ wn_ ⟨h0_, h1_, h2_, h3_, h4_, h5_, h6_, h7_⟩
  replace HV : Aside0 (SwV wn_ w.heap.size v0 v1 v2 v3 v4 v5 b1 d1 u1 p1 it1 wh1) := ⟨h0_⟩
  replace BK1 : Aside0 (wn_.heap[gb1]? = some (.cells #[.slice A0 b.length c0, .slice A1 d.length c1, .slice A2 u.length c2, .slice A3 p.length c3, .slice A4 it.length c4, .slice A5 wh.length c5] 35 (0, 0))) := ⟨h1_⟩
  replace BK2 : Aside0 (wn_.heap[gb2]? = some (.cells YN6 35 (0, 0))) := ⟨h2_⟩
  replace BK5 : Aside0 (wn_.heap[gb5]? = some (.cells YN6 35 (0, 0))) := ⟨h3_⟩
  replace GE5 : Aside0 (w.heap.size ≤ gb5) := ⟨h4_⟩
  replace N15 : Aside0 (gb1 ≠ gb5) := ⟨h5_⟩
  replace N25 : Aside0 (gb2 ≠ gb5) := ⟨h6_⟩
  replace HB : Aside0 (Below w.heap.size w wn_) := ⟨h7_⟩
  clear h0_ h1_ h2_ h3_ h4_ h5_ h6_ h7_
  have hHeld : wn_.cell? ⟨gb1, 0, none⟩ = some (.slice A0 b.length c0) ∧ wn_.cell? ⟨gb1, 1, none⟩ = some (.slice A1 d.length c1) ∧ wn_.cell? ⟨gb1, 2, none⟩ = some (.slice A2 u.length c2) ∧ wn_.cell? ⟨gb1, 3, none⟩ = some (.slice A3 p.length c3) ∧ wn_.cell? ⟨gb1, 4, none⟩ = some (.slice A4 it.length c4) ∧ wn_.cell? ⟨gb1, 5, none⟩ = some (.slice A5 wh.length c5) := (Yz6 BK1.out)
  refine norm_ (a' := ?_) ?_ ?_
  rotate_left
  ·simp only [putAll, Act.put, Z0, Z1, Z2]
   rfl
  obtain ⟨B0, e0, q0⟩ := Z19 HV.out.r0
  obtain ⟨B1, e1, q1⟩ := Z19 HV.out.r1
  obtain ⟨B2, e2, q2⟩ := Z19 HV.out.r2
  obtain ⟨B3, e3, q3⟩ := Z19 HV.out.r3
  obtain ⟨B4, e4, q4⟩ := Z19 HV.out.r4
  obtain ⟨B5, e5, q5⟩ := Z19 HV.out.r5
  subst q0 q1 q2 q3 q4 q5
  have hn15 := N15.out
  have hn25 := N25.out
  have hn15' := N15.out.symm
  have hn25' := N25.out.symm
  have hcd0 := (Z23 BK5.out 0).trans rfl
  have hfd0 := Z24 BK5.out 0
  have hcd1 := (Z23 BK5.out 1).trans rfl
  have hfd1 := Z24 BK5.out 1
  have hcd2 := (Z23 BK5.out 2).trans rfl
  have hfd2 := Z24 BK5.out 2
  have hcd3 := (Z23 BK5.out 3).trans rfl
  have hfd3 := Z24 BK5.out 3
  have hcd4 := (Z23 BK5.out 4).trans rfl
  have hfd4 := Z24 BK5.out 4
  have hcd5 := (Z23 BK5.out 5).trans rfl
  have hfd5 := Z24 BK5.out 5
  refine last_ (i := 11) (N := none) (YA 12 4095) rfl rfl (by kernel_rfl) (by decide) (fun K hK => ?_)
  refine skip_ (w1 := ?_) (by rfl) rfl ?_ ?_
  rotate_left
  ·go_simp
   rfl
  refine hK.out _ _ ?_
  clear hK K
  refine done_ (by kernel_rfl) ?_
  clear hcd0 hfd0 hcd1 hfd1 hcd2 hfd2 hcd3 hfd3 hcd4 hfd4 hcd5 hfd5
  replace HV := Ya (SwV.set6 HV.out BK5.out (by decide) (by decide) (.slice B0 b1.length e0) (.slice B1 d1.length e1) (.slice B2 u1.length e2) (.slice B3 p1.length e3) (.slice B4 it1.length e4) (.slice B5 wh1.length e5))
  replace BK5 := Ya (set6_at BK5.out (.slice B0 b1.length e0) (.slice B1 d1.length e1) (.slice B2 u1.length e2) (.slice B3 p1.length e3) (.slice B4 it1.length e4) (.slice B5 wh1.length e5))
  replace BK1 := Ya ((set6_far _ gb5 (.slice B0 b1.length e0) (.slice B1 d1.length e1) (.slice B2 u1.length e2) (.slice B3 p1.length e3) (.slice B4 it1.length e4) (.slice B5 wh1.length e5) gb1 N15.out).trans BK1.out)
  replace BK2 := Ya ((set6_far _ gb5 (.slice B0 b1.length e0) (.slice B1 d1.length e1) (.slice B2 u1.length e2) (.slice B3 p1.length e3) (.slice B4 it1.length e4) (.slice B5 wh1.length e5) gb2 N25.out).trans BK2.out)
  replace HB := Ya (set6_below HB.out GE5.out (.slice B0 b1.length e0) (.slice B1 d1.length e1) (.slice B2 u1.length e2) (.slice B3 p1.length e3) (.slice B4 it1.length e4) (.slice B5 wh1.length e5))
  unfold set6 at BK5 HV BK1 BK2 HB
  generalize ((((((wn_.setCell ⟨gb5, 0, none⟩ (.slice B0 b1.length e0)).setCell ⟨gb5, 1, none⟩ (.slice B1 d1.length e1)).setCell ⟨gb5, 2, none⟩ (.slice B2 u1.length e2)).setCell ⟨gb5, 3, none⟩ (.slice B3 p1.length e3)).setCell ⟨gb5, 4, none⟩ (.slice B4 it1.length e4)).setCell ⟨gb5, 5, none⟩ (.slice B5 wh1.length e5)) = w5 at BK5 HV BK1 BK2 HB ⊢
  have h := HH.out
  clear HH
  go_step
  go_step
  by_cases ce : 0 < p1.length ∧ b1.length ≤ 1000 ∧ rd p1 0 = (b1.length : Int)
  ·rw [if_pos ce] at h
   simp only [Option.some.injEq, Prod.mk.injEq] at h
   obtain ⟨rfl, rfl, rfl, rfl, rfl, rfl, rfl, rfl⟩ := h
   obtain ⟨g3, c3', e3', _⟩ := Kd.R_form HV.out.r3 ce.1
   injection e3' with x3 _ _
   subst x3
   have HX : Aside0 (w5.cell? ⟨g3, 0, none⟩ = some (.int .i64 (b1.length : Int))) := ⟨by have h_ := (Kd.R_celln 0 HV.out.r3 0 (by decide) (by exact_mod_cast ce.1)).1; rw [show rdOf 0 p1 0 = rd p1 0 from rfl, ce.2.2] at h_; exact h_⟩
   go_wp2_with (first | ((with_reducible refine gate_callee (f := 57) rfl ?_); refine Yz 21 Try.func57 #[.pointer (some ⟨gb5, 0, none⟩)] ?_ (hargs := Q17); (with_reducible refine (impl_Swapper_step.callsEnd _ _ gb5 g3 b1.length e0 p1.length e3 B0 _ rfl rfl ce.1 ce.2.1 BK5.out HX.out).mono ?_); rintro e w6 ⟨rfl, hb⟩; refine ⟨_, rfl, ?_⟩; replace BK2 := Ya (Z28 Q16 hb); replace HB := Yh hb; clear hb; have hcb0 := (Z23 BK2.out 0).trans rfl; have hfb0 := Z24 BK2.out 0; have hcb1 := (Z23 BK2.out 1).trans rfl; have hfb1 := Z24 BK2.out 1; have hcb2 := (Z23 BK2.out 2).trans rfl; have hfb2 := Z24 BK2.out 2; have hcb3 := (Z23 BK2.out 3).trans rfl; have hfb3 := Z24 BK2.out 3; have hcb4 := (Z23 BK2.out 4).trans rfl; have hfb4 := Z24 BK2.out 4; have hcb5 := (Z23 BK2.out 5).trans rfl; have hfb5 := Z24 BK2.out 5))
   refine bodyPost_ret (results_ctt rfl _ _ gb2 35 YN6 (0, 0) _ rfl Q44 hu rfl (by kernel_rfl)) rfl ?_
   have hbb := set6_below HB.out GE2.out (.slice none 0 0) (.slice none 0 0) (.slice none 0 0) (.slice none 0 0) (.slice none 0 0) (.slice none 0 0)
   unfold set6 at hbb
   exact ⟨_, _, _, _, _, _, rfl, Kd.R_nil _ _ _ _ _, Kd.R_nil _ _ _ _ _, Kd.R_nil _ _ _ _ _, Kd.R_nil _ _ _ _ _, Kd.R_nil _ _ _ _ _, Kd.R_nil _ _ _ _ _, hbb⟩
  ·rw [if_neg ce] at h
   obtain ⟨⟨d2, u2, p2, it2, wh2, j⟩, hs, h⟩ := Z36.mp h
   simp only [Option.some.injEq, Prod.mk.injEq] at h
   obtain ⟨rfl, rfl, rfl, rfl, rfl, rfl, rfl, rfl⟩ := h
   have hj : decide (j < 0) = false := Z37 (by have := impl_StepSwapper.at hs; omega)
   obtain ⟨hl, hl0, hl1, hl2, hl3, hl4, hl5⟩ := stepS_len hs
   have HS := Ya hs
   have HL := Ya hl
   obtain ⟨g0, p0', g1, p1', g2, p2', g3, p3', g4, p4', g5, p5', e0', e1', e2', e3', e4', e5', hF⟩ := SwR.of HV.out hl0 hl1 hl2 hl3 hl4 hl5
   injection e0' with x0 _ z0
   injection e1' with x1 _ z1
   injection e2' with x2 _ z2
   injection e3' with x3 _ z3
   injection e4' with x4 _ z4
   injection e5' with x5 _ z5
   subst x0 z0 x1 z1 x2 z2 x3 z3 x4 z4 x5 z5
   have HF := Ya hF
   clear hs hl hl0 hl1 hl2 hl3 hl4 hl5 hF ce HV
   go_wp2_with (first | ((with_reducible refine gate_callee (f := 57) rfl ?_); refine Yz 21 Try.func57 #[.pointer (some ⟨gb5, 0, none⟩)] ?_ (hargs := Q17); (with_reducible refine (impl_Swapper_step.calls w gb5 g0 e0 g1 e1 g2 e2 g3 e3 g4 e4 g5 e5 b1 d1 u1 p1 it1 wh1 d2 u2 p2 it2 wh2 j _ BK5.out HF.out HB.out HS.out).mono ?_); rintro e w6 ⟨rfl, hk1, hk2, hk3, hk4⟩; refine ⟨_, rfl, ?_⟩; have a2_ := FoR.apart HF.out.f BK2.out (by decide) (by decide); have b2_ := SwR.apart HF.out BK2.out (by decide); replace BK2 := Ya (blk_kept BK2.out hk3 (fun e => by rcases e with (e | e | e) | e | e; exact a2_.2.1 e; exact a2_.2.2.1 e; exact a2_.2.2.2 e; exact b2_.1 e; exact b2_.2 e)); replace BK5 := Ya (hk1.trans BK5.out); replace HF := Ya hk2; replace HB := Ya hk4; clear hk1 hk2 hk3 hk4 a2_ b2_ BK1; have hcd0 := (Z23 BK5.out 0).trans rfl; have hfd0 := Z24 BK5.out 0; have hcd1 := (Z23 BK5.out 1).trans rfl; have hfd1 := Z24 BK5.out 1; have hcd2 := (Z23 BK5.out 2).trans rfl; have hfd2 := Z24 BK5.out 2; have hcd3 := (Z23 BK5.out 3).trans rfl; have hfd3 := Z24 BK5.out 3; have hcd4 := (Z23 BK5.out 4).trans rfl; have hfd4 := Z24 BK5.out 4; have hcd5 := (Z23 BK5.out 5).trans rfl; have hfd5 := Z24 BK5.out 5; have hcb0 := (Z23 BK2.out 0).trans rfl; have hfb0 := Z24 BK2.out 0; have hcb1 := (Z23 BK2.out 1).trans rfl; have hfb1 := Z24 BK2.out 1; have hcb2 := (Z23 BK2.out 2).trans rfl; have hfb2 := Z24 BK2.out 2; have hcb3 := (Z23 BK2.out 3).trans rfl; have hfb3 := Z24 BK2.out 3; have hcb4 := (Z23 BK2.out 4).trans rfl; have hfb4 := Z24 BK2.out 4; have hcb5 := (Z23 BK2.out 5).trans rfl; have hfb5 := Z24 BK2.out 5))
   have hv := SwR.back HF.out
   rw [HL.out.1, HL.out.2.1, HL.out.2.2.1, HL.out.2.2.2.1, HL.out.2.2.2.2] at hv
   refine bodyPost_ret (results_ctt rfl _ _ gb2 35 #[.slice (some ⟨g0, 0, none⟩) b1.length e0, .slice (some ⟨g1, 0, none⟩) d1.length e1, .slice (some ⟨g2, 0, none⟩) u1.length e2, .slice (some ⟨g3, 0, none⟩) p1.length e3, .slice (some ⟨g4, 0, none⟩) it1.length e4, .slice (some ⟨g5, 0, none⟩) wh1.length e5] (0, 0) _ rfl (by have h_ := set6_at BK2.out (.slice (some ⟨g0, 0, none⟩) b1.length e0) (.slice (some ⟨g1, 0, none⟩) d1.length e1) (.slice (some ⟨g2, 0, none⟩) u1.length e2) (.slice (some ⟨g3, 0, none⟩) p1.length e3) (.slice (some ⟨g4, 0, none⟩) it1.length e4) (.slice (some ⟨g5, 0, none⟩) wh1.length e5); unfold set6 at h_; exact h_) hu rfl (by kernel_rfl)) rfl ?_
   have hbb := set6_below HB.out GE2.out (.slice (some ⟨g0, 0, none⟩) b1.length e0) (.slice (some ⟨g1, 0, none⟩) d1.length e1) (.slice (some ⟨g2, 0, none⟩) u1.length e2) (.slice (some ⟨g3, 0, none⟩) p1.length e3) (.slice (some ⟨g4, 0, none⟩) it1.length e4) (.slice (some ⟨g5, 0, none⟩) wh1.length e5)
   have hv2 := SwV.set6 hv BK2.out (by decide) (by decide) (.slice (some ⟨g0, 0, none⟩) b1.length e0) (.slice (some ⟨g1, 0, none⟩) d1.length e1) (.slice (some ⟨g2, 0, none⟩) u1.length e2) (.slice (some ⟨g3, 0, none⟩) p1.length e3) (.slice (some ⟨g4, 0, none⟩) it1.length e4) (.slice (some ⟨g5, 0, none⟩) wh1.length e5)
   unfold set6 at hbb hv2
   exact ⟨_, _, _, _, _, _, rfl, hv2.r0, hv2.r1, hv2.r2, hv2.r3, hv2.r4, hv2.r5, hbb⟩
def laws_FnExactStepSwapper.Fine (k : Nat) (b : List Int) (d : List Int) (u : List Bool) (p : List Int) (it : List Int) (wh : List Int) : Prop := ∃ t : Int, laws_szSwapper.f b d u p it wh 1048576 = some t ∧ (t < 0 ∨ 0 ≤ t ∧ laws_toSwapper.f k b d u p it wh = some (b, d, u, p, it, wh) ∧ laws_eqSwapper.f k b d u p it wh b d u p it wh = some true ∧ ∃ (rb : List Int) (rd_ : List Int) (ru : List Bool) (rp : List Int) (ri : List Int) (rw_ : List Int) (r : Int) (o : Bool) (mb : List Int) (md : List Int) (mu : List Bool) (mp : List Int) (mi : List Int) (mw : List Int) (sb : List Int) (sd : List Int) (su : List Bool) (sp : List Int) (si : List Int) (sw : List Int) (m1 m : Int), spec_StepSwapper.f k b d u p it wh = some (rb, rd_, ru, rp, ri, rw_, r, o) ∧ impl_StepSwapper.f k b d u p it wh = some (rb, rd_, ru, rp, ri, rw_, r, o) ∧ laws_eqSwapper.f k rb rd_ ru rp ri rw_ rb rd_ ru rp ri rw_ = some true ∧ laws_markSwapper.f k b d u p it wh 1 = some (m1, mb, md, mu, mp, mi, mw) ∧ 0 ≤ m1 ∧ laws_markSwapper.f k rb rd_ ru rp ri rw_ 1 = some (m, sb, sd, su, sp, si, sw) ∧ 0 ≤ m ∧ laws_heldSwapper.f k sb sd su sp si sw 1 = some m)
open Go.Proofs.Ytpfakdhfffehaaa.FoW Go.Proofs.Ytpfakdhfffehaaa.SwW Go.Proofs.Ytpfakdhfffehaaa.SwL Go.Proofs.Ytpfakdhfffehaaa.StpW in
theorem laws_FnExactStepSwapper.szS {w : World} {t : Int} {A0 A1 A2 A3 A4 A5 : Option Addr} {c0 c1 c2 c3 c4 c5 : Nat} {b : List Int} {d : List Int} {u : List Bool} {p : List Int} {it : List Int} {wh : List Int} (h : SwA w A0 A1 A2 A3 A4 A5 c0 c1 c2 c3 c4 c5 b d u p it wh) (hs : laws_szSwapper.f b d u p it wh 1048576 = some t) :
  Calls Try.prog 20 #[.agg #[.slice A0 b.length c0, .slice A1 d.length c1, .slice A2 u.length c2, .slice A3 p.length c3, .slice A4 it.length c4, .slice A5 wh.length c5], .int .i64 1048576] w fun e w' => e = .returned (.int .i64 t) ∧ Below w.heap.size w w' :=
 laws_szSwapper.calls _ _ b _ _ d _ _ u _ _ p _ _ it _ _ wh 1048576 t w (h).r0 (h).l0 (h).r1 (h).l1 (h).r2 (h).l2 (h).r3 (h).l3 (h).r4 (h).l4 (h).r5 (h).l5 hs
open Go.Proofs.Ytpfakdhfffehaaa.FoW Go.Proofs.Ytpfakdhfffehaaa.SwW Go.Proofs.Ytpfakdhfffehaaa.SwL Go.Proofs.Ytpfakdhfffehaaa.StpW in
theorem laws_FnExactStepSwapper.toS {k : Nat} {w : World} {A0 A1 A2 A3 A4 A5 : Option Addr} {c0 c1 c2 c3 c4 c5 : Nat} {b : List Int} {d : List Int} {u : List Bool} {p : List Int} {it : List Int} {wh : List Int} (h : SwA w A0 A1 A2 A3 A4 A5 c0 c1 c2 c3 c4 c5 b d u p it wh) (hs : laws_toSwapper.f k b d u p it wh = some (b, d, u, p, it, wh)) :
  Calls Try.prog 22 #[.agg #[.slice A0 b.length c0, .slice A1 d.length c1, .slice A2 u.length c2, .slice A3 p.length c3, .slice A4 it.length c4, .slice A5 wh.length c5]] w fun e w' => ∃ v0 v1 v2 v3 v4 v5 : Value, e = .returned (.agg #[v0, v1, v2, v3, v4, v5]) ∧ SwV w' w.heap.size v0 v1 v2 v3 v4 v5 b d u p it wh ∧ Below w.heap.size w w' :=
 (laws_toSwapper.calls k _ _ b _ _ d _ _ u _ _ p _ _ it _ _ wh b d u p it wh w (h).r0 (h).l0 (h).r1 (h).l1 (h).r2 (h).l2 (h).r3 (h).l3 (h).r4 (h).l4 (h).r5 (h).l5 hs).mono Q37
open Go.Proofs.Ytpfakdhfffehaaa.FoW Go.Proofs.Ytpfakdhfffehaaa.SwW Go.Proofs.Ytpfakdhfffehaaa.SwL Go.Proofs.Ytpfakdhfffehaaa.StpW in
theorem laws_FnExactStepSwapper.specS {k : Nat} {w : World} {r : Int} {o : Bool} {A0 A1 A2 A3 A4 A5 : Option Addr} {c0 c1 c2 c3 c4 c5 : Nat} {b : List Int} {d : List Int} {u : List Bool} {p : List Int} {it : List Int} {wh : List Int} {rb : List Int} {rd_ : List Int} {ru : List Bool} {rp : List Int} {ri : List Int} {rw_ : List Int} (h : SwA w A0 A1 A2 A3 A4 A5 c0 c1 c2 c3 c4 c5 b d u p it wh) (hs : spec_StepSwapper.f k b d u p it wh = some (rb, rd_, ru, rp, ri, rw_, r, o)) :
  Calls Try.prog 26 #[.agg #[.slice A0 b.length c0, .slice A1 d.length c1, .slice A2 u.length c2, .slice A3 p.length c3, .slice A4 it.length c4, .slice A5 wh.length c5]] w fun e w' => ∃ v0 v1 v2 v3 v4 v5 : Value, e = .returned (.tuple #[.agg #[v0, v1, v2, v3, v4, v5], .int .i64 r, .bool o]) ∧ SwV w' w.heap.size v0 v1 v2 v3 v4 v5 rb rd_ ru rp ri rw_ ∧ Below w.heap.size w w' :=
 (spec_StepSwapper.calls k _ _ b _ _ d _ _ u _ _ p _ _ it _ _ wh rb rd_ ru rp ri rw_ r o w (h).r0 (h).l0 (h).r1 (h).l1 (h).r2 (h).l2 (h).r3 (h).l3 (h).r4 (h).l4 (h).r5 (h).l5 hs).mono Q37
open Go.Proofs.Ytpfakdhfffehaaa.FoW Go.Proofs.Ytpfakdhfffehaaa.SwW Go.Proofs.Ytpfakdhfffehaaa.SwL Go.Proofs.Ytpfakdhfffehaaa.StpW in
theorem laws_FnExactStepSwapper.implS {k : Nat} {w : World} {r : Int} {o : Bool} {A0 A1 A2 A3 A4 A5 : Option Addr} {c0 c1 c2 c3 c4 c5 : Nat} {b : List Int} {d : List Int} {u : List Bool} {p : List Int} {it : List Int} {wh : List Int} {rb : List Int} {rd_ : List Int} {ru : List Bool} {rp : List Int} {ri : List Int} {rw_ : List Int} (h : SwA w A0 A1 A2 A3 A4 A5 c0 c1 c2 c3 c4 c5 b d u p it wh) (hs : impl_StepSwapper.f k b d u p it wh = some (rb, rd_, ru, rp, ri, rw_, r, o)) :
  Calls Try.prog 27 #[.agg #[.slice A0 b.length c0, .slice A1 d.length c1, .slice A2 u.length c2, .slice A3 p.length c3, .slice A4 it.length c4, .slice A5 wh.length c5]] w fun e w' => ∃ v0 v1 v2 v3 v4 v5 : Value, e = .returned (.tuple #[.agg #[v0, v1, v2, v3, v4, v5], .int .i64 r, .bool o]) ∧ SwV w' w.heap.size v0 v1 v2 v3 v4 v5 rb rd_ ru rp ri rw_ ∧ Below w.heap.size w w' :=
 (impl_StepSwapper.calls k _ _ b _ _ d _ _ u _ _ p _ _ it _ _ wh rb rd_ ru rp ri rw_ r o w (h).r0 (h).l0 (h).r1 (h).l1 (h).r2 (h).l2 (h).r3 (h).l3 (h).r4 (h).l4 (h).r5 (h).l5 hs).mono Q37
open Go.Proofs.Ytpfakdhfffehaaa.FoW Go.Proofs.Ytpfakdhfffehaaa.SwW Go.Proofs.Ytpfakdhfffehaaa.SwL Go.Proofs.Ytpfakdhfffehaaa.StpW in
theorem laws_FnExactStepSwapper.eqS {k : Nat} {w : World} {A0 A1 A2 A3 A4 A5 : Option Addr} {c0 c1 c2 c3 c4 c5 : Nat} {B0 B1 B2 B3 B4 B5 : Option Addr} {e0 e1 e2 e3 e4 e5 : Nat} {b : List Int} {d : List Int} {u : List Bool} {p : List Int} {it : List Int} {wh : List Int} (h1 : SwA w A0 A1 A2 A3 A4 A5 c0 c1 c2 c3 c4 c5 b d u p it wh) (h2 : SwA w B0 B1 B2 B3 B4 B5 e0 e1 e2 e3 e4 e5 b d u p it wh) (he : laws_eqSwapper.f k b d u p it wh b d u p it wh = some true) :
  Calls Try.prog 17 #[.agg #[.slice A0 b.length c0, .slice A1 d.length c1, .slice A2 u.length c2, .slice A3 p.length c3, .slice A4 it.length c4, .slice A5 wh.length c5], .agg #[.slice B0 b.length e0, .slice B1 d.length e1, .slice B2 u.length e2, .slice B3 p.length e3, .slice B4 it.length e4, .slice B5 wh.length e5]] w fun e w' => e = .returned (.bool true) ∧ Below w.heap.size w w' :=
 laws_eqSwapper.calls k _ _ b _ _ d _ _ u _ _ p _ _ it _ _ wh _ _ b _ _ d _ _ u _ _ p _ _ it _ _ wh true w (h1).r0 (h1).l0 (h1).r1 (h1).l1 (h1).r2 (h1).l2 (h1).r3 (h1).l3 (h1).r4 (h1).l4 (h1).r5 (h1).l5 (h2).r0 (h2).l0 (h2).r1 (h2).l1 (h2).r2 (h2).l2 (h2).r3 (h2).l3 (h2).r4 (h2).l4 (h2).r5 (h2).l5 he
open Go.Proofs.Ytpfakdhfffehaaa.FoW Go.Proofs.Ytpfakdhfffehaaa.SwW Go.Proofs.Ytpfakdhfffehaaa.SwL Go.Proofs.Ytpfakdhfffehaaa.StpW in
theorem laws_FnExactStepSwapper.heldS {k : Nat} {w : World} {s : Nat} {m : Int} {A0 A1 A2 A3 A4 A5 : Option Addr} {c0 c1 c2 c3 c4 c5 : Nat} {b : List Int} {d : List Int} {u : List Bool} {p : List Int} {it : List Int} {wh : List Int} {sb : List Int} {sd : List Int} {su : List Bool} {sp : List Int} {si : List Int} {sw : List Int} (h : SwC w s (.slice A0 b.length c0) (.slice A1 d.length c1) (.slice A2 u.length c2) (.slice A3 p.length c3) (.slice A4 it.length c4) (.slice A5 wh.length c5) sb sd su sp si sw) (hh : laws_heldSwapper.f k sb sd su sp si sw 1 = some m) :
  Calls Try.prog 19 #[.agg #[.slice A0 b.length c0, .slice A1 d.length c1, .slice A2 u.length c2, .slice A3 p.length c3, .slice A4 it.length c4, .slice A5 wh.length c5], .int .i64 1] w fun e w' => e = .returned (.int .i64 m) ∧ Below w.heap.size w w' := by
 rw [(Kd.R_reads' h.r0).1, (Kd.R_reads' h.r1).1, (Kd.R_reads' h.r2).1, (Kd.R_reads' h.r3).1, (Kd.R_reads' h.r4).1, (Kd.R_reads' h.r5).1]
 exact laws_heldSwapper.calls k _ _ sb _ _ sd _ _ su _ _ sp _ _ si _ _ sw 1 m w (Kd.R_reads' h.r0).2.2 (by have h_ := Kd.R_reads' h.r0; omega) (Kd.R_reads' h.r1).2.2 (by have h_ := Kd.R_reads' h.r1; omega) (Kd.R_reads' h.r2).2.2 (by have h_ := Kd.R_reads' h.r2; omega) (Kd.R_reads' h.r3).2.2 (by have h_ := Kd.R_reads' h.r3; omega) (Kd.R_reads' h.r4).2.2 (by have h_ := Kd.R_reads' h.r4; omega) (Kd.R_reads' h.r5).2.2 (by have h_ := Kd.R_reads' h.r5; omega) hh
open Go.Proofs.Ytpfakdhfffehaaa.FoW Go.Proofs.Ytpfakdhfffehaaa.SwW Go.Proofs.Ytpfakdhfffehaaa.SwL Go.Proofs.Ytpfakdhfffehaaa.StpW in
theorem laws_FnExactStepSwapper.markS {k : Nat} {w0 w : World} {m : Int} {v0 v1 v2 v3 v4 v5 : Value} {b : List Int} {d : List Int} {u : List Bool} {p : List Int} {it : List Int} {wh : List Int} {sb : List Int} {sd : List Int} {su : List Bool} {sp : List Int} {si : List Int} {sw : List Int} (hB : Below w0.heap.size w0 w) (h : SwV w w0.heap.size v0 v1 v2 v3 v4 v5 b d u p it wh) (hm : laws_markSwapper.f k b d u p it wh 1 = some (m, sb, sd, su, sp, si, sw)) :
  Calls Try.prog 18 #[.agg #[v0, v1, v2, v3, v4, v5], .int .i64 1] w fun e w' => e = .returned (.int .i64 m) ∧ SwC w' w0.heap.size v0 v1 v2 v3 v4 v5 sb sd su sp si sw ∧ Below w0.heap.size w0 w' ∧ Kept w w' (OwnS v0 v1 v2 v3 v4 v5) := by
 refine (laws_markSwapper.calls k (fun k_ => some k_ = v0.ownBlock) v0 b (fun k_ => some k_ = v1.ownBlock) v1 d (fun k_ => some k_ = v2.ownBlock) v2 u (fun k_ => some k_ = v3.ownBlock) v3 p (fun k_ => some k_ = v4.ownBlock) v4 it (fun k_ => some k_ = v5.ownBlock) v5 wh 1 m sb sd su sp si sw w0 w hB (Kd.R_tight rfl h.r0) (fun k_ h0_ h1_ => (h.r0.1 k_ h0_.symm).1 h1_) (fun k_ h0_ h1_ => (h.r0.1 k_ h0_.symm).2.1 h1_) (fun k_ h0_ h1_ => (h.r0.1 k_ h0_.symm).2.2.1 h1_) (fun k_ h0_ h1_ => (h.r0.1 k_ h0_.symm).2.2.2 h1_) (Kd.R_tight rfl h.r1) (fun k_ h0_ h1_ => (h.r1.1 k_ h0_.symm).1 h1_) (fun k_ h0_ h1_ => (h.r1.1 k_ h0_.symm).2.1 h1_) (fun k_ h0_ h1_ => (h.r1.1 k_ h0_.symm).2.2.1 h1_) (fun k_ h0_ h1_ => (h.r1.1 k_ h0_.symm).2.2.2 h1_) (Kd.R_tight rfl h.r2) (Kd.R_tight rfl h.r3) (fun k_ h0_ h1_ => (h.r3.1 k_ h0_.symm).1 h1_) (fun k_ h0_ h1_ => (h.r3.1 k_ h0_.symm).2.1 h1_) (fun k_ h0_ h1_ => (h.r3.1 k_ h0_.symm).2.2.1 h1_) (fun k_ h0_ h1_ => (h.r3.1 k_ h0_.symm).2.2.2 h1_) (Kd.R_tight rfl h.r4) (fun k_ h0_ h1_ => (h.r4.1 k_ h0_.symm).1 h1_) (fun k_ h0_ h1_ => (h.r4.1 k_ h0_.symm).2.1 h1_) (fun k_ h0_ h1_ => (h.r4.1 k_ h0_.symm).2.2.1 h1_) (fun k_ h0_ h1_ => (h.r4.1 k_ h0_.symm).2.2.2 h1_) (Kd.R_tight rfl h.r5) (fun k_ h0_ h1_ => (h.r5.1 k_ h0_.symm).1 h1_) (fun k_ h0_ h1_ => (h.r5.1 k_ h0_.symm).2.1 h1_) (fun k_ h0_ h1_ => (h.r5.1 k_ h0_.symm).2.2.1 h1_) (fun k_ h0_ h1_ => (h.r5.1 k_ h0_.symm).2.2.2 h1_) hm).mono ?_
 rintro e w' ⟨rfl, h0, h1, h2, h3, h4, h5, hb, hk⟩
 refine ⟨rfl, ⟨Z12 h0 (fun _ _ => trivial), Z12 h1 (fun _ _ => trivial), Z12 h2 (fun _ _ => trivial), Z12 h3 (fun _ _ => trivial), Z12 h4 (fun _ _ => trivial), Z12 h5 (fun _ _ => trivial)⟩, hb, hk.1, fun k_ hl_ hn_ => hk.2 k_ hl_ (fun hP_ => hn_ ?_)⟩
 rcases hP_ with e | e | e | e | e | e
 ·exact .inl e.symm
 ·exact .inr (.inl e.symm)
 ·exact .inr (.inr (.inl e.symm))
 ·exact .inr (.inr (.inr (.inl e.symm)))
 ·exact .inr (.inr (.inr (.inr (.inl e.symm))))
 ·exact .inr (.inr (.inr (.inr (.inr (e.symm)))))
open Go.Proofs.Ytpfakdhfffehaaa.FoW Go.Proofs.Ytpfakdhfffehaaa.SwW Go.Proofs.Ytpfakdhfffehaaa.SwL Go.Proofs.Ytpfakdhfffehaaa.StpW in
set_option maxHeartbeats 16000000 in
set_option maxRecDepth 100000 in
theorem laws_FnExactStepSwapper.calls (k : Nat) (A0 : Option Addr) (c0 : Nat) (b : List Int) (A1 : Option Addr) (c1 : Nat) (d : List Int) (A2 : Option Addr) (c2 : Nat) (u : List Bool) (A3 : Option Addr) (c3 : Nat) (p : List Int) (A4 : Option Addr) (c4 : Nat) (it : List Int) (A5 : Option Addr) (c5 : Nat) (wh : List Int) (w : World) (hr0 : Kd.C (Kd.int .i64) w A0 b.length b) (hc0 : b.length ≤ c0) (hr1 : Kd.C (Kd.int .i64) w A1 d.length d) (hc1 : d.length ≤ c1) (hr2 : Kd.C Kd.bool w A2 u.length u) (hc2 : u.length ≤ c2) (hr3 : Kd.C (Kd.int .i64) w A3 p.length p) (hc3 : p.length ≤ c3) (hr4 : Kd.C (Kd.int .i64) w A4 it.length it) (hc4 : it.length ≤ c4) (hr5 : Kd.C (Kd.int .i64) w A5 wh.length wh) (hc5 : wh.length ≤ c5) (h : laws_FnExactStepSwapper.Fine k b d u p it wh) :
  Calls Try.prog 7 #[.agg #[.slice A0 b.length c0, .slice A1 d.length c1, .slice A2 u.length c2, .slice A3 p.length c3, .slice A4 it.length c4, .slice A5 wh.length c5]] w fun e w' => e = .returned (.bool true) ∧ Below w.heap.size w w' := by
 obtain ⟨t, hz, h⟩ := h
 have HZ := Ya hz
 have HA : Aside0 (SwA w A0 A1 A2 A3 A4 A5 c0 c1 c2 c3 c4 c5 b d u p it wh) := ⟨hr0, hr1, hr2, hr3, hr4, hr5, hc0, hc1, hc2, hc3, hc4, hc5⟩
 clear hz
 have HB := Ya (Below.refl w.heap.size w)
 rcases h with ht | ⟨ht, hto, hqa, rb, rd_, ru, rp, ri, rw_, r, o, mb, md, mu, mp, mi, mw, sb, sd, su, sp, si, sw, m1, m, hs, hi, hq, hma, hm1, hmr, hm0, hh⟩
 ·have p0 : decide (t < 0) = true := Z38 ht
  go_enter Try.func7, Try.ntmps7
  go_wp2_with (first | ((with_reducible refine gate_dst (N := 1) rfl ?_); refine Yx 1 #[.slice A0 b.length c0, .slice A1 d.length c1, .slice A2 u.length c2, .slice A3 p.length c3, .slice A4 it.length c4, .slice A5 wh.length c5] 42 ?_; intro gBKa hg w_1 hbox hb; have MBKa := Ya (by rw [hg]; exact Z7 (HB.out) : w.heap.size ≤ gBKa); replace HB := Ya (Z8 (HB.out) hb); have BKa := Ya hbox; have GBKa := MBKa; clear MBKa; have hca0 := (Z23 BKa.out 0).trans rfl; have hca1 := (Z23 BKa.out 1).trans rfl; have hca2 := (Z23 BKa.out 2).trans rfl; have hca3 := (Z23 BKa.out 3).trans rfl; have hca4 := (Z23 BKa.out 4).trans rfl; have hca5 := (Z23 BKa.out 5).trans rfl; have hfa0 := Z24 BKa.out 0; have hfa1 := Z24 BKa.out 1; have hfa2 := Z24 BKa.out 2; have hfa3 := Z24 BKa.out 3; have hfa4 := Z24 BKa.out 4; have hfa5 := Z24 BKa.out 5; clear hb hbox hg) | ((with_reducible refine gate_callee (f := 20) rfl ?_); refine Yz 19 Try.func20 #[.agg #[.slice A0 b.length c0, .slice A1 d.length c1, .slice A2 u.length c2, .slice A3 p.length c3, .slice A4 it.length c4, .slice A5 wh.length c5], .int .i64 1048576] ?_ (hargs := Q17); (with_reducible refine (laws_FnExactStepSwapper.szS (SwA.below HA.out (HB.out)) HZ.out).mono ?_); rintro e wq ⟨rfl, hb⟩; refine ⟨_, rfl, ?_⟩; clear hca0 hfa0 hca1 hfa1 hca2 hfa2 hca3 hfa3 hca4 hfa4 hca5 hfa5; replace BKa := Ya (Z28 (BKa.out) hb); replace HB := Ya (Z8 (HB.out) hb); clear hb; have hca0 := (Z23 BKa.out 0).trans rfl; have hca1 := (Z23 BKa.out 1).trans rfl; have hca2 := (Z23 BKa.out 2).trans rfl; have hca3 := (Z23 BKa.out 3).trans rfl; have hca4 := (Z23 BKa.out 4).trans rfl; have hca5 := (Z23 BKa.out 5).trans rfl; have hfa0 := Z24 BKa.out 0; have hfa1 := Z24 BKa.out 1; have hfa2 := Z24 BKa.out 2; have hfa3 := Z24 BKa.out 3; have hfa4 := Z24 BKa.out 4; have hfa5 := Z24 BKa.out 5))
  go_ret
  exact ⟨rfl, Q0⟩
 ·have p0 : decide (t < 0) = false := Z37 (by omega)
  have p1 : decide (m1 < 0) = false := Z37 (by omega)
  have p2 : decide (m < 0) = false := Z37 (by omega)
  have HT := Ya hto
  have HQA := Ya hqa
  have HS := Ya hs
  have HI := Ya hi
  have HQ := Ya hq
  have HMA := Ya hma
  have HMR := Ya hmr
  have HH := Ya hh
  clear hto hqa hs hi hq hma hmr hh
  cases o <;>
  ·go_enter Try.func7, Try.ntmps7
   go_upto_region 8 with (first | ((with_reducible refine gate_dst (N := 1) rfl ?_); refine Yx 1 #[.slice A0 b.length c0, .slice A1 d.length c1, .slice A2 u.length c2, .slice A3 p.length c3, .slice A4 it.length c4, .slice A5 wh.length c5] 42 ?_; intro gBKa hg w_1 hbox hb; have MBKa := Ya (by rw [hg]; exact Z7 (HB.out) : w.heap.size ≤ gBKa); replace HB := Ya (Z8 (HB.out) hb); have BKa := Ya hbox; have GBKa := MBKa; clear MBKa; have hca0 := (Z23 BKa.out 0).trans rfl; have hca1 := (Z23 BKa.out 1).trans rfl; have hca2 := (Z23 BKa.out 2).trans rfl; have hca3 := (Z23 BKa.out 3).trans rfl; have hca4 := (Z23 BKa.out 4).trans rfl; have hca5 := (Z23 BKa.out 5).trans rfl; have hfa0 := Z24 BKa.out 0; have hfa1 := Z24 BKa.out 1; have hfa2 := Z24 BKa.out 2; have hfa3 := Z24 BKa.out 3; have hfa4 := Z24 BKa.out 4; have hfa5 := Z24 BKa.out 5; clear hb hbox hg) | ((with_reducible refine gate_callee (f := 20) rfl ?_); refine Yz 19 Try.func20 #[.agg #[.slice A0 b.length c0, .slice A1 d.length c1, .slice A2 u.length c2, .slice A3 p.length c3, .slice A4 it.length c4, .slice A5 wh.length c5], .int .i64 1048576] ?_ (hargs := Q17); (with_reducible refine (laws_FnExactStepSwapper.szS (SwA.below HA.out (HB.out)) HZ.out).mono ?_); rintro e wq ⟨rfl, hb⟩; refine ⟨_, rfl, ?_⟩; clear hca0 hfa0 hca1 hfa1 hca2 hfa2 hca3 hfa3 hca4 hfa4 hca5 hfa5; replace BKa := Ya (Z28 (BKa.out) hb); replace HB := Ya (Z8 (HB.out) hb); clear hb; have hca0 := (Z23 BKa.out 0).trans rfl; have hca1 := (Z23 BKa.out 1).trans rfl; have hca2 := (Z23 BKa.out 2).trans rfl; have hca3 := (Z23 BKa.out 3).trans rfl; have hca4 := (Z23 BKa.out 4).trans rfl; have hca5 := (Z23 BKa.out 5).trans rfl; have hfa0 := Z24 BKa.out 0; have hfa1 := Z24 BKa.out 1; have hfa2 := Z24 BKa.out 2; have hfa3 := Z24 BKa.out 3; have hfa4 := Z24 BKa.out 4; have hfa5 := Z24 BKa.out 5) | ((with_reducible refine gate_callee (f := 22) rfl ?_); refine Yz 24 Try.func22 #[.agg #[.slice A0 b.length c0, .slice A1 d.length c1, .slice A2 u.length c2, .slice A3 p.length c3, .slice A4 it.length c4, .slice A5 wh.length c5]] ?_ (hargs := Q17); (with_reducible refine (laws_FnExactStepSwapper.toS (SwA.below HA.out (HB.out)) HT.out).mono ?_); rintro e wq ⟨v0, v1, v2, v3, v4, v5, rfl, hv, hb⟩; refine ⟨_, rfl, ?_⟩; clear hca0 hfa0 hca1 hfa1 hca2 hfa2 hca3 hfa3 hca4 hfa4 hca5 hfa5; have HVt : Aside0 (SwV wq w.heap.size v0 v1 v2 v3 v4 v5 b d u p it wh) := ⟨SwV.lower hv (Z7 (HB.out))⟩; replace BKa := Ya (Z28 (BKa.out) hb); replace HB := Ya (Z8 (HB.out) hb); obtain ⟨T0, l0, T1, l1, T2, l2, T3, l3, T4, l4, T5, l5, q0, q1, q2, q3, q4, q5⟩ := SwV.slices hv; subst q0 q1 q2 q3 q4 q5; clear hv hb) | ((with_reducible refine gate_callee (f := 26) rfl ?_); refine Yz 25 Try.func26 #[.agg #[.slice T0 b.length l0, .slice T1 d.length l1, .slice T2 u.length l2, .slice T3 p.length l3, .slice T4 it.length l4, .slice T5 wh.length l5]] ?_ (hargs := Q17); (with_reducible refine (laws_FnExactStepSwapper.specS (SwC.toA (SwV.weak (HVt.out))) HS.out).mono ?_); rintro e wq ⟨v0, v1, v2, v3, v4, v5, rfl, hv, hb⟩; refine ⟨_, rfl, ?_⟩; have HVw : Aside0 (SwC wq w.heap.size v0 v1 v2 v3 v4 v5 rb rd_ ru rp ri rw_) := ⟨SwV.weak (SwV.lower hv (Z7 (HB.out)))⟩; replace BKa := Ya (Z28 (BKa.out) hb); replace HB := Ya (Z8 (HB.out) hb); clear HVt; obtain ⟨W0, e0, W1, e1, W2, e2, W3, e3, W4, e4, W5, e5, q0, q1, q2, q3, q4, q5⟩ := SwV.slices hv; subst q0 q1 q2 q3 q4 q5; clear hv hb) | ((with_reducible refine gate_dst (N := 4) rfl ?_); refine Yx 4 YN6 35 ?_; intro gBKw hg w_4 hbox hb; have MBKw := Ya (by rw [hg]; exact Z7 (HB.out) : w.heap.size ≤ gBKw); have NBKaBKw := Ya (by rw [hg]; exact Nat.ne_of_lt (blk_lt (BKa.out)) : gBKa ≠ gBKw); replace HVw := Ya (SwC.below (HVw.out) hb); replace BKa := Ya (Z28 (BKa.out) hb); replace HB := Ya (Z8 (HB.out) hb); have BKw := Ya hbox; have GBKw := MBKw; clear MBKw; have hnBKaBKw := NBKaBKw.out; have hoBKaBKw := NBKaBKw.out.symm; have hcw0 := (Z23 BKw.out 0).trans rfl; have hcw1 := (Z23 BKw.out 1).trans rfl; have hcw2 := (Z23 BKw.out 2).trans rfl; have hcw3 := (Z23 BKw.out 3).trans rfl; have hcw4 := (Z23 BKw.out 4).trans rfl; have hcw5 := (Z23 BKw.out 5).trans rfl; have hfw0 := Z24 BKw.out 0; have hfw1 := Z24 BKw.out 1; have hfw2 := Z24 BKw.out 2; have hfw3 := Z24 BKw.out 3; have hfw4 := Z24 BKw.out 4; have hfw5 := Z24 BKw.out 5; have hca0 := (Z23 BKa.out 0).trans rfl; have hca1 := (Z23 BKa.out 1).trans rfl; have hca2 := (Z23 BKa.out 2).trans rfl; have hca3 := (Z23 BKa.out 3).trans rfl; have hca4 := (Z23 BKa.out 4).trans rfl; have hca5 := (Z23 BKa.out 5).trans rfl; have hfa0 := Z24 BKa.out 0; have hfa1 := Z24 BKa.out 1; have hfa2 := Z24 BKa.out 2; have hfa3 := Z24 BKa.out 3; have hfa4 := Z24 BKa.out 4; have hfa5 := Z24 BKa.out 5; clear hb hbox hg) | ((with_reducible refine gate_callee (f := 22) rfl ?_); refine Yz 30 Try.func22 #[.agg #[.slice A0 b.length c0, .slice A1 d.length c1, .slice A2 u.length c2, .slice A3 p.length c3, .slice A4 it.length c4, .slice A5 wh.length c5]] ?_ (hargs := Q17); have z_HVw := SwC.set6 HVw.out BKw.out (by decide) (by decide) (.slice W0 rb.length e0) (.slice W1 rd_.length e1) (.slice W2 ru.length e2) (.slice W3 rp.length e3) (.slice W4 ri.length e4) (.slice W5 rw_.length e5); have z_BKa := (set6_far _ gBKw (.slice W0 rb.length e0) (.slice W1 rd_.length e1) (.slice W2 ru.length e2) (.slice W3 rp.length e3) (.slice W4 ri.length e4) (.slice W5 rw_.length e5) gBKa NBKaBKw.out).trans BKa.out; have z_BKw := set6_at BKw.out (.slice W0 rb.length e0) (.slice W1 rd_.length e1) (.slice W2 ru.length e2) (.slice W3 rp.length e3) (.slice W4 ri.length e4) (.slice W5 rw_.length e5); have z_HB := set6_below HB.out GBKw.out (.slice W0 rb.length e0) (.slice W1 rd_.length e1) (.slice W2 ru.length e2) (.slice W3 rp.length e3) (.slice W4 ri.length e4) (.slice W5 rw_.length e5); unfold set6 at z_HVw z_BKa z_BKw z_HB; (with_reducible refine (laws_FnExactStepSwapper.toS (SwA.below HA.out (z_HB)) HT.out).mono ?_); rintro e wq ⟨v0, v1, v2, v3, v4, v5, rfl, hv, hb⟩; refine ⟨_, rfl, ?_⟩; clear hca0 hfa0 hca1 hfa1 hca2 hfa2 hca3 hfa3 hca4 hfa4 hca5 hfa5; clear hcw0 hfw0 hcw1 hfw1 hcw2 hfw2 hcw3 hfw3 hcw4 hfw4 hcw5 hfw5; have LWx := Ya (SwC.lt (z_HVw)); have GEx := Ya (SwC.ge (SwV.weak hv)); have HVx : Aside0 (SwV wq w.heap.size v0 v1 v2 v3 v4 v5 b d u p it wh) := ⟨SwV.lower hv (Z7 (z_HB))⟩; replace HVw := Ya (SwC.below (z_HVw) hb); replace BKa := Ya (Z28 (z_BKa) hb); replace BKw := Ya (Z28 (z_BKw) hb); replace HB := Ya (Z8 (z_HB) hb); clear z_HVw z_BKa z_BKw z_HB; obtain ⟨X0, f0, X1, f1, X2, f2, X3, f3, X4, f4, X5, f5, q0, q1, q2, q3, q4, q5⟩ := SwV.slices hv; subst q0 q1 q2 q3 q4 q5; clear hv hb) | ((with_reducible refine gate_dst (N := 7) rfl ?_); refine Yx 7 YN6 35 ?_; intro gBKx hg w_7 hbox hb; have MBKx := Ya (by rw [hg]; exact Z7 (HB.out) : w.heap.size ≤ gBKx); have NBKaBKx := Ya (by rw [hg]; exact Nat.ne_of_lt (blk_lt (BKa.out)) : gBKa ≠ gBKx); have NBKwBKx := Ya (by rw [hg]; exact Nat.ne_of_lt (blk_lt (BKw.out)) : gBKw ≠ gBKx); replace HVw := Ya (SwC.below (HVw.out) hb); replace HVx := Ya (SwV.below (HVx.out) hb); replace BKa := Ya (Z28 (BKa.out) hb); replace BKw := Ya (Z28 (BKw.out) hb); replace HB := Ya (Z8 (HB.out) hb); have BKx := Ya hbox; have GBKx := MBKx; clear MBKx; have hnBKaBKx := NBKaBKx.out; have hoBKaBKx := NBKaBKx.out.symm; have hnBKwBKx := NBKwBKx.out; have hoBKwBKx := NBKwBKx.out.symm; have hcx0 := (Z23 BKx.out 0).trans rfl; have hcx1 := (Z23 BKx.out 1).trans rfl; have hcx2 := (Z23 BKx.out 2).trans rfl; have hcx3 := (Z23 BKx.out 3).trans rfl; have hcx4 := (Z23 BKx.out 4).trans rfl; have hcx5 := (Z23 BKx.out 5).trans rfl; have hfx0 := Z24 BKx.out 0; have hfx1 := Z24 BKx.out 1; have hfx2 := Z24 BKx.out 2; have hfx3 := Z24 BKx.out 3; have hfx4 := Z24 BKx.out 4; have hfx5 := Z24 BKx.out 5; clear hb hbox hg) | ((with_reducible refine gate_callee (f := 27) rfl ?_); refine Yz 33 Try.func27 #[.agg #[.slice X0 b.length f0, .slice X1 d.length f1, .slice X2 u.length f2, .slice X3 p.length f3, .slice X4 it.length f4, .slice X5 wh.length f5]] ?_ (hargs := Q17); have z_HVw := SwC.set6 HVw.out BKx.out (by decide) (by decide) (.slice X0 b.length f0) (.slice X1 d.length f1) (.slice X2 u.length f2) (.slice X3 p.length f3) (.slice X4 it.length f4) (.slice X5 wh.length f5); have z_HVx := SwV.set6 HVx.out BKx.out (by decide) (by decide) (.slice X0 b.length f0) (.slice X1 d.length f1) (.slice X2 u.length f2) (.slice X3 p.length f3) (.slice X4 it.length f4) (.slice X5 wh.length f5); have z_BKa := (set6_far _ gBKx (.slice X0 b.length f0) (.slice X1 d.length f1) (.slice X2 u.length f2) (.slice X3 p.length f3) (.slice X4 it.length f4) (.slice X5 wh.length f5) gBKa NBKaBKx.out).trans BKa.out; have z_BKw := (set6_far _ gBKx (.slice X0 b.length f0) (.slice X1 d.length f1) (.slice X2 u.length f2) (.slice X3 p.length f3) (.slice X4 it.length f4) (.slice X5 wh.length f5) gBKw NBKwBKx.out).trans BKw.out; have z_BKx := set6_at BKx.out (.slice X0 b.length f0) (.slice X1 d.length f1) (.slice X2 u.length f2) (.slice X3 p.length f3) (.slice X4 it.length f4) (.slice X5 wh.length f5); have z_HB := set6_below HB.out GBKx.out (.slice X0 b.length f0) (.slice X1 d.length f1) (.slice X2 u.length f2) (.slice X3 p.length f3) (.slice X4 it.length f4) (.slice X5 wh.length f5); unfold set6 at z_HVw z_HVx z_BKa z_BKw z_BKx z_HB; (with_reducible refine (laws_FnExactStepSwapper.implS (SwC.toA (SwV.weak (z_HVx))) HI.out).mono ?_); rintro e wq ⟨v0, v1, v2, v3, v4, v5, rfl, hv, hb⟩; refine ⟨_, rfl, ?_⟩; clear hcx0 hfx0 hcx1 hfx1 hcx2 hfx2 hcx3 hfx3 hcx4 hfx4 hcx5 hfx5; have LXg := Ya (SwV.lt (z_HVx)); have LWg := Ya (SwC.lt (z_HVw)); have GEg := Ya (SwC.ge (SwV.weak hv)); have HVg : Aside0 (SwV wq w.heap.size v0 v1 v2 v3 v4 v5 rb rd_ ru rp ri rw_) := ⟨SwV.lower hv (Z7 (z_HB))⟩; replace HVw := Ya (SwC.below (z_HVw) hb); replace HVx := Ya (SwV.below (z_HVx) hb); replace BKa := Ya (Z28 (z_BKa) hb); replace BKw := Ya (Z28 (z_BKw) hb); replace BKx := Ya (Z28 (z_BKx) hb); replace HB := Ya (Z8 (z_HB) hb); clear z_HVw z_HVx z_BKa z_BKw z_BKx z_HB; obtain ⟨G0, i0, G1, i1, G2, i2, G3, i3, G4, i4, G5, i5, q0, q1, q2, q3, q4, q5⟩ := SwV.slices hv; subst q0 q1 q2 q3 q4 q5; clear hv hb) | ((with_reducible refine gate_dst (N := 8) rfl ?_); refine Yx 8 YN6 35 ?_; intro gBKg hg w_8 hbox hb; have MBKg := Ya (by rw [hg]; exact Z7 (HB.out) : w.heap.size ≤ gBKg); have NBKaBKg := Ya (by rw [hg]; exact Nat.ne_of_lt (blk_lt (BKa.out)) : gBKa ≠ gBKg); have NBKwBKg := Ya (by rw [hg]; exact Nat.ne_of_lt (blk_lt (BKw.out)) : gBKw ≠ gBKg); have NBKxBKg := Ya (by rw [hg]; exact Nat.ne_of_lt (blk_lt (BKx.out)) : gBKx ≠ gBKg); replace HVw := Ya (SwC.below (HVw.out) hb); replace HVx := Ya (SwV.below (HVx.out) hb); replace HVg := Ya (SwV.below (HVg.out) hb); replace BKa := Ya (Z28 (BKa.out) hb); replace BKw := Ya (Z28 (BKw.out) hb); replace BKx := Ya (Z28 (BKx.out) hb); replace HB := Ya (Z8 (HB.out) hb); have BKg := Ya hbox; have GBKg := MBKg; clear MBKg; have hnBKaBKg := NBKaBKg.out; have hoBKaBKg := NBKaBKg.out.symm; have hnBKwBKg := NBKwBKg.out; have hoBKwBKg := NBKwBKg.out.symm; have hnBKxBKg := NBKxBKg.out; have hoBKxBKg := NBKxBKg.out.symm; have hcg0 := (Z23 BKg.out 0).trans rfl; have hcg1 := (Z23 BKg.out 1).trans rfl; have hcg2 := (Z23 BKg.out 2).trans rfl; have hcg3 := (Z23 BKg.out 3).trans rfl; have hcg4 := (Z23 BKg.out 4).trans rfl; have hcg5 := (Z23 BKg.out 5).trans rfl; have hfg0 := Z24 BKg.out 0; have hfg1 := Z24 BKg.out 1; have hfg2 := Z24 BKg.out 2; have hfg3 := Z24 BKg.out 3; have hfg4 := Z24 BKg.out 4; have hfg5 := Z24 BKg.out 5; have hcw0 := (Z23 BKw.out 0).trans rfl; have hcw1 := (Z23 BKw.out 1).trans rfl; have hcw2 := (Z23 BKw.out 2).trans rfl; have hcw3 := (Z23 BKw.out 3).trans rfl; have hcw4 := (Z23 BKw.out 4).trans rfl; have hcw5 := (Z23 BKw.out 5).trans rfl; have hfw0 := Z24 BKw.out 0; have hfw1 := Z24 BKw.out 1; have hfw2 := Z24 BKw.out 2; have hfw3 := Z24 BKw.out 3; have hfw4 := Z24 BKw.out 4; have hfw5 := Z24 BKw.out 5; clear hb hbox hg))
   go_wp2_with fail
   have z_HVw := SwC.set6 HVw.out BKg.out (by decide) (by decide) (.slice G0 rb.length i0) (.slice G1 rd_.length i1) (.slice G2 ru.length i2) (.slice G3 rp.length i3) (.slice G4 ri.length i4) (.slice G5 rw_.length i5)
   have z_HVx := SwV.set6 HVx.out BKg.out (by decide) (by decide) (.slice G0 rb.length i0) (.slice G1 rd_.length i1) (.slice G2 ru.length i2) (.slice G3 rp.length i3) (.slice G4 ri.length i4) (.slice G5 rw_.length i5)
   have z_HVg := SwV.set6 HVg.out BKg.out (by decide) (by decide) (.slice G0 rb.length i0) (.slice G1 rd_.length i1) (.slice G2 ru.length i2) (.slice G3 rp.length i3) (.slice G4 ri.length i4) (.slice G5 rw_.length i5)
   have z_BKa := (set6_far _ gBKg (.slice G0 rb.length i0) (.slice G1 rd_.length i1) (.slice G2 ru.length i2) (.slice G3 rp.length i3) (.slice G4 ri.length i4) (.slice G5 rw_.length i5) gBKa NBKaBKg.out).trans BKa.out
   have z_BKw := (set6_far _ gBKg (.slice G0 rb.length i0) (.slice G1 rd_.length i1) (.slice G2 ru.length i2) (.slice G3 rp.length i3) (.slice G4 ri.length i4) (.slice G5 rw_.length i5) gBKw NBKwBKg.out).trans BKw.out
   have z_BKx := (set6_far _ gBKg (.slice G0 rb.length i0) (.slice G1 rd_.length i1) (.slice G2 ru.length i2) (.slice G3 rp.length i3) (.slice G4 ri.length i4) (.slice G5 rw_.length i5) gBKx NBKxBKg.out).trans BKx.out
   have z_BKg := set6_at BKg.out (.slice G0 rb.length i0) (.slice G1 rd_.length i1) (.slice G2 ru.length i2) (.slice G3 rp.length i3) (.slice G4 ri.length i4) (.slice G5 rw_.length i5)
   have z_HB := set6_below HB.out GBKg.out (.slice G0 rb.length i0) (.slice G1 rd_.length i1) (.slice G2 ru.length i2) (.slice G3 rp.length i3) (.slice G4 ri.length i4) (.slice G5 rw_.length i5)
   unfold set6 at z_HVw z_HVx z_HVg z_BKa z_BKw z_BKx z_BKg z_HB
   refine (laws_FnExactStepSwapper.eqS (SwC.toA (SwV.weak (z_HVg))) (SwC.toA (z_HVw)) HQ.out).mono ?_
   rintro e w10 ⟨rfl, hb⟩
   clear hcg0 hfg0 hcg1 hfg1 hcg2 hfg2 hcg3 hfg3 hcg4 hfg4 hcg5 hfg5
   clear hcw0 hfw0 hcw1 hfw1 hcw2 hfw2 hcw3 hfw3 hcw4 hfw4 hcw5 hfw5
   replace HVw := Ya (SwC.below (z_HVw) hb)
   replace HVx := Ya (SwV.below (z_HVx) hb)
   replace HVg := Ya (SwV.below (z_HVg) hb)
   replace BKa := Ya (Z28 (z_BKa) hb)
   replace BKw := Ya (Z28 (z_BKw) hb)
   replace BKx := Ya (Z28 (z_BKx) hb)
   replace BKg := Ya (Z28 (z_BKg) hb)
   replace HB := Ya (Z8 (z_HB) hb)
   clear z_HVw z_HVx z_HVg z_BKa z_BKw z_BKx z_BKg z_HB
   clear hb
   go_wp2_with fail
   replace HVw := Ya (SwC.drew HVw.out)
   replace HVx := Ya (SwV.drew HVx.out)
   replace HVg := Ya (SwV.drew HVg.out)
   replace BKa := Ya (Z26 BKa.out)
   replace BKw := Ya (Z26 BKw.out)
   replace BKx := Ya (Z26 BKx.out)
   replace BKg := Ya (Z26 BKg.out)
   replace HB := Ya (Z4 HB.out)
   refine start_ (n := 5) (S := fun w' => w'.cell? ⟨gBKx, 0, none⟩ = some (.slice X0 b.length f0) ∧ w'.cell? ⟨gBKx, 1, none⟩ = some (.slice X1 d.length f1) ∧ w'.cell? ⟨gBKx, 2, none⟩ = some (.slice X2 u.length f2) ∧ w'.cell? ⟨gBKx, 3, none⟩ = some (.slice X3 p.length f3) ∧ w'.cell? ⟨gBKx, 4, none⟩ = some (.slice X4 it.length f4) ∧ w'.cell? ⟨gBKx, 5, none⟩ = some (.slice X5 wh.length f5) ∧ w'.cell? ⟨gBKa, 0, none⟩ = some (.slice A0 b.length c0) ∧ w'.cell? ⟨gBKa, 1, none⟩ = some (.slice A1 d.length c1) ∧ w'.cell? ⟨gBKa, 2, none⟩ = some (.slice A2 u.length c2) ∧ w'.cell? ⟨gBKa, 3, none⟩ = some (.slice A3 p.length c3) ∧ w'.cell? ⟨gBKa, 4, none⟩ = some (.slice A4 it.length c4) ∧ w'.cell? ⟨gBKa, 5, none⟩ = some (.slice A5 wh.length c5)) (ds := []) #[false, false, false, false, false] (by kernel_rfl) rfl rfl ⟨(Z23 BKx.out 0).trans rfl, (Z23 BKx.out 1).trans rfl, (Z23 BKx.out 2).trans rfl, (Z23 BKx.out 3).trans rfl, (Z23 BKx.out 4).trans rfl, (Z23 BKx.out 5).trans rfl, Yz6 BKa.out⟩ (fun hHeld => ?_)
   generalize World.drew _ = w11 at HVw HVx HVg BKa BKw BKx BKg HB hHeld ⊢
   refine Ys 0 (some 51) #[true, false, false, false, false] rfl hHeld Q15 ?_
   refine Ys 1 (some 52) #[true, true, false, false, false] rfl hHeld Q15 ?_
   refine one_ (i := 2) (N := some 53) #[true, true, true, false, false] rfl rfl (by kernel_rfl) (by decide) (fun K hK => ?_)
   refine goes_ Try.func22 (by kernel_rfl) rfl #[.agg #[.slice A0 b.length c0, .slice A1 d.length c1, .slice A2 u.length c2, .slice A3 p.length c3, .slice A4 it.length c4, .slice A5 wh.length c5]] (by rfl) rfl rfl Q40 ?_
   with_reducible refine (laws_FnExactStepSwapper.toS (SwA.below HA.out (HB.out)) HT.out).mono ?_
   rintro e wq ⟨v0, v1, v2, v3, v4, v5, rfl, hv, hb⟩
   refine ⟨_, rfl, ?_⟩
   have HVy : Aside0 (SwV wq w.heap.size v0 v1 v2 v3 v4 v5 b d u p it wh) := ⟨SwV.lower hv (Z7 (HB.out))⟩
   replace HVw := Ya (SwC.below (HVw.out) hb)
   replace HVx := Ya (SwV.below (HVx.out) hb)
   replace HVg := Ya (SwV.below (HVg.out) hb)
   replace BKa := Ya (Z28 (BKa.out) hb)
   replace BKw := Ya (Z28 (BKw.out) hb)
   replace BKx := Ya (Z28 (BKx.out) hb)
   replace BKg := Ya (Z28 (BKg.out) hb)
   replace HB := Ya (Z8 (HB.out) hb)
   obtain ⟨V0, s0, V1, s1, V2, s2, V3, s3, V4, s4, V5, s5, q0, q1, q2, q3, q4, q5⟩ := SwV.slices hv
   subst q0 q1 q2 q3 q4 q5
   clear hv hb
   refine hK.out _ _ ⟨(Z23 BKx.out 0).trans rfl, (Z23 BKx.out 1).trans rfl, (Z23 BKx.out 2).trans rfl, (Z23 BKx.out 3).trans rfl, (Z23 BKx.out 4).trans rfl, (Z23 BKx.out 5).trans rfl, Yz6 BKa.out⟩ (fun hHeld => ?_)
   clear hK K
   refine norm_ (a' := ?_) ?_ ?_
   rotate_left
   ·show Act.put _ (some 53) _ = _
    simp only [Act.put, Z0, Z1, Z2, i64_w, i32_w]
    rfl
   refine one_ (i := 3) (N := some 54) #[true, true, true, true, false] rfl rfl (by kernel_rfl) (by decide) (fun K hK => ?_)
   refine goes_ Try.func17 (by kernel_rfl) rfl #[.agg #[.slice X0 b.length f0, .slice X1 d.length f1, .slice X2 u.length f2, .slice X3 p.length f3, .slice X4 it.length f4, .slice X5 wh.length f5], .agg #[.slice V0 b.length s0, .slice V1 d.length s1, .slice V2 u.length s2, .slice V3 p.length s3, .slice V4 it.length s4, .slice V5 wh.length s5]] (by rfl) rfl rfl Q40 ?_
   with_reducible refine (laws_FnExactStepSwapper.eqS (SwC.toA (SwV.weak (HVx.out))) (SwC.toA (SwV.weak (HVy.out))) HQA.out).mono ?_
   rintro e wq ⟨rfl, hb⟩
   refine ⟨_, rfl, ?_⟩
   replace HVw := Ya (SwC.below (HVw.out) hb)
   replace HVx := Ya (SwV.below (HVx.out) hb)
   replace HVg := Ya (SwV.below (HVg.out) hb)
   replace BKa := Ya (Z28 (BKa.out) hb)
   replace BKw := Ya (Z28 (BKw.out) hb)
   replace BKx := Ya (Z28 (BKx.out) hb)
   replace BKg := Ya (Z28 (BKg.out) hb)
   replace HB := Ya (Z8 (HB.out) hb)
   clear HVy
   clear hb
   refine hK.out _ _ ⟨(Z23 BKx.out 0).trans rfl, (Z23 BKx.out 1).trans rfl, (Z23 BKx.out 2).trans rfl, (Z23 BKx.out 3).trans rfl, (Z23 BKx.out 4).trans rfl, (Z23 BKx.out 5).trans rfl, Yz6 BKa.out⟩ (fun hHeld => ?_)
   clear hK K
   refine norm_ (a' := ?_) ?_ ?_
   rotate_left
   ·show Act.put _ (some 54) _ = _
    simp only [Act.put, Z0, Z1, Z2, i64_w, i32_w]
    rfl
   refine Yq 4 (some 55) #[true, true, true, true, true] rfl ?_
   refine done_ (by kernel_rfl) ?_
   have hcx0 := (Z23 BKx.out 0).trans rfl
   have hcx1 := (Z23 BKx.out 1).trans rfl
   have hcx2 := (Z23 BKx.out 2).trans rfl
   have hcx3 := (Z23 BKx.out 3).trans rfl
   have hcx4 := (Z23 BKx.out 4).trans rfl
   have hcx5 := (Z23 BKx.out 5).trans rfl
   have hfx0 := Z24 BKx.out 0
   have hfx1 := Z24 BKx.out 1
   have hfx2 := Z24 BKx.out 2
   have hfx3 := Z24 BKx.out 3
   have hfx4 := Z24 BKx.out 4
   have hfx5 := Z24 BKx.out 5
   go_wp2_with fail
   refine (laws_FnExactStepSwapper.markS HB.out HVx.out HMA.out).mono ?_
   rintro e w12 ⟨rfl, hC, hb, hk⟩
   clear hcx0 hfx0 hcx1 hfx1 hcx2 hfx2 hcx3 hfx3 hcx4 hfx4 hcx5 hfx5
   replace HVw := Ya (SwC.kept HVw.out hk (fun k_ h1_ h2_ => Nat.not_lt.2 (GEx.out k_ h2_) (LWx.out k_ h1_)))
   replace HVg := Ya (SwV.kept HVg.out hk (fun k_ h1_ h2_ => Nat.not_lt.2 (GEg.out k_ h1_) (LXg.out k_ h2_)))
   replace BKa := Ya (blk_kept BKa.out hk (fun hs_ => SwV.apart HVx.out BKa.out (by decide) (by decide) _ hs_ rfl))
   replace BKw := Ya (blk_kept BKw.out hk (fun hs_ => SwV.apart HVx.out BKw.out (by decide) (by decide) _ hs_ rfl))
   replace BKx := Ya (blk_kept BKx.out hk (fun hs_ => SwV.apart HVx.out BKx.out (by decide) (by decide) _ hs_ rfl))
   replace BKg := Ya (blk_kept BKg.out hk (fun hs_ => SwV.apart HVx.out BKg.out (by decide) (by decide) _ hs_ rfl))
   replace HB := Ya hb
   clear HVx
   clear hb hk hC
   have hcg0 := (Z23 BKg.out 0).trans rfl
   have hcg1 := (Z23 BKg.out 1).trans rfl
   have hcg2 := (Z23 BKg.out 2).trans rfl
   have hcg3 := (Z23 BKg.out 3).trans rfl
   have hcg4 := (Z23 BKg.out 4).trans rfl
   have hcg5 := (Z23 BKg.out 5).trans rfl
   have hfg0 := Z24 BKg.out 0
   have hfg1 := Z24 BKg.out 1
   have hfg2 := Z24 BKg.out 2
   have hfg3 := Z24 BKg.out 3
   have hfg4 := Z24 BKg.out 4
   have hfg5 := Z24 BKg.out 5
   have hcw0 := (Z23 BKw.out 0).trans rfl
   have hcw1 := (Z23 BKw.out 1).trans rfl
   have hcw2 := (Z23 BKw.out 2).trans rfl
   have hcw3 := (Z23 BKw.out 3).trans rfl
   have hcw4 := (Z23 BKw.out 4).trans rfl
   have hcw5 := (Z23 BKw.out 5).trans rfl
   have hfw0 := Z24 BKw.out 0
   have hfw1 := Z24 BKw.out 1
   have hfw2 := Z24 BKw.out 2
   have hfw3 := Z24 BKw.out 3
   have hfw4 := Z24 BKw.out 4
   have hfw5 := Z24 BKw.out 5
   go_wp2_with fail
   refine (laws_FnExactStepSwapper.eqS (SwC.toA (SwV.weak (HVg.out))) (SwC.toA (HVw.out)) HQ.out).mono ?_
   rintro e w13 ⟨rfl, hb⟩
   clear hcg0 hfg0 hcg1 hfg1 hcg2 hfg2 hcg3 hfg3 hcg4 hfg4 hcg5 hfg5
   clear hcw0 hfw0 hcw1 hfw1 hcw2 hfw2 hcw3 hfw3 hcw4 hfw4 hcw5 hfw5
   replace HVw := Ya (SwC.below (HVw.out) hb)
   replace HVg := Ya (SwV.below (HVg.out) hb)
   replace BKa := Ya (Z28 (BKa.out) hb)
   replace BKw := Ya (Z28 (BKw.out) hb)
   replace BKx := Ya (Z28 (BKx.out) hb)
   replace BKg := Ya (Z28 (BKg.out) hb)
   replace HB := Ya (Z8 (HB.out) hb)
   clear hb
   have hcg0 := (Z23 BKg.out 0).trans rfl
   have hcg1 := (Z23 BKg.out 1).trans rfl
   have hcg2 := (Z23 BKg.out 2).trans rfl
   have hcg3 := (Z23 BKg.out 3).trans rfl
   have hcg4 := (Z23 BKg.out 4).trans rfl
   have hcg5 := (Z23 BKg.out 5).trans rfl
   have hfg0 := Z24 BKg.out 0
   have hfg1 := Z24 BKg.out 1
   have hfg2 := Z24 BKg.out 2
   have hfg3 := Z24 BKg.out 3
   have hfg4 := Z24 BKg.out 4
   have hfg5 := Z24 BKg.out 5
   go_wp2_with fail
   refine (laws_FnExactStepSwapper.markS HB.out HVg.out HMR.out).mono ?_
   rintro e w14 ⟨rfl, hC, hb, hk⟩
   clear hcg0 hfg0 hcg1 hfg1 hcg2 hfg2 hcg3 hfg3 hcg4 hfg4 hcg5 hfg5
   replace HVw := Ya (SwC.kept HVw.out hk (fun k_ h1_ h2_ => Nat.not_lt.2 (GEg.out k_ h2_) (LWg.out k_ h1_)))
   replace BKa := Ya (blk_kept BKa.out hk (fun hs_ => SwV.apart HVg.out BKa.out (by decide) (by decide) _ hs_ rfl))
   replace BKw := Ya (blk_kept BKw.out hk (fun hs_ => SwV.apart HVg.out BKw.out (by decide) (by decide) _ hs_ rfl))
   replace BKx := Ya (blk_kept BKx.out hk (fun hs_ => SwV.apart HVg.out BKx.out (by decide) (by decide) _ hs_ rfl))
   replace BKg := Ya (blk_kept BKg.out hk (fun hs_ => SwV.apart HVg.out BKg.out (by decide) (by decide) _ hs_ rfl))
   replace HB := Ya hb
   clear HVg
   have HVg := Ya hC
   clear hb hk hC
   have hcg0 := (Z23 BKg.out 0).trans rfl
   have hcg1 := (Z23 BKg.out 1).trans rfl
   have hcg2 := (Z23 BKg.out 2).trans rfl
   have hcg3 := (Z23 BKg.out 3).trans rfl
   have hcg4 := (Z23 BKg.out 4).trans rfl
   have hcg5 := (Z23 BKg.out 5).trans rfl
   have hfg0 := Z24 BKg.out 0
   have hfg1 := Z24 BKg.out 1
   have hfg2 := Z24 BKg.out 2
   have hfg3 := Z24 BKg.out 3
   have hfg4 := Z24 BKg.out 4
   have hfg5 := Z24 BKg.out 5
   go_wp2_with fail
   refine (laws_FnExactStepSwapper.heldS HVg.out HH.out).mono ?_
   rintro e w15 ⟨rfl, hb⟩
   clear hcg0 hfg0 hcg1 hfg1 hcg2 hfg2 hcg3 hfg3 hcg4 hfg4 hcg5 hfg5
   replace HVw := Ya (SwC.below (HVw.out) hb)
   replace HVg := Ya (SwC.below (HVg.out) hb)
   replace BKa := Ya (Z28 (BKa.out) hb)
   replace BKw := Ya (Z28 (BKw.out) hb)
   replace BKx := Ya (Z28 (BKx.out) hb)
   replace BKg := Ya (Z28 (BKg.out) hb)
   replace HB := Ya (Z8 (HB.out) hb)
   clear hb
   have hca0 := (Z23 BKa.out 0).trans rfl
   have hca1 := (Z23 BKa.out 1).trans rfl
   have hca2 := (Z23 BKa.out 2).trans rfl
   have hca3 := (Z23 BKa.out 3).trans rfl
   have hca4 := (Z23 BKa.out 4).trans rfl
   have hca5 := (Z23 BKa.out 5).trans rfl
   have hfa0 := Z24 BKa.out 0
   have hfa1 := Z24 BKa.out 1
   have hfa2 := Z24 BKa.out 2
   have hfa3 := Z24 BKa.out 3
   have hfa4 := Z24 BKa.out 4
   have hfa5 := Z24 BKa.out 5
   go_upto_region 25 with (first | ((with_reducible refine gate_callee (f := 22) rfl ?_); refine Yz 90 Try.func22 #[.agg #[.slice A0 b.length c0, .slice A1 d.length c1, .slice A2 u.length c2, .slice A3 p.length c3, .slice A4 it.length c4, .slice A5 wh.length c5]] ?_ (hargs := Q17); (with_reducible refine (laws_FnExactStepSwapper.toS (SwA.below HA.out (HB.out)) HT.out).mono ?_); rintro e wq ⟨v0, v1, v2, v3, v4, v5, rfl, hv, hb⟩; refine ⟨_, rfl, ?_⟩; clear hca0 hfa0 hca1 hfa1 hca2 hfa2 hca3 hfa3 hca4 hfa4 hca5 hfa5; have HVz : Aside0 (SwV wq w.heap.size v0 v1 v2 v3 v4 v5 b d u p it wh) := ⟨SwV.lower hv (Z7 (HB.out))⟩; replace HVw := Ya (SwC.below (HVw.out) hb); replace HVg := Ya (SwC.below (HVg.out) hb); replace BKa := Ya (Z28 (BKa.out) hb); replace BKw := Ya (Z28 (BKw.out) hb); replace BKx := Ya (Z28 (BKx.out) hb); replace BKg := Ya (Z28 (BKg.out) hb); replace HB := Ya (Z8 (HB.out) hb); obtain ⟨U0, n0, U1, n1, U2, n2, U3, n3, U4, n4, U5, n5, q0, q1, q2, q3, q4, q5⟩ := SwV.slices hv; subst q0 q1 q2 q3 q4 q5; clear hv hb) | ((with_reducible refine gate_callee (f := 27) rfl ?_); refine Yz 91 Try.func27 #[.agg #[.slice U0 b.length n0, .slice U1 d.length n1, .slice U2 u.length n2, .slice U3 p.length n3, .slice U4 it.length n4, .slice U5 wh.length n5]] ?_ (hargs := Q17); (with_reducible refine (laws_FnExactStepSwapper.implS (SwC.toA (SwV.weak (HVz.out))) HI.out).mono ?_); rintro e wq ⟨v0, v1, v2, v3, v4, v5, rfl, hv, hb⟩; refine ⟨_, rfl, ?_⟩; have HVh : Aside0 (SwC wq w.heap.size v0 v1 v2 v3 v4 v5 rb rd_ ru rp ri rw_) := ⟨SwV.weak (SwV.lower hv (Z7 (HB.out)))⟩; replace HVw := Ya (SwC.below (HVw.out) hb); replace HVg := Ya (SwC.below (HVg.out) hb); replace BKa := Ya (Z28 (BKa.out) hb); replace BKw := Ya (Z28 (BKw.out) hb); replace BKx := Ya (Z28 (BKx.out) hb); replace BKg := Ya (Z28 (BKg.out) hb); replace HB := Ya (Z8 (HB.out) hb); clear HVz; obtain ⟨H0, j0, H1, j1, H2, j2, H3, j3, H4, j4, H5, j5, q0, q1, q2, q3, q4, q5⟩ := SwV.slices hv; subst q0 q1 q2 q3 q4 q5; clear hv hb) | ((with_reducible refine gate_dst (N := 14) rfl ?_); refine Yx 14 YN6 35 ?_; intro gBKh hg w_14 hbox hb; have MBKh := Ya (by rw [hg]; exact Z7 (HB.out) : w.heap.size ≤ gBKh); have NBKaBKh := Ya (by rw [hg]; exact Nat.ne_of_lt (blk_lt (BKa.out)) : gBKa ≠ gBKh); have NBKwBKh := Ya (by rw [hg]; exact Nat.ne_of_lt (blk_lt (BKw.out)) : gBKw ≠ gBKh); have NBKxBKh := Ya (by rw [hg]; exact Nat.ne_of_lt (blk_lt (BKx.out)) : gBKx ≠ gBKh); have NBKgBKh := Ya (by rw [hg]; exact Nat.ne_of_lt (blk_lt (BKg.out)) : gBKg ≠ gBKh); replace HVw := Ya (SwC.below (HVw.out) hb); replace HVg := Ya (SwC.below (HVg.out) hb); replace HVh := Ya (SwC.below (HVh.out) hb); replace BKa := Ya (Z28 (BKa.out) hb); replace BKw := Ya (Z28 (BKw.out) hb); replace BKx := Ya (Z28 (BKx.out) hb); replace BKg := Ya (Z28 (BKg.out) hb); replace HB := Ya (Z8 (HB.out) hb); have BKh := Ya hbox; have GBKh := MBKh; clear MBKh; have hnBKaBKh := NBKaBKh.out; have hoBKaBKh := NBKaBKh.out.symm; have hnBKwBKh := NBKwBKh.out; have hoBKwBKh := NBKwBKh.out.symm; have hnBKxBKh := NBKxBKh.out; have hoBKxBKh := NBKxBKh.out.symm; have hnBKgBKh := NBKgBKh.out; have hoBKgBKh := NBKgBKh.out.symm; have hch0 := (Z23 BKh.out 0).trans rfl; have hch1 := (Z23 BKh.out 1).trans rfl; have hch2 := (Z23 BKh.out 2).trans rfl; have hch3 := (Z23 BKh.out 3).trans rfl; have hch4 := (Z23 BKh.out 4).trans rfl; have hch5 := (Z23 BKh.out 5).trans rfl; have hfh0 := Z24 BKh.out 0; have hfh1 := Z24 BKh.out 1; have hfh2 := Z24 BKh.out 2; have hfh3 := Z24 BKh.out 3; have hfh4 := Z24 BKh.out 4; have hfh5 := Z24 BKh.out 5; have hcw0 := (Z23 BKw.out 0).trans rfl; have hcw1 := (Z23 BKw.out 1).trans rfl; have hcw2 := (Z23 BKw.out 2).trans rfl; have hcw3 := (Z23 BKw.out 3).trans rfl; have hcw4 := (Z23 BKw.out 4).trans rfl; have hcw5 := (Z23 BKw.out 5).trans rfl; have hfw0 := Z24 BKw.out 0; have hfw1 := Z24 BKw.out 1; have hfw2 := Z24 BKw.out 2; have hfw3 := Z24 BKw.out 3; have hfw4 := Z24 BKw.out 4; have hfw5 := Z24 BKw.out 5; clear hb hbox hg))
   go_wp2_with fail
   have z_HVw := SwC.set6 HVw.out BKh.out (by decide) (by decide) (.slice H0 rb.length j0) (.slice H1 rd_.length j1) (.slice H2 ru.length j2) (.slice H3 rp.length j3) (.slice H4 ri.length j4) (.slice H5 rw_.length j5)
   have z_HVg := SwC.set6 HVg.out BKh.out (by decide) (by decide) (.slice H0 rb.length j0) (.slice H1 rd_.length j1) (.slice H2 ru.length j2) (.slice H3 rp.length j3) (.slice H4 ri.length j4) (.slice H5 rw_.length j5)
   have z_HVh := SwC.set6 HVh.out BKh.out (by decide) (by decide) (.slice H0 rb.length j0) (.slice H1 rd_.length j1) (.slice H2 ru.length j2) (.slice H3 rp.length j3) (.slice H4 ri.length j4) (.slice H5 rw_.length j5)
   have z_BKa := (set6_far _ gBKh (.slice H0 rb.length j0) (.slice H1 rd_.length j1) (.slice H2 ru.length j2) (.slice H3 rp.length j3) (.slice H4 ri.length j4) (.slice H5 rw_.length j5) gBKa NBKaBKh.out).trans BKa.out
   have z_BKw := (set6_far _ gBKh (.slice H0 rb.length j0) (.slice H1 rd_.length j1) (.slice H2 ru.length j2) (.slice H3 rp.length j3) (.slice H4 ri.length j4) (.slice H5 rw_.length j5) gBKw NBKwBKh.out).trans BKw.out
   have z_BKx := (set6_far _ gBKh (.slice H0 rb.length j0) (.slice H1 rd_.length j1) (.slice H2 ru.length j2) (.slice H3 rp.length j3) (.slice H4 ri.length j4) (.slice H5 rw_.length j5) gBKx NBKxBKh.out).trans BKx.out
   have z_BKg := (set6_far _ gBKh (.slice H0 rb.length j0) (.slice H1 rd_.length j1) (.slice H2 ru.length j2) (.slice H3 rp.length j3) (.slice H4 ri.length j4) (.slice H5 rw_.length j5) gBKg NBKgBKh.out).trans BKg.out
   have z_BKh := set6_at BKh.out (.slice H0 rb.length j0) (.slice H1 rd_.length j1) (.slice H2 ru.length j2) (.slice H3 rp.length j3) (.slice H4 ri.length j4) (.slice H5 rw_.length j5)
   have z_HB := set6_below HB.out GBKh.out (.slice H0 rb.length j0) (.slice H1 rd_.length j1) (.slice H2 ru.length j2) (.slice H3 rp.length j3) (.slice H4 ri.length j4) (.slice H5 rw_.length j5)
   unfold set6 at z_HVw z_HVg z_HVh z_BKa z_BKw z_BKx z_BKg z_BKh z_HB
   refine (laws_FnExactStepSwapper.eqS (SwC.toA (z_HVh)) (SwC.toA (z_HVw)) HQ.out).mono ?_
   rintro e w20 ⟨rfl, hb⟩
   clear hch0 hfh0 hch1 hfh1 hch2 hfh2 hch3 hfh3 hch4 hfh4 hch5 hfh5
   clear hcw0 hfw0 hcw1 hfw1 hcw2 hfw2 hcw3 hfw3 hcw4 hfw4 hcw5 hfw5
   replace HVw := Ya (SwC.below (z_HVw) hb)
   replace HVg := Ya (SwC.below (z_HVg) hb)
   replace HVh := Ya (SwC.below (z_HVh) hb)
   replace BKa := Ya (Z28 (z_BKa) hb)
   replace BKw := Ya (Z28 (z_BKw) hb)
   replace BKx := Ya (Z28 (z_BKx) hb)
   replace BKg := Ya (Z28 (z_BKg) hb)
   replace BKh := Ya (Z28 (z_BKh) hb)
   replace HB := Ya (Z8 (z_HB) hb)
   clear z_HVw z_HVg z_HVh z_BKa z_BKw z_BKx z_BKg z_BKh z_HB
   clear hb
   have hcg0 := (Z23 BKg.out 0).trans rfl
   have hcg1 := (Z23 BKg.out 1).trans rfl
   have hcg2 := (Z23 BKg.out 2).trans rfl
   have hcg3 := (Z23 BKg.out 3).trans rfl
   have hcg4 := (Z23 BKg.out 4).trans rfl
   have hcg5 := (Z23 BKg.out 5).trans rfl
   have hfg0 := Z24 BKg.out 0
   have hfg1 := Z24 BKg.out 1
   have hfg2 := Z24 BKg.out 2
   have hfg3 := Z24 BKg.out 3
   have hfg4 := Z24 BKg.out 4
   have hfg5 := Z24 BKg.out 5
   go_wp2_with fail
   refine (laws_FnExactStepSwapper.heldS HVg.out HH.out).mono ?_
   rintro e w21 ⟨rfl, hb⟩
   have n0_ := Z8 HB.out hb
   go_wp2
   go_ret
   exact ⟨rfl, n0_⟩
end Go.Proofs.Ytpfakdhfffehaaa.MFnExactStepSwapper
