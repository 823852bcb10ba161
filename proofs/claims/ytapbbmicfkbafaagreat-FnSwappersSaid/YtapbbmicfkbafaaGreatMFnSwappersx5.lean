import Derived.Test.YtapbbmicfkbafaaGreatMFnSwappersx0
import Derived.Test.YtapbbmicfkbafaaGreatMFnSwappersx2
import Derived.Test.YtapbbmicfkbafaaGreatMFnSwappersx4
namespace Go.Proofs.YtapbbmicfkbafaaGreat.MFnSwappers
open Go.RowKit Go.Proofs.YtapbbmicfkbafaaGreatW.PrintWords Go.Proofs.YtapbbmicfkbafaaGreatW.PrintLast Go.Proofs.YtapbbmicfkbafaaGreatW.PrintMore
attribute [local go_sem] max2_int min2_int max_two min_two max_three min_three max_four min_four   
set_option linter.unusedVariables false
set_option maxHeartbeats 16000000
set_option maxRecDepth 100000
set_option linter.unusedSimpArgs false
def impl_StepSwapper.f (k : Nat) (b d : List Int) (u : List Bool) (p it wh : List Int) : Option (List Int × List Int × List Bool × List Int × List Int × List Int × Int × Bool) :=
 (impl_IsSwapper.f k b d u p it wh).bind fun t => if t = true then (impl_Focus_own.f b d u p).bind fun o => (impl_copied.f it).bind fun o4 => (impl_copied.f wh).bind fun o5 => (if 0 < o.2.2.2.length ∧ o.1.length ≤ 1000 ∧ rd o.2.2.2 0 = (o.1.length : Int) then some ([], [], [], [], [], [], 0, false) else (Go.Proofs.YtapbbmicfkbafaaGreat.SwW.stepS o.1 o.2.1 o.2.2.1 o.2.2.2 o4 o5).bind fun s => some (o.1, s.1, s.2.1, s.2.2.1, s.2.2.2.1, s.2.2.2.2.1, s.2.2.2.2.2, true)) else some ([], [], [], [], [], [], 0, false)
open Go.Proofs.YtapbbmicfkbafaaGreat.FoW Go.Proofs.YtapbbmicfkbafaaGreat.SwW Go.Proofs.YtapbbmicfkbafaaGreat.SwL Go.Proofs.YtapbbmicfkbafaaGreat.StpW in
theorem impl_StepSwapper.at {b d : List Int} {u : List Bool} {p it wh d' : List Int} {u' : List Bool} {p' it' wh' : List Int} {r : Int} (h : stepS b d u p it wh = some (d', u', p', it', wh', r)) : 0 ≤ r := by
 unfold stepS at h
 simp only at h
 generalize (if rdOf false u ((b.length : Int) - 1 - rd p 0) = true then rd wh ((it.length : Int) - 1 - rd p 0) - 1 else rd wh ((it.length : Int) - 1 - rd p 0)) = a at h
 by_cases hc : it.length ≤ 1000 ∧ wh.length ≤ 1000 ∧ 0 ≤ (it.length : Int) - 1 - rd p 0 ∧ (it.length : Int) - 1 - rd p 0 < wh.length ∧ -1000 ≤ rd wh ((it.length : Int) - 1 - rd p 0) ∧ rd wh ((it.length : Int) - 1 - rd p 0) ≤ 1000 ∧ 0 ≤ a ∧ a + 1 < it.length ∧ 0 ≤ rd it a ∧ rd it a < wh.length ∧ 0 ≤ rd it (a + 1) ∧ rd it (a + 1) < wh.length
 rotate_left
 ·rw [if_neg hc] at h; cases h
 rw [if_pos hc] at h
 obtain ⟨⟨D1, U1, P1, R1⟩, hs, h⟩ := Z33.mp h
 simp only [Option.some.injEq, Prod.mk.injEq] at h
 obtain ⟨-, -, -, -, -, rfl⟩ := h
 exact hc.2.2.2.2.2.2.1
open Go.Proofs.YtapbbmicfkbafaaGreat.FoW Go.Proofs.YtapbbmicfkbafaaGreat.SwW Go.Proofs.YtapbbmicfkbafaaGreat.SwL Go.Proofs.YtapbbmicfkbafaaGreat.StpW in
theorem impl_StepSwapper.calls (k : Nat) (A0 : Option Addr) (c0 : Nat) (b : List Int) (A1 : Option Addr) (c1 : Nat) (d : List Int) (A2 : Option Addr) (c2 : Nat) (u : List Bool) (A3 : Option Addr) (c3 : Nat) (p : List Int) (A4 : Option Addr) (c4 : Nat) (it : List Int) (A5 : Option Addr) (c5 : Nat) (wh : List Int) (r1 r2 : List Int) (r3 : List Bool) (r4 r5 r6 : List Int) (r7 : Int) (r8 : Bool) (w : World)
  (aC : Kd.C (Kd.int .i64) w A0 b.length b) (aD : b.length ≤ c0) (aE : Kd.C (Kd.int .i64) w A1 d.length d) (aF : d.length ≤ c1) (aG : Kd.C Kd.bool w A2 u.length u) (aH : u.length ≤ c2) (aI : Kd.C (Kd.int .i64) w A3 p.length p) (aJ : p.length ≤ c3) (aK : Kd.C (Kd.int .i64) w A4 it.length it) (aL : it.length ≤ c4) (aM : Kd.C (Kd.int .i64) w A5 wh.length wh) (aN : wh.length ≤ c5) (h : impl_StepSwapper.f k b d u p it wh = some (r1, r2, r3, r4, r5, r6, r7, r8)) :
  Calls Tryz.prog 6 #[.agg #[.slice A0 b.length c0, .slice A1 d.length c1, .slice A2 u.length c2, .slice A3 p.length c3, .slice A4 it.length c4, .slice A5 wh.length c5]] w fun e w' => ∃ v0_ v1_ v2_ v3_ v4_ v5_ : Value, e = .returned (.tuple #[.agg #[v0_, v1_, v2_, v3_, v4_, v5_], .int .i64 r7, .bool r8]) ∧ Kd.R (Kd.int .i64) 3 w' w.heap.size (fun k_ => some k_ ≠ (v1_ : Value).ownBlock ∧ some k_ ≠ (v3_ : Value).ownBlock ∧ some k_ ≠ (v4_ : Value).ownBlock ∧ some k_ ≠ (v5_ : Value).ownBlock) v0_ r1 ∧ Kd.R (Kd.int .i64) 3 w' w.heap.size (fun k_ => some k_ ≠ (v0_ : Value).ownBlock ∧ some k_ ≠ (v3_ : Value).ownBlock ∧ some k_ ≠ (v4_ : Value).ownBlock ∧ some k_ ≠ (v5_ : Value).ownBlock) v1_ r2 ∧ Kd.R Kd.bool 4 w' w.heap.size (fun _ => True) v2_ r3 ∧ Kd.R (Kd.int .i64) 3 w' w.heap.size (fun k_ => some k_ ≠ (v0_ : Value).ownBlock ∧ some k_ ≠ (v1_ : Value).ownBlock ∧ some k_ ≠ (v4_ : Value).ownBlock ∧ some k_ ≠ (v5_ : Value).ownBlock) v3_ r4 ∧ Kd.R (Kd.int .i64) 3 w' w.heap.size (fun k_ => some k_ ≠ (v0_ : Value).ownBlock ∧ some k_ ≠ (v1_ : Value).ownBlock ∧ some k_ ≠ (v3_ : Value).ownBlock ∧ some k_ ≠ (v5_ : Value).ownBlock) v4_ r5 ∧ Kd.R (Kd.int .i64) 3 w' w.heap.size (fun k_ => some k_ ≠ (v0_ : Value).ownBlock ∧ some k_ ≠ (v1_ : Value).ownBlock ∧ some k_ ≠ (v3_ : Value).ownBlock ∧ some k_ ≠ (v4_ : Value).ownBlock) v5_ r6 ∧ Below w.heap.size w w' := by
 have hu := Tryz.underlying29
 unfold impl_StepSwapper.f at h
 obtain ⟨t, ht, h⟩ := Z33.mp h
 have At := Ya ht
 clear ht
 have HR0 := Ya aC
 have al := Ya aD
 have am := Ya aE
 have an := Ya aF
 have ao := Ya aG
 have ap := Ya aH
 have aq := Ya aI
 have ar := Ya aJ
 have au := Ya aK
 have av := Ya aL
 have aw := Ya aM
 have ax := Ya aN
 clear aC aD aE aF aG aH aI aJ aK aL aM aN
 have HB := Ya (Below.refl w.heap.size w)
 cases t
 ·rw [if_neg (by decide)] at h
  simp only [Option.some.injEq, Prod.mk.injEq] at h
  obtain ⟨rfl, rfl, rfl, rfl, rfl, rfl, rfl, rfl⟩ := h
  go_enter Tryz.func6, Tryz.ntmps6
  go_wp2_with (first | ((with_reducible refine gate_dst (N := 1) rfl ?_); refine Yx 1 #[.slice A0 b.length c0, .slice A1 d.length c1, .slice A2 u.length c2, .slice A3 p.length c3, .slice A4 it.length c4, .slice A5 wh.length c5] 29 ?_; intro aa hg w_1 hbox hb; have BK1 := Ya hbox; have aQ := Ya (by rw [hg]; exact Z7 Q0 : w.heap.size ≤ aa); replace HB := Yh hb; clear hb hbox hg) | ((with_reducible refine gate_dst (N := 2) rfl ?_); refine Yx 2 YN6 29 ?_; intro ac hg w_2 hbox hb; have BK2 := Ya hbox; have ay := Ya (by rw [hg]; exact Z7 Q0 : w.heap.size ≤ ac); have N12 := Ya (by rw [hg]; exact Nat.ne_of_lt (blk_lt Q25) : aa ≠ ac); replace BK1 := Ya (Z25 Q25 hb); replace HB := Yh hb; have hn1 := N12.1; have hn2 := N12.1.symm; have hca0 := (Z20 BK1.1 0).trans rfl; have hfa0 := Z21 BK1.1 0; have hca1 := (Z20 BK1.1 1).trans rfl; have hfa1 := Z21 BK1.1 1; have hca2 := (Z20 BK1.1 2).trans rfl; have hfa2 := Z21 BK1.1 2; have hca3 := (Z20 BK1.1 3).trans rfl; have hfa3 := Z21 BK1.1 3; have hca4 := (Z20 BK1.1 4).trans rfl; have hfa4 := Z21 BK1.1 4; have hca5 := (Z20 BK1.1 5).trans rfl; have hfa5 := Z21 BK1.1 5; clear hb hbox hg) | ((with_reducible refine gate_callee (f := 11) rfl ?_); refine Yz 8 Tryz.func11 #[.agg #[.slice A0 b.length c0, .slice A1 d.length c1, .slice A2 u.length c2, .slice A3 p.length c3, .slice A4 it.length c4, .slice A5 wh.length c5]] ?_ (hargs := Q19); (with_reducible refine (impl_IsSwapper.calls k _ _ b _ _ d _ _ u _ _ p _ _ it _ _ wh false _ (Yc (Z19 HR0.1 HB.1)) al.1 (Yc (Z19 am.1 HB.1)) an.1 (Yc (Z19 ao.1 HB.1)) ap.1 (Yc (Z19 aq.1 HB.1)) ar.1 (Yc (Z19 au.1 HB.1)) av.1 (Yc (Z19 aw.1 HB.1)) ax.1 At.1).mono ?_); rintro e w1 ⟨rfl, hb⟩; refine ⟨_, rfl, ?_⟩; clear hca0 hfa0 hca1 hfa1 hca2 hfa2 hca3 hfa3 hca4 hfa4 hca5 hfa5; replace BK1 := Ya (Z25 Q25 hb); replace BK2 := Ya (Z25 Q28 hb); replace HB := Yh hb; clear hb; have hcb0 := (Z20 BK2.1 0).trans rfl; have hfb0 := Z21 BK2.1 0; have hcb1 := (Z20 BK2.1 1).trans rfl; have hfb1 := Z21 BK2.1 1; have hcb2 := (Z20 BK2.1 2).trans rfl; have hfb2 := Z21 BK2.1 2; have hcb3 := (Z20 BK2.1 3).trans rfl; have hfb3 := Z21 BK2.1 3; have hcb4 := (Z20 BK2.1 4).trans rfl; have hfb4 := Z21 BK2.1 4; have hcb5 := (Z20 BK2.1 5).trans rfl; have hfb5 := Z21 BK2.1 5))
  refine bodyPost_ret (results_ctt rfl _ _ ac 29 YN6 (0, 0) _ rfl Q63 hu rfl (by kernel_rfl)) rfl ?_
  have hbb := set6_below HB.1 ay.1 (.slice none 0 0) (.slice none 0 0) (.slice none 0 0) (.slice none 0 0) (.slice none 0 0) (.slice none 0 0)
  unfold set6 at hbb
  exact ⟨_, _, _, _, _, _, rfl, Kd.R_nil _ _ _ _ _, Kd.R_nil _ _ _ _ _, Kd.R_nil _ _ _ _ _, Kd.R_nil _ _ _ _ _, Kd.R_nil _ _ _ _ _, Kd.R_nil _ _ _ _ _, hbb⟩
 ·rw [if_pos rfl] at h
  obtain ⟨⟨b1, d1, u1, p1⟩, ho, h⟩ := Z33.mp h
  obtain ⟨it1, aO, h⟩ := Z33.mp h
  obtain ⟨wh1, aP, h⟩ := Z33.mp h
  dsimp only at h
  have Ao := Ya ho
  have A4_ := Ya aO
  have A5_ := Ya aP
  have HH := Ya h
  clear ho aO aP h
  go_enter Tryz.func6, Tryz.ntmps6
  go_upto_region 3 with (first | ((with_reducible refine gate_dst (N := 1) rfl ?_); refine Yx 1 #[.slice A0 b.length c0, .slice A1 d.length c1, .slice A2 u.length c2, .slice A3 p.length c3, .slice A4 it.length c4, .slice A5 wh.length c5] 29 ?_; intro aa hg w_1 hbox hb; have BK1 := Ya hbox; have aQ := Ya (by rw [hg]; exact Z7 Q0 : w.heap.size ≤ aa); replace HB := Yh hb; clear hb hbox hg) | ((with_reducible refine gate_dst (N := 2) rfl ?_); refine Yx 2 YN6 29 ?_; intro ac hg w_2 hbox hb; have BK2 := Ya hbox; have ay := Ya (by rw [hg]; exact Z7 Q0 : w.heap.size ≤ ac); have N12 := Ya (by rw [hg]; exact Nat.ne_of_lt (blk_lt Q25) : aa ≠ ac); replace BK1 := Ya (Z25 Q25 hb); replace HB := Yh hb; have hn1 := N12.1; have hn2 := N12.1.symm; have hca0 := (Z20 BK1.1 0).trans rfl; have hfa0 := Z21 BK1.1 0; have hca1 := (Z20 BK1.1 1).trans rfl; have hfa1 := Z21 BK1.1 1; have hca2 := (Z20 BK1.1 2).trans rfl; have hfa2 := Z21 BK1.1 2; have hca3 := (Z20 BK1.1 3).trans rfl; have hfa3 := Z21 BK1.1 3; have hca4 := (Z20 BK1.1 4).trans rfl; have hfa4 := Z21 BK1.1 4; have hca5 := (Z20 BK1.1 5).trans rfl; have hfa5 := Z21 BK1.1 5; clear hb hbox hg) | ((with_reducible refine gate_callee (f := 11) rfl ?_); refine Yz 8 Tryz.func11 #[.agg #[.slice A0 b.length c0, .slice A1 d.length c1, .slice A2 u.length c2, .slice A3 p.length c3, .slice A4 it.length c4, .slice A5 wh.length c5]] ?_ (hargs := Q19); (with_reducible refine (impl_IsSwapper.calls k _ _ b _ _ d _ _ u _ _ p _ _ it _ _ wh true _ (Yc (Z19 HR0.1 HB.1)) al.1 (Yc (Z19 am.1 HB.1)) an.1 (Yc (Z19 ao.1 HB.1)) ap.1 (Yc (Z19 aq.1 HB.1)) ar.1 (Yc (Z19 au.1 HB.1)) av.1 (Yc (Z19 aw.1 HB.1)) ax.1 At.1).mono ?_); rintro e w1 ⟨rfl, hb⟩; refine ⟨_, rfl, ?_⟩; clear hca0 hfa0 hca1 hfa1 hca2 hfa2 hca3 hfa3 hca4 hfa4 hca5 hfa5; replace BK1 := Ya (Z25 Q25 hb); replace BK2 := Ya (Z25 Q28 hb); replace HB := Yh hb; clear hb; have hca0 := (Z20 BK1.1 0).trans rfl; have hfa0 := Z21 BK1.1 0; have hca1 := (Z20 BK1.1 1).trans rfl; have hfa1 := Z21 BK1.1 1; have hca2 := (Z20 BK1.1 2).trans rfl; have hfa2 := Z21 BK1.1 2; have hca3 := (Z20 BK1.1 3).trans rfl; have hfa3 := Z21 BK1.1 3; have hca4 := (Z20 BK1.1 4).trans rfl; have hfa4 := Z21 BK1.1 4; have hca5 := (Z20 BK1.1 5).trans rfl; have hfa5 := Z21 BK1.1 5))
  clear hca0 hfa0 hca1 hfa1 hca2 hfa2 hca3 hfa3 hca4 hfa4 hca5 hfa5
  replace BK1 := Ya (Z23 BK1.1)
  replace BK2 := Ya (Z23 BK2.1)
  replace HB := Ya (Z4 HB.1)
  refine start_ (n := 12) (S := fun w' => w'.cell? ⟨aa, 0, none⟩ = some (.slice A0 b.length c0) ∧ w'.cell? ⟨aa, 1, none⟩ = some (.slice A1 d.length c1) ∧ w'.cell? ⟨aa, 2, none⟩ = some (.slice A2 u.length c2) ∧ w'.cell? ⟨aa, 3, none⟩ = some (.slice A3 p.length c3) ∧ w'.cell? ⟨aa, 4, none⟩ = some (.slice A4 it.length c4) ∧ w'.cell? ⟨aa, 5, none⟩ = some (.slice A5 wh.length c5)) (ds := [11]) (YA 12 0) (by kernel_rfl) rfl rfl (Yz6 BK1.1) (fun hHeld => ?_)
  generalize World.drew _ = w2 at BK1 BK2 HB hHeld ⊢
  refine Yq 0 (some 11) (YA 12 1) rfl ?_
  refine Yq 3 (some 14) (YA 12 9) rfl ?_
  refine Yq 6 (some 17) (YA 12 73) rfl ?_
  refine Ys 1 (some 12) (YA 12 75) rfl hHeld Q55 ?_
  refine Ys 4 (some 15) (YA 12 91) rfl hHeld Q55 ?_
  refine Ys 7 (some 18) (YA 12 219) rfl hHeld Q55 ?_
  refine join_ (σ := Value × Value × Value × Value × Value × Value × Nat) 1 (YA 12 2047) (fun s_ => [(13, .agg #[s_.1, s_.2.1, s_.2.2.1, s_.2.2.2.1]), (16, s_.2.2.2.2.1), (19, s_.2.2.2.2.2.1), (20, .agg #[s_.1, s_.2.1, s_.2.2.1, s_.2.2.2.1, s_.2.2.2.2.1, s_.2.2.2.2.2.1]), (5, .pointer (some ⟨s_.2.2.2.2.2.2, 0, none⟩))]) (fun s_ w' => (SwV w' w.heap.size s_.1 s_.2.1 s_.2.2.1 s_.2.2.2.1 s_.2.2.2.2.1 s_.2.2.2.2.2.1 b1 d1 u1 p1 it1 wh1) ∧ (w'.heap[aa]? = some (.cells #[.slice A0 b.length c0, .slice A1 d.length c1, .slice A2 u.length c2, .slice A3 p.length c3, .slice A4 it.length c4, .slice A5 wh.length c5] 29 (0, 0))) ∧ (w'.heap[ac]? = some (.cells YN6 29 (0, 0))) ∧ (w'.heap[s_.2.2.2.2.2.2]? = some (.cells YN6 29 (0, 0))) ∧ (w.heap.size ≤ s_.2.2.2.2.2.2) ∧ (aa ≠ s_.2.2.2.2.2.2) ∧ (ac ≠ s_.2.2.2.2.2.2) ∧ (Below w.heap.size w w')) ?_ ?_
  rotate_left
  ·intro hJ2_5_8_10
   refine join_ (σ := Value × Value × Value × Value × Value × Value) 2 (YA 12 1023) (fun s_ => [(13, .agg #[s_.1, s_.2.1, s_.2.2.1, s_.2.2.2.1]), (16, s_.2.2.2.2.1), (19, s_.2.2.2.2.2), (20, .agg #[s_.1, s_.2.1, s_.2.2.1, s_.2.2.2.1, s_.2.2.2.2.1, s_.2.2.2.2.2])]) (fun s_ w' => (SwV w' w.heap.size s_.1 s_.2.1 s_.2.2.1 s_.2.2.2.1 s_.2.2.2.2.1 s_.2.2.2.2.2 b1 d1 u1 p1 it1 wh1) ∧ (w'.heap[aa]? = some (.cells #[.slice A0 b.length c0, .slice A1 d.length c1, .slice A2 u.length c2, .slice A3 p.length c3, .slice A4 it.length c4, .slice A5 wh.length c5] 29 (0, 0))) ∧ (w'.heap[ac]? = some (.cells YN6 29 (0, 0))) ∧ (Below w.heap.size w w')) ?_ ?_
   rotate_left
   ·intro hJ2_5_8
    refine join_ (σ := Value × Value × Value × Value × Value × Nat) 3 (YA 12 1279) (fun s_ => [(13, .agg #[s_.1, s_.2.1, s_.2.2.1, s_.2.2.2.1]), (16, s_.2.2.2.2.1), (5, .pointer (some ⟨s_.2.2.2.2.2, 0, none⟩))]) (fun s_ w' => (P5 w' w.heap.size s_.1 s_.2.1 s_.2.2.1 s_.2.2.2.1 s_.2.2.2.2.1 b1 d1 u1 p1 it1) ∧ (w'.heap[aa]? = some (.cells #[.slice A0 b.length c0, .slice A1 d.length c1, .slice A2 u.length c2, .slice A3 p.length c3, .slice A4 it.length c4, .slice A5 wh.length c5] 29 (0, 0))) ∧ (w'.heap[ac]? = some (.cells YN6 29 (0, 0))) ∧ (w'.heap[s_.2.2.2.2.2]? = some (.cells YN6 29 (0, 0))) ∧ (w.heap.size ≤ s_.2.2.2.2.2) ∧ (aa ≠ s_.2.2.2.2.2) ∧ (ac ≠ s_.2.2.2.2.2) ∧ (Below w.heap.size w w')) ?_ ?_
    rotate_left
    ·intro hJ2_5_10
     refine join_ (σ := Value × Value × Value × Value × Value) 4 (YA 12 255) (fun s_ => [(13, .agg #[s_.1, s_.2.1, s_.2.2.1, s_.2.2.2.1]), (16, s_.2.2.2.2)]) (fun s_ w' => (P5 w' w.heap.size s_.1 s_.2.1 s_.2.2.1 s_.2.2.2.1 s_.2.2.2.2 b1 d1 u1 p1 it1) ∧ (w'.heap[aa]? = some (.cells #[.slice A0 b.length c0, .slice A1 d.length c1, .slice A2 u.length c2, .slice A3 p.length c3, .slice A4 it.length c4, .slice A5 wh.length c5] 29 (0, 0))) ∧ (w'.heap[ac]? = some (.cells YN6 29 (0, 0))) ∧ (Below w.heap.size w w')) ?_ ?_
     rotate_left
     ·intro hJ2_5
      refine join_ (σ := Value × Value × Value × Value × Nat) 4 (YA 12 1247) (fun s_ => [(13, .agg #[s_.1, s_.2.1, s_.2.2.1, s_.2.2.2.1]), (5, .pointer (some ⟨s_.2.2.2.2, 0, none⟩))]) (fun s_ w' => (FoV w' w.heap.size s_.1 s_.2.1 s_.2.2.1 s_.2.2.2.1 b1 d1 u1 p1) ∧ (w'.heap[aa]? = some (.cells #[.slice A0 b.length c0, .slice A1 d.length c1, .slice A2 u.length c2, .slice A3 p.length c3, .slice A4 it.length c4, .slice A5 wh.length c5] 29 (0, 0))) ∧ (w'.heap[ac]? = some (.cells YN6 29 (0, 0))) ∧ (w'.heap[s_.2.2.2.2]? = some (.cells YN6 29 (0, 0))) ∧ (w.heap.size ≤ s_.2.2.2.2) ∧ (aa ≠ s_.2.2.2.2) ∧ (ac ≠ s_.2.2.2.2) ∧ (Below w.heap.size w w')) ?_ ?_
      rotate_left
      ·intro hJ2_10
       refine join_ (σ := Value × Value × Value × Value) 5 (YA 12 223) (fun s_ => [(13, .agg #[s_.1, s_.2.1, s_.2.2.1, s_.2.2.2])]) (fun s_ w' => (FoV w' w.heap.size s_.1 s_.2.1 s_.2.2.1 s_.2.2.2 b1 d1 u1 p1) ∧ (w'.heap[aa]? = some (.cells #[.slice A0 b.length c0, .slice A1 d.length c1, .slice A2 u.length c2, .slice A3 p.length c3, .slice A4 it.length c4, .slice A5 wh.length c5] 29 (0, 0))) ∧ (w'.heap[ac]? = some (.cells YN6 29 (0, 0))) ∧ (Below w.heap.size w w')) ?_ ?_
       rotate_left
       ·intro hJ2
        refine join_ (σ := Nat) 5 (YA 12 1243) (fun s_ => [(5, .pointer (some ⟨s_, 0, none⟩))]) (fun s_ w' => (w'.heap[aa]? = some (.cells #[.slice A0 b.length c0, .slice A1 d.length c1, .slice A2 u.length c2, .slice A3 p.length c3, .slice A4 it.length c4, .slice A5 wh.length c5] 29 (0, 0))) ∧ (w'.heap[ac]? = some (.cells YN6 29 (0, 0))) ∧ (w'.heap[s_]? = some (.cells YN6 29 (0, 0))) ∧ (w.heap.size ≤ s_) ∧ (aa ≠ s_) ∧ (ac ≠ s_) ∧ (Below w.heap.size w w')) ?_ ?_
        rotate_left
        ·intro hJ10
         refine two_ (i := 2) (j := 10) (Ni := some 13) (Nj := some 5) (YA 12 223) (YA 12 1243) rfl rfl rfl rfl (by kernel_rfl) (by decide) (by decide) (fun K hK => ?_) (fun K hK => ?_)
         ·skip
          refine goes_ Tryz.func25 (by kernel_rfl) rfl #[.agg #[.slice A0 b.length c0, .slice A1 d.length c1, .slice A2 u.length c2, .slice A3 p.length c3]] (by rfl) rfl rfl Q29 ?_
          with_reducible refine (impl_Focus_own.calls _ _ b _ _ d _ _ u _ _ p b1 d1 u1 p1 _ ?ae al.1 ?af an.1 ?ag ap.1 ?ah ar.1 Ao.1).mono ?_
          (case ae => exact Yc (Z19 HR0.1 HB.1))
          (case af => exact Yc (Z19 am.1 HB.1))
          (case ag => exact Yc (Z19 ao.1 HB.1))
          (case ah => exact Yc (Z19 aq.1 HB.1))
          rintro e w3 ⟨v0, v1, v2, v3, rfl, ai, az, aA, aB, hb⟩
          refine ⟨_, rfl, ?_⟩
          have HV : Aside0 (FoV w3 w.heap.size v0 v1 v2 v3 b1 d1 u1 p1) := ⟨FoV.mk (Kd.R_lower ai (Z7 Q0)) (Kd.R_lower az (Z7 Q0)) (Kd.R_lower aA (Z7 Q0)) (Kd.R_lower aB (Z7 Q0))⟩
          replace BK1 := Ya (Z25 Q25 hb)
          replace BK2 := Ya (Z25 Q28 hb)
          replace HB := Yh hb
          refine hK.out _ _ (Yz6 BK1.1) (fun hHeld => ?_)
          clear hK K
          refine YNa 13 ?_
          exact norm_ Q9 (hJ2 (v0, v1, v2, v3) _ ⟨HV.1, BK1.1, BK2.1, HB.1⟩)
         ·skip
          refine Yy 5 YN6 29 ?_
          intro ab hg w3 hbox hb
          have BK5 := Ya hbox
          have ad := Ya (by rw [hg]; exact Z7 Q0 : w.heap.size ≤ ab)
          have N15 := Ya (by rw [hg]; exact Nat.ne_of_lt (blk_lt Q25) : aa ≠ ab)
          have N25 := Ya (by rw [hg]; exact Nat.ne_of_lt (blk_lt Q28) : ac ≠ ab)
          replace BK1 := Ya (Z25 Q25 hb)
          replace BK2 := Ya (Z25 Q28 hb)
          replace HB := Yh hb
          refine hK.out _ _ (Yz6 BK1.1) (fun hHeld => ?_)
          clear hK K
          refine YNa 5 ?_
          exact norm_ Q9 (hJ10 (ab) _ ⟨BK1.1, BK2.1, BK5.1, ad.1, N15.1, N25.1, HB.1⟩)
        ·skip
         rintro ab wn_ ⟨h0_, h1_, h2_, h3_, h4_, h5_, h6_⟩
         replace BK1 : Aside0 (wn_.heap[aa]? = some (.cells #[.slice A0 b.length c0, .slice A1 d.length c1, .slice A2 u.length c2, .slice A3 p.length c3, .slice A4 it.length c4, .slice A5 wh.length c5] 29 (0, 0))) := ⟨h0_⟩
         replace BK2 : Aside0 (wn_.heap[ac]? = some (.cells YN6 29 (0, 0))) := ⟨h1_⟩
         replace BK5 : Aside0 (wn_.heap[ab]? = some (.cells YN6 29 (0, 0))) := ⟨h2_⟩
         replace ad : Aside0 (w.heap.size ≤ ab) := ⟨h3_⟩
         replace N15 : Aside0 (aa ≠ ab) := ⟨h4_⟩
         replace N25 : Aside0 (ac ≠ ab) := ⟨h5_⟩
         replace HB : Aside0 (Below w.heap.size w wn_) := ⟨h6_⟩
         clear h0_ h1_ h2_ h3_ h4_ h5_ h6_
         (try clear HV)
         have hHeld : wn_.cell? ⟨aa, 0, none⟩ = some (.slice A0 b.length c0) ∧ wn_.cell? ⟨aa, 1, none⟩ = some (.slice A1 d.length c1) ∧ wn_.cell? ⟨aa, 2, none⟩ = some (.slice A2 u.length c2) ∧ wn_.cell? ⟨aa, 3, none⟩ = some (.slice A3 p.length c3) ∧ wn_.cell? ⟨aa, 4, none⟩ = some (.slice A4 it.length c4) ∧ wn_.cell? ⟨aa, 5, none⟩ = some (.slice A5 wh.length c5) := (Yz6 BK1.1)
         refine YNb ?_
         refine one_ (i := 2) (N := some 13) (YA 12 1247) rfl rfl (by kernel_rfl) (by decide) (fun K hK => ?_)
         refine goes_ Tryz.func25 (by kernel_rfl) rfl #[.agg #[.slice A0 b.length c0, .slice A1 d.length c1, .slice A2 u.length c2, .slice A3 p.length c3]] (by rfl) rfl rfl Q29 ?_
         with_reducible refine (impl_Focus_own.calls _ _ b _ _ d _ _ u _ _ p b1 d1 u1 p1 _ ?ae al.1 ?af an.1 ?ag ap.1 ?ah ar.1 Ao.1).mono ?_
         (case ae => exact Yc (Z19 HR0.1 HB.1))
         (case af => exact Yc (Z19 am.1 HB.1))
         (case ag => exact Yc (Z19 ao.1 HB.1))
         (case ah => exact Yc (Z19 aq.1 HB.1))
         rintro e w3 ⟨v0, v1, v2, v3, rfl, ai, az, aA, aB, hb⟩
         refine ⟨_, rfl, ?_⟩
         have HV : Aside0 (FoV w3 w.heap.size v0 v1 v2 v3 b1 d1 u1 p1) := ⟨FoV.mk (Kd.R_lower ai (Z7 Q0)) (Kd.R_lower az (Z7 Q0)) (Kd.R_lower aA (Z7 Q0)) (Kd.R_lower aB (Z7 Q0))⟩
         replace BK1 := Ya (Z25 Q25 hb)
         replace BK2 := Ya (Z25 Q28 hb)
         replace BK5 := Ya (Z25 Q69 hb)
         replace HB := Yh hb
         refine hK.out _ _ (Yz6 BK1.1) (fun hHeld => ?_)
         clear hK K
         refine YNa 13 ?_
         exact norm_ Q9 (hJ2_10 (v0, v1, v2, v3, ab) _ ⟨HV.1, BK1.1, BK2.1, BK5.1, ad.1, N15.1, N25.1, HB.1⟩)
       ·skip
        rintro ⟨v0, v1, v2, v3⟩ wn_ ⟨h0_, h1_, h2_, h3_⟩
        replace HV : Aside0 (FoV wn_ w.heap.size v0 v1 v2 v3 b1 d1 u1 p1) := ⟨h0_⟩
        replace BK1 : Aside0 (wn_.heap[aa]? = some (.cells #[.slice A0 b.length c0, .slice A1 d.length c1, .slice A2 u.length c2, .slice A3 p.length c3, .slice A4 it.length c4, .slice A5 wh.length c5] 29 (0, 0))) := ⟨h1_⟩
        replace BK2 : Aside0 (wn_.heap[ac]? = some (.cells YN6 29 (0, 0))) := ⟨h2_⟩
        replace HB : Aside0 (Below w.heap.size w wn_) := ⟨h3_⟩
        clear h0_ h1_ h2_ h3_
        skip
        have hHeld : wn_.cell? ⟨aa, 0, none⟩ = some (.slice A0 b.length c0) ∧ wn_.cell? ⟨aa, 1, none⟩ = some (.slice A1 d.length c1) ∧ wn_.cell? ⟨aa, 2, none⟩ = some (.slice A2 u.length c2) ∧ wn_.cell? ⟨aa, 3, none⟩ = some (.slice A3 p.length c3) ∧ wn_.cell? ⟨aa, 4, none⟩ = some (.slice A4 it.length c4) ∧ wn_.cell? ⟨aa, 5, none⟩ = some (.slice A5 wh.length c5) := (Yz6 BK1.1)
        refine YNb ?_
        refine two_ (i := 5) (j := 10) (Ni := some 16) (Nj := some 5) (YA 12 255) (YA 12 1247) rfl rfl rfl rfl (by kernel_rfl) (by decide) (by decide) (fun K hK => ?_) (fun K hK => ?_)
        ·skip
         refine goes_ Tryz.func26 (by kernel_rfl) rfl #[.slice A4 it.length c4] (by rfl) rfl rfl Q29 ?_
         with_reducible refine (impl_copied.calls _ _ it it1 _ ?aj av.1 A4_.1).mono ?_
         (case aj => exact Yc (Z19 au.1 HB.1))
         rintro e w3 ⟨v4, rfl, ai, hb⟩
         refine ⟨_, rfl, ?_⟩
         replace HV := Ya (P5.of (Qm0 HV.1) hb (Z7 Q0) ai)
         replace BK1 := Ya (Z25 Q25 hb)
         replace BK2 := Ya (Z25 Q28 hb)
         replace HB := Yh hb
         refine hK.out _ _ (Yz6 BK1.1) (fun hHeld => ?_)
         clear hK K
         refine YNa 16 ?_
         exact norm_ Q9 (hJ2_5 (v0, v1, v2, v3, v4) _ ⟨HV.1, BK1.1, BK2.1, HB.1⟩)
        ·skip
         refine Yy 5 YN6 29 ?_
         intro ab hg w3 hbox hb
         have BK5 := Ya hbox
         have ad := Ya (by rw [hg]; exact Z7 Q0 : w.heap.size ≤ ab)
         have N15 := Ya (by rw [hg]; exact Nat.ne_of_lt (blk_lt Q25) : aa ≠ ab)
         have N25 := Ya (by rw [hg]; exact Nat.ne_of_lt (blk_lt Q28) : ac ≠ ab)
         replace HV := Ya (FoV.below (Qm0 HV.1) hb)
         replace BK1 := Ya (Z25 Q25 hb)
         replace BK2 := Ya (Z25 Q28 hb)
         replace HB := Yh hb
         refine hK.out _ _ (Yz6 BK1.1) (fun hHeld => ?_)
         clear hK K
         refine YNa 5 ?_
         exact norm_ Q9 (hJ2_10 (v0, v1, v2, v3, ab) _ ⟨HV.1, BK1.1, BK2.1, BK5.1, ad.1, N15.1, N25.1, HB.1⟩)
      ·skip
       rintro ⟨v0, v1, v2, v3, ab⟩ wn_ ⟨h0_, h1_, h2_, h3_, h4_, h5_, h6_, h7_⟩
       replace HV : Aside0 (FoV wn_ w.heap.size v0 v1 v2 v3 b1 d1 u1 p1) := ⟨h0_⟩
       replace BK1 : Aside0 (wn_.heap[aa]? = some (.cells #[.slice A0 b.length c0, .slice A1 d.length c1, .slice A2 u.length c2, .slice A3 p.length c3, .slice A4 it.length c4, .slice A5 wh.length c5] 29 (0, 0))) := ⟨h1_⟩
       replace BK2 : Aside0 (wn_.heap[ac]? = some (.cells YN6 29 (0, 0))) := ⟨h2_⟩
       replace BK5 : Aside0 (wn_.heap[ab]? = some (.cells YN6 29 (0, 0))) := ⟨h3_⟩
       replace ad : Aside0 (w.heap.size ≤ ab) := ⟨h4_⟩
       replace N15 : Aside0 (aa ≠ ab) := ⟨h5_⟩
       replace N25 : Aside0 (ac ≠ ab) := ⟨h6_⟩
       replace HB : Aside0 (Below w.heap.size w wn_) := ⟨h7_⟩
       clear h0_ h1_ h2_ h3_ h4_ h5_ h6_ h7_
       have hHeld : wn_.cell? ⟨aa, 0, none⟩ = some (.slice A0 b.length c0) ∧ wn_.cell? ⟨aa, 1, none⟩ = some (.slice A1 d.length c1) ∧ wn_.cell? ⟨aa, 2, none⟩ = some (.slice A2 u.length c2) ∧ wn_.cell? ⟨aa, 3, none⟩ = some (.slice A3 p.length c3) ∧ wn_.cell? ⟨aa, 4, none⟩ = some (.slice A4 it.length c4) ∧ wn_.cell? ⟨aa, 5, none⟩ = some (.slice A5 wh.length c5) := (Yz6 BK1.1)
       refine YNb ?_
       refine one_ (i := 5) (N := some 16) (YA 12 1279) rfl rfl (by kernel_rfl) (by decide) (fun K hK => ?_)
       refine goes_ Tryz.func26 (by kernel_rfl) rfl #[.slice A4 it.length c4] (by rfl) rfl rfl Q29 ?_
       with_reducible refine (impl_copied.calls _ _ it it1 _ ?aj av.1 A4_.1).mono ?_
       (case aj => exact Yc (Z19 au.1 HB.1))
       rintro e w3 ⟨v4, rfl, ai, hb⟩
       refine ⟨_, rfl, ?_⟩
       replace HV := Ya (P5.of (Qm0 HV.1) hb (Z7 Q0) ai)
       replace BK1 := Ya (Z25 Q25 hb)
       replace BK2 := Ya (Z25 Q28 hb)
       replace BK5 := Ya (Z25 Q69 hb)
       replace HB := Yh hb
       refine hK.out _ _ (Yz6 BK1.1) (fun hHeld => ?_)
       clear hK K
       refine YNa 16 ?_
       exact norm_ Q9 (hJ2_5_10 (v0, v1, v2, v3, v4, ab) _ ⟨HV.1, BK1.1, BK2.1, BK5.1, ad.1, N15.1, N25.1, HB.1⟩)
     ·skip
      rintro ⟨v0, v1, v2, v3, v4⟩ wn_ ⟨h0_, h1_, h2_, h3_⟩
      replace HV : Aside0 (P5 wn_ w.heap.size v0 v1 v2 v3 v4 b1 d1 u1 p1 it1) := ⟨h0_⟩
      replace BK1 : Aside0 (wn_.heap[aa]? = some (.cells #[.slice A0 b.length c0, .slice A1 d.length c1, .slice A2 u.length c2, .slice A3 p.length c3, .slice A4 it.length c4, .slice A5 wh.length c5] 29 (0, 0))) := ⟨h1_⟩
      replace BK2 : Aside0 (wn_.heap[ac]? = some (.cells YN6 29 (0, 0))) := ⟨h2_⟩
      replace HB : Aside0 (Below w.heap.size w wn_) := ⟨h3_⟩
      clear h0_ h1_ h2_ h3_
      skip
      have hHeld : wn_.cell? ⟨aa, 0, none⟩ = some (.slice A0 b.length c0) ∧ wn_.cell? ⟨aa, 1, none⟩ = some (.slice A1 d.length c1) ∧ wn_.cell? ⟨aa, 2, none⟩ = some (.slice A2 u.length c2) ∧ wn_.cell? ⟨aa, 3, none⟩ = some (.slice A3 p.length c3) ∧ wn_.cell? ⟨aa, 4, none⟩ = some (.slice A4 it.length c4) ∧ wn_.cell? ⟨aa, 5, none⟩ = some (.slice A5 wh.length c5) := (Yz6 BK1.1)
      refine YNb ?_
      refine two_ (i := 8) (j := 10) (Ni := some 19) (Nj := some 5) (YA 12 511) (YA 12 1279) rfl rfl rfl rfl (by kernel_rfl) (by decide) (by decide) (fun K hK => ?_) (fun K hK => ?_)
      ·skip
       refine goes_ Tryz.func26 (by kernel_rfl) rfl #[.slice A5 wh.length c5] (by rfl) rfl rfl Q29 ?_
       with_reducible refine (impl_copied.calls _ _ wh wh1 _ ?ak ax.1 A5_.1).mono ?_
       (case ak => exact Yc (Z19 aw.1 HB.1))
       rintro e w3 ⟨v5, rfl, ai, hb⟩
       refine ⟨_, rfl, ?_⟩
       replace HV := Ya (SwV.of5 (Qm2 HV.1) hb (Z7 Q0) ai)
       replace BK1 := Ya (Z25 Q25 hb)
       replace BK2 := Ya (Z25 Q28 hb)
       replace HB := Yh hb
       refine hK.out _ _ (Yz6 BK1.1) (fun hHeld => ?_)
       clear hK K
       refine YNa 19 ?_
       obtain ⟨B4, e4, q4⟩ := Z15 HV.1.r4
       obtain ⟨B5, e5, q5⟩ := Z15 HV.1.r5
       rw [q4, q5]
       refine Yq 9 (some 20) (YA 12 1023) rfl ?_
       rw [← q4, ← q5]
       exact norm_ Q9 (hJ2_5_8 (v0, v1, v2, v3, v4, v5) _ ⟨HV.1, BK1.1, BK2.1, HB.1⟩)
      ·skip
       refine Yy 5 YN6 29 ?_
       intro ab hg w3 hbox hb
       have BK5 := Ya hbox
       have ad := Ya (by rw [hg]; exact Z7 Q0 : w.heap.size ≤ ab)
       have N15 := Ya (by rw [hg]; exact Nat.ne_of_lt (blk_lt Q25) : aa ≠ ab)
       have N25 := Ya (by rw [hg]; exact Nat.ne_of_lt (blk_lt Q28) : ac ≠ ab)
       replace HV := Ya (P5.below (Qm2 HV.1) hb)
       replace BK1 := Ya (Z25 Q25 hb)
       replace BK2 := Ya (Z25 Q28 hb)
       replace HB := Yh hb
       refine hK.out _ _ (Yz6 BK1.1) (fun hHeld => ?_)
       clear hK K
       refine YNa 5 ?_
       exact norm_ Q9 (hJ2_5_10 (v0, v1, v2, v3, v4, ab) _ ⟨HV.1, BK1.1, BK2.1, BK5.1, ad.1, N15.1, N25.1, HB.1⟩)
    ·skip
     rintro ⟨v0, v1, v2, v3, v4, ab⟩ wn_ ⟨h0_, h1_, h2_, h3_, h4_, h5_, h6_, h7_⟩
     replace HV : Aside0 (P5 wn_ w.heap.size v0 v1 v2 v3 v4 b1 d1 u1 p1 it1) := ⟨h0_⟩
     replace BK1 : Aside0 (wn_.heap[aa]? = some (.cells #[.slice A0 b.length c0, .slice A1 d.length c1, .slice A2 u.length c2, .slice A3 p.length c3, .slice A4 it.length c4, .slice A5 wh.length c5] 29 (0, 0))) := ⟨h1_⟩
     replace BK2 : Aside0 (wn_.heap[ac]? = some (.cells YN6 29 (0, 0))) := ⟨h2_⟩
     replace BK5 : Aside0 (wn_.heap[ab]? = some (.cells YN6 29 (0, 0))) := ⟨h3_⟩
     replace ad : Aside0 (w.heap.size ≤ ab) := ⟨h4_⟩
     replace N15 : Aside0 (aa ≠ ab) := ⟨h5_⟩
     replace N25 : Aside0 (ac ≠ ab) := ⟨h6_⟩
     replace HB : Aside0 (Below w.heap.size w wn_) := ⟨h7_⟩
     clear h0_ h1_ h2_ h3_ h4_ h5_ h6_ h7_
     have hHeld : wn_.cell? ⟨aa, 0, none⟩ = some (.slice A0 b.length c0) ∧ wn_.cell? ⟨aa, 1, none⟩ = some (.slice A1 d.length c1) ∧ wn_.cell? ⟨aa, 2, none⟩ = some (.slice A2 u.length c2) ∧ wn_.cell? ⟨aa, 3, none⟩ = some (.slice A3 p.length c3) ∧ wn_.cell? ⟨aa, 4, none⟩ = some (.slice A4 it.length c4) ∧ wn_.cell? ⟨aa, 5, none⟩ = some (.slice A5 wh.length c5) := (Yz6 BK1.1)
     refine YNb ?_
     refine one_ (i := 8) (N := some 19) (YA 12 1535) rfl rfl (by kernel_rfl) (by decide) (fun K hK => ?_)
     refine goes_ Tryz.func26 (by kernel_rfl) rfl #[.slice A5 wh.length c5] (by rfl) rfl rfl Q29 ?_
     with_reducible refine (impl_copied.calls _ _ wh wh1 _ ?ak ax.1 A5_.1).mono ?_
     (case ak => exact Yc (Z19 aw.1 HB.1))
     rintro e w3 ⟨v5, rfl, ai, hb⟩
     refine ⟨_, rfl, ?_⟩
     replace HV := Ya (SwV.of5 (Qm2 HV.1) hb (Z7 Q0) ai)
     replace BK1 := Ya (Z25 Q25 hb)
     replace BK2 := Ya (Z25 Q28 hb)
     replace BK5 := Ya (Z25 Q69 hb)
     replace HB := Yh hb
     refine hK.out _ _ (Yz6 BK1.1) (fun hHeld => ?_)
     clear hK K
     refine YNa 19 ?_
     obtain ⟨B4, e4, q4⟩ := Z15 HV.1.r4
     obtain ⟨B5, e5, q5⟩ := Z15 HV.1.r5
     rw [q4, q5]
     refine Yq 9 (some 20) (YA 12 2047) rfl ?_
     rw [← q4, ← q5]
     exact norm_ Q9 (hJ2_5_8_10 (v0, v1, v2, v3, v4, v5, ab) _ ⟨HV.1, BK1.1, BK2.1, BK5.1, ad.1, N15.1, N25.1, HB.1⟩)
   ·skip
    rintro ⟨v0, v1, v2, v3, v4, v5⟩ wn_ ⟨h0_, h1_, h2_, h3_⟩
    replace HV : Aside0 (SwV wn_ w.heap.size v0 v1 v2 v3 v4 v5 b1 d1 u1 p1 it1 wh1) := ⟨h0_⟩
    replace BK1 : Aside0 (wn_.heap[aa]? = some (.cells #[.slice A0 b.length c0, .slice A1 d.length c1, .slice A2 u.length c2, .slice A3 p.length c3, .slice A4 it.length c4, .slice A5 wh.length c5] 29 (0, 0))) := ⟨h1_⟩
    replace BK2 : Aside0 (wn_.heap[ac]? = some (.cells YN6 29 (0, 0))) := ⟨h2_⟩
    replace HB : Aside0 (Below w.heap.size w wn_) := ⟨h3_⟩
    clear h0_ h1_ h2_ h3_
    skip
    have hHeld : wn_.cell? ⟨aa, 0, none⟩ = some (.slice A0 b.length c0) ∧ wn_.cell? ⟨aa, 1, none⟩ = some (.slice A1 d.length c1) ∧ wn_.cell? ⟨aa, 2, none⟩ = some (.slice A2 u.length c2) ∧ wn_.cell? ⟨aa, 3, none⟩ = some (.slice A3 p.length c3) ∧ wn_.cell? ⟨aa, 4, none⟩ = some (.slice A4 it.length c4) ∧ wn_.cell? ⟨aa, 5, none⟩ = some (.slice A5 wh.length c5) := (Yz6 BK1.1)
    refine YNb ?_
    refine one_ (i := 10) (N := some 5) (YA 12 2047) rfl rfl (by kernel_rfl) (by decide) (fun K hK => ?_)
    refine Yy 5 YN6 29 ?_
    intro ab hg w3 hbox hb
    have BK5 := Ya hbox
    have ad := Ya (by rw [hg]; exact Z7 Q0 : w.heap.size ≤ ab)
    have N15 := Ya (by rw [hg]; exact Nat.ne_of_lt (blk_lt Q25) : aa ≠ ab)
    have N25 := Ya (by rw [hg]; exact Nat.ne_of_lt (blk_lt Q28) : ac ≠ ab)
    replace HV := Ya (SwV.below (Qm1 HV.1) hb)
    replace BK1 := Ya (Z25 Q25 hb)
    replace BK2 := Ya (Z25 Q28 hb)
    replace HB := Yh hb
    refine hK.out _ _ (Yz6 BK1.1) (fun hHeld => ?_)
    clear hK K
    refine YNa 5 ?_
    exact norm_ Q9 (hJ2_5_8_10 (v0, v1, v2, v3, v4, v5, ab) _ ⟨HV.1, BK1.1, BK2.1, BK5.1, ad.1, N15.1, N25.1, HB.1⟩)
  rintro ⟨v0, v1, v2, v3, v4, v5, ab⟩ wn_ ⟨h0_, h1_, h2_, h3_, h4_, h5_, h6_, h7_⟩
  replace HV : Aside0 (SwV wn_ w.heap.size v0 v1 v2 v3 v4 v5 b1 d1 u1 p1 it1 wh1) := ⟨h0_⟩
  replace BK1 : Aside0 (wn_.heap[aa]? = some (.cells #[.slice A0 b.length c0, .slice A1 d.length c1, .slice A2 u.length c2, .slice A3 p.length c3, .slice A4 it.length c4, .slice A5 wh.length c5] 29 (0, 0))) := ⟨h1_⟩
  replace BK2 : Aside0 (wn_.heap[ac]? = some (.cells YN6 29 (0, 0))) := ⟨h2_⟩
  replace BK5 : Aside0 (wn_.heap[ab]? = some (.cells YN6 29 (0, 0))) := ⟨h3_⟩
  replace ad : Aside0 (w.heap.size ≤ ab) := ⟨h4_⟩
  replace N15 : Aside0 (aa ≠ ab) := ⟨h5_⟩
  replace N25 : Aside0 (ac ≠ ab) := ⟨h6_⟩
  replace HB : Aside0 (Below w.heap.size w wn_) := ⟨h7_⟩
  clear h0_ h1_ h2_ h3_ h4_ h5_ h6_ h7_
  have hHeld : wn_.cell? ⟨aa, 0, none⟩ = some (.slice A0 b.length c0) ∧ wn_.cell? ⟨aa, 1, none⟩ = some (.slice A1 d.length c1) ∧ wn_.cell? ⟨aa, 2, none⟩ = some (.slice A2 u.length c2) ∧ wn_.cell? ⟨aa, 3, none⟩ = some (.slice A3 p.length c3) ∧ wn_.cell? ⟨aa, 4, none⟩ = some (.slice A4 it.length c4) ∧ wn_.cell? ⟨aa, 5, none⟩ = some (.slice A5 wh.length c5) := (Yz6 BK1.1)
  refine YNb ?_
  obtain ⟨B0, e0, q0⟩ := Z15 HV.1.r0
  obtain ⟨B1, e1, q1⟩ := Z15 HV.1.r1
  obtain ⟨B2, e2, q2⟩ := Z15 HV.1.r2
  obtain ⟨B3, e3, q3⟩ := Z15 HV.1.r3
  obtain ⟨B4, e4, q4⟩ := Z15 HV.1.r4
  obtain ⟨B5, e5, q5⟩ := Z15 HV.1.r5
  subst q0 q1 q2 q3 q4 q5
  have hn15 := N15.1
  have hn25 := N25.1
  have hn15' := N15.1.symm
  have hn25' := N25.1.symm
  have hcd0 := (Z20 BK5.1 0).trans rfl
  have hfd0 := Z21 BK5.1 0
  have hcd1 := (Z20 BK5.1 1).trans rfl
  have hfd1 := Z21 BK5.1 1
  have hcd2 := (Z20 BK5.1 2).trans rfl
  have hfd2 := Z21 BK5.1 2
  have hcd3 := (Z20 BK5.1 3).trans rfl
  have hfd3 := Z21 BK5.1 3
  have hcd4 := (Z20 BK5.1 4).trans rfl
  have hfd4 := Z21 BK5.1 4
  have hcd5 := (Z20 BK5.1 5).trans rfl
  have hfd5 := Z21 BK5.1 5
  refine last_ (i := 11) (N := none) (YA 12 4095) rfl rfl (by kernel_rfl) (by decide) (fun K hK => ?_)
  refine YNc ?_
  refine hK.out _ _ ?_
  clear hK K
  refine done_ (by kernel_rfl) ?_
  clear hcd0 hfd0 hcd1 hfd1 hcd2 hfd2 hcd3 hfd3 hcd4 hfd4 hcd5 hfd5
  replace HV := Ya (SwV.set6 HV.1 BK5.1 (by decide) (by decide) (.slice B0 b1.length e0) (.slice B1 d1.length e1) (.slice B2 u1.length e2) (.slice B3 p1.length e3) (.slice B4 it1.length e4) (.slice B5 wh1.length e5))
  replace BK5 := Ya (set6_at BK5.1 (.slice B0 b1.length e0) (.slice B1 d1.length e1) (.slice B2 u1.length e2) (.slice B3 p1.length e3) (.slice B4 it1.length e4) (.slice B5 wh1.length e5))
  replace BK1 := Ya ((set6_far _ ab (.slice B0 b1.length e0) (.slice B1 d1.length e1) (.slice B2 u1.length e2) (.slice B3 p1.length e3) (.slice B4 it1.length e4) (.slice B5 wh1.length e5) aa N15.1).trans BK1.1)
  replace BK2 := Ya ((set6_far _ ab (.slice B0 b1.length e0) (.slice B1 d1.length e1) (.slice B2 u1.length e2) (.slice B3 p1.length e3) (.slice B4 it1.length e4) (.slice B5 wh1.length e5) ac N25.1).trans BK2.1)
  replace HB := Ya (set6_below HB.1 ad.1 (.slice B0 b1.length e0) (.slice B1 d1.length e1) (.slice B2 u1.length e2) (.slice B3 p1.length e3) (.slice B4 it1.length e4) (.slice B5 wh1.length e5))
  unfold set6 at BK5 HV BK1 BK2 HB
  generalize ((((((wn_.setCell ⟨ab, 0, none⟩ (.slice B0 b1.length e0)).setCell ⟨ab, 1, none⟩ (.slice B1 d1.length e1)).setCell ⟨ab, 2, none⟩ (.slice B2 u1.length e2)).setCell ⟨ab, 3, none⟩ (.slice B3 p1.length e3)).setCell ⟨ab, 4, none⟩ (.slice B4 it1.length e4)).setCell ⟨ab, 5, none⟩ (.slice B5 wh1.length e5)) = w5 at BK5 HV BK1 BK2 HB ⊢
  have h := HH.1
  clear HH
  go_step
  go_step
  by_cases ce : 0 < p1.length ∧ b1.length ≤ 1000 ∧ rd p1 0 = (b1.length : Int)
  ·rw [if_pos ce] at h
   simp only [Option.some.injEq, Prod.mk.injEq] at h
   obtain ⟨rfl, rfl, rfl, rfl, rfl, rfl, rfl, rfl⟩ := h
   obtain ⟨g3, c3', e3', _⟩ := Kd.R_form HV.1.r3 ce.1
   injection e3' with x3 _ _
   subst x3
   have HX : Aside0 (w5.cell? ⟨g3, 0, none⟩ = some (.int .i64 (b1.length : Int))) := ⟨by have h_ := (Kd.R_celln 0 HV.1.r3 0 (by decide) (by exact_mod_cast ce.1)).1; rw [show rdOf 0 p1 0 = rd p1 0 from rfl, ce.2.2] at h_; exact h_⟩
   go_wp2_with (first | ((with_reducible refine gate_callee (f := 27) rfl ?_); refine Yz 21 Tryz.func27 #[.pointer (some ⟨ab, 0, none⟩)] ?_ (hargs := Q19); (with_reducible refine (impl_Swapper_step.callsEnd _ _ ab g3 b1.length e0 p1.length e3 B0 _ rfl rfl ce.1 ce.2.1 BK5.1 HX.1).mono ?_); rintro e w6 ⟨rfl, hb⟩; refine ⟨_, rfl, ?_⟩; replace BK2 := Ya (Z25 Q28 hb); replace HB := Yh hb; clear hb; have hcb0 := (Z20 BK2.1 0).trans rfl; have hfb0 := Z21 BK2.1 0; have hcb1 := (Z20 BK2.1 1).trans rfl; have hfb1 := Z21 BK2.1 1; have hcb2 := (Z20 BK2.1 2).trans rfl; have hfb2 := Z21 BK2.1 2; have hcb3 := (Z20 BK2.1 3).trans rfl; have hfb3 := Z21 BK2.1 3; have hcb4 := (Z20 BK2.1 4).trans rfl; have hfb4 := Z21 BK2.1 4; have hcb5 := (Z20 BK2.1 5).trans rfl; have hfb5 := Z21 BK2.1 5))
   refine bodyPost_ret (results_ctt rfl _ _ ac 29 YN6 (0, 0) _ rfl Q63 hu rfl (by kernel_rfl)) rfl ?_
   have hbb := set6_below HB.1 ay.1 (.slice none 0 0) (.slice none 0 0) (.slice none 0 0) (.slice none 0 0) (.slice none 0 0) (.slice none 0 0)
   unfold set6 at hbb
   exact ⟨_, _, _, _, _, _, rfl, Kd.R_nil _ _ _ _ _, Kd.R_nil _ _ _ _ _, Kd.R_nil _ _ _ _ _, Kd.R_nil _ _ _ _ _, Kd.R_nil _ _ _ _ _, Kd.R_nil _ _ _ _ _, hbb⟩
  ·rw [if_neg ce] at h
   obtain ⟨⟨d2, u2, p2, it2, wh2, j⟩, hs, h⟩ := Z33.mp h
   simp only [Option.some.injEq, Prod.mk.injEq] at h
   obtain ⟨rfl, rfl, rfl, rfl, rfl, rfl, rfl, rfl⟩ := h
   have hj : decide (j < 0) = false := Z34 (by have := impl_StepSwapper.at hs; omega)
   obtain ⟨hl, hl0, hl1, hl2, hl3, hl4, hl5⟩ := stepS_len hs
   have HS := Ya hs
   have HL := Ya hl
   obtain ⟨g0, p0', g1, p1', g2, p2', g3, p3', g4, p4', g5, p5', e0', e1', e2', e3', e4', e5', hF⟩ := SwR.of HV.1 hl0 hl1 hl2 hl3 hl4 hl5
   injection e0' with x0 _ z0
   injection e1' with x1 _ z1
   injection e2' with x2 _ z2
   injection e3' with x3 _ z3
   injection e4' with x4 _ z4
   injection e5' with x5 _ z5
   subst x0 z0 x1 z1 x2 z2 x3 z3 x4 z4 x5 z5
   have HF := Ya hF
   clear hs hl hl0 hl1 hl2 hl3 hl4 hl5 hF ce HV
   go_wp2_with (first | ((with_reducible refine gate_callee (f := 27) rfl ?_); refine Yz 21 Tryz.func27 #[.pointer (some ⟨ab, 0, none⟩)] ?_ (hargs := Q19); (with_reducible refine (impl_Swapper_step.calls w ab g0 e0 g1 e1 g2 e2 g3 e3 g4 e4 g5 e5 b1 d1 u1 p1 it1 wh1 d2 u2 p2 it2 wh2 j _ BK5.1 HF.1 HB.1 HS.1).mono ?_); rintro e w6 ⟨rfl, hk1, hk2, hk3, hk4⟩; refine ⟨_, rfl, ?_⟩; have a2_ := FoR.apart HF.1.f BK2.1 (by decide) (by decide); have b2_ := SwR.apart HF.1 BK2.1 (by decide); replace BK2 := Ya (blk_kept BK2.1 hk3 (fun e => by rcases e with (e | e | e) | e | e; exact a2_.2.1 e; exact a2_.2.2.1 e; exact a2_.2.2.2 e; exact b2_.1 e; exact b2_.2 e)); replace BK5 := Ya (hk1.trans BK5.1); replace HF := Ya hk2; replace HB := Ya hk4; clear hk1 hk2 hk3 hk4 a2_ b2_ BK1; have hcd0 := (Z20 BK5.1 0).trans rfl; have hfd0 := Z21 BK5.1 0; have hcd1 := (Z20 BK5.1 1).trans rfl; have hfd1 := Z21 BK5.1 1; have hcd2 := (Z20 BK5.1 2).trans rfl; have hfd2 := Z21 BK5.1 2; have hcd3 := (Z20 BK5.1 3).trans rfl; have hfd3 := Z21 BK5.1 3; have hcd4 := (Z20 BK5.1 4).trans rfl; have hfd4 := Z21 BK5.1 4; have hcd5 := (Z20 BK5.1 5).trans rfl; have hfd5 := Z21 BK5.1 5; have hcb0 := (Z20 BK2.1 0).trans rfl; have hfb0 := Z21 BK2.1 0; have hcb1 := (Z20 BK2.1 1).trans rfl; have hfb1 := Z21 BK2.1 1; have hcb2 := (Z20 BK2.1 2).trans rfl; have hfb2 := Z21 BK2.1 2; have hcb3 := (Z20 BK2.1 3).trans rfl; have hfb3 := Z21 BK2.1 3; have hcb4 := (Z20 BK2.1 4).trans rfl; have hfb4 := Z21 BK2.1 4; have hcb5 := (Z20 BK2.1 5).trans rfl; have hfb5 := Z21 BK2.1 5))
   have hv := SwR.back HF.1
   rw [HL.1.1, HL.1.2.1, HL.1.2.2.1, HL.1.2.2.2.1, HL.1.2.2.2.2] at hv
   refine bodyPost_ret (results_ctt rfl _ _ ac 29 #[.slice (some ⟨g0, 0, none⟩) b1.length e0, .slice (some ⟨g1, 0, none⟩) d1.length e1, .slice (some ⟨g2, 0, none⟩) u1.length e2, .slice (some ⟨g3, 0, none⟩) p1.length e3, .slice (some ⟨g4, 0, none⟩) it1.length e4, .slice (some ⟨g5, 0, none⟩) wh1.length e5] (0, 0) _ rfl (by have h_ := set6_at BK2.1 (.slice (some ⟨g0, 0, none⟩) b1.length e0) (.slice (some ⟨g1, 0, none⟩) d1.length e1) (.slice (some ⟨g2, 0, none⟩) u1.length e2) (.slice (some ⟨g3, 0, none⟩) p1.length e3) (.slice (some ⟨g4, 0, none⟩) it1.length e4) (.slice (some ⟨g5, 0, none⟩) wh1.length e5); unfold set6 at h_; exact h_) hu rfl (by kernel_rfl)) rfl ?_
   have hbb := set6_below HB.1 ay.1 (.slice (some ⟨g0, 0, none⟩) b1.length e0) (.slice (some ⟨g1, 0, none⟩) d1.length e1) (.slice (some ⟨g2, 0, none⟩) u1.length e2) (.slice (some ⟨g3, 0, none⟩) p1.length e3) (.slice (some ⟨g4, 0, none⟩) it1.length e4) (.slice (some ⟨g5, 0, none⟩) wh1.length e5)
   have hv2 := SwV.set6 hv BK2.1 (by decide) (by decide) (.slice (some ⟨g0, 0, none⟩) b1.length e0) (.slice (some ⟨g1, 0, none⟩) d1.length e1) (.slice (some ⟨g2, 0, none⟩) u1.length e2) (.slice (some ⟨g3, 0, none⟩) p1.length e3) (.slice (some ⟨g4, 0, none⟩) it1.length e4) (.slice (some ⟨g5, 0, none⟩) wh1.length e5)
   unfold set6 at hbb hv2
   exact ⟨_, _, _, _, _, _, rfl, hv2.r0, hv2.r1, hv2.r2, hv2.r3, hv2.r4, hv2.r5, hbb⟩
def spec_foSize.f (a0 : Int) : Option (Bool) := (spec_l1In.f a0 1 7).bind fun aa => (some aa)
theorem spec_foSize.calls (a0 : Int) (r : Bool) (w : World) (h : spec_foSize.f a0 = some r) :
  Calls Tryz.prog 44 #[.int .i64 a0] w fun e w' => e = .returned (.bool r) ∧ Drawn0 w w' := by
 have H : ((spec_l1In.f a0 1 7).bind fun aa => (some aa)) = some r := h
 clear h
 replace H := YB H
 obtain ⟨aa, A2, H⟩ := H
 obtain rfl := Option.some.inj H
 go_enter Tryz.func44, Tryz.ntmps44
 go_wp2_with (first | ((with_reducible refine gate_callee (f := 45) rfl ?_); refine Yz 4 Tryz.func45 #[.int .i64 a0, .int .i64 1, .int .i64 7] ?_; (with_reducible refine (spec_l1In.calls a0 1 7 aa _ A2.1).mono ?_); rintro e w' ⟨rfl, ⟨nd, rfl⟩⟩; refine ⟨_, rfl, ?_⟩))
 go_ret
 exact ⟨Q24, Q16⟩
def spec_l1Has.l0 : Nat → Int → List Int → Int → Int → Option (Bool)
 | 0, _, _, _, _ => none
 | k + 1, x1, x7, x8, x9 => if x9 < x8 then (if 0 ≤ x9 then (if x9 < (x7.length : Int) then (if (rd x7 x9) = x1 then (some true) else (spec_l1Has.l0 k x1 x7 x8 (wrap64 (x9 + 1)))) else (none)) else (none)) else (some false)
def spec_l1Has.f (k : Nat) (l0 : List Int) (a1 : Int) : Option (Bool) := spec_l1Has.l0 k a1 l0 (l0.length : Int) 0
theorem spec_l1Has.calls (k : Nat) (A0 : Option Addr) (c0 : Nat) (l0 : List Int) (a1 : Int) (r : Bool) (w : World) (aj : Kd.C (Kd.int .i64) w A0 l0.length l0) (ak : l0.length ≤ c0) (h : spec_l1Has.f k l0 a1 = some r) :
  Calls Tryz.prog 79 #[.slice A0 l0.length c0, .int .i64 a1] w fun e w' => e = .returned (.bool r) ∧ Drawn0 w w' := by
 have HR0 := Ya aj
 have an := Ya ak
 clear aj ak
 have H : (spec_l1Has.l0 k a1 l0 (l0.length : Int) 0) = some r := h
 clear h
 have H' := Ya H
 clear H
 go_enter Tryz.func79, Tryz.ntmps79
 go_wp2
 go_loopg [9] k (fun kq v9 w' => ∃ (aa : Int), v9 = .int .i64 aa ∧ Aside0 (spec_l1Has.l0 kq a1 l0 (l0.length : Int) aa = some r) ∧ Aside0 (kq ≤ k) ∧ Drawn0 w w')
 case atStart => exact ⟨(0), Q17, H', ⟨Nat.le_refl _⟩, Q16⟩
 case round =>
  clear H'
  obtain ⟨aa, rfl, HA, HK1, ⟨m1, rfl⟩⟩ := hrel
  cases gk with
  | zero => exact absurd HA.1 (by simp [spec_l1Has.l0])
  | succ k1 =>
   have H := HA.1
   clear HA
   simp only [spec_l1Has.l0] at H
   by_cases c3 : aa < (l0.length : Int)
   ·rw [if_pos c3] at H
    have ag := Z35 c3
    clear c3
    by_cases c4 : 0 ≤ aa
    ·rw [if_pos c4] at H
     have al := Z35 c4
     clear c4
     by_cases c5 : aa < (l0.length : Int)
     ·rw [if_pos c5] at H
      have am := Z35 c5
      clear c5
      by_cases c6 : (rd l0 aa) = a1
      ·rw [if_pos c6] at H
       have ah : ((rd l0 aa) == a1) = true := beq_iff_eq.mpr c6
       have ai : ((rd l0 aa) != a1) = false := bne_eq_false_iff_eq.mpr c6
       clear c6
       obtain rfl := Option.some.inj H
       have ab : 0 ≤ (aa : Int) := Z27 Q5
       have ac : aa < (l0.length : Int) := Z27 Q5
       obtain ⟨af, ae, ad⟩ := Kd.at_int HR0.1 aa ab ac
       cases ae
       replace ab := eq_true ab
       replace ac := eq_true ac
       go_wp2
       go_ret
       exact ⟨Q24, Q16⟩
      ·rw [if_neg c6] at H
       have ah : ((rd l0 aa) == a1) = false := beq_eq_false_iff_ne.mpr c6
       have ai : ((rd l0 aa) != a1) = true := bne_iff_ne.mpr c6
       have H' := Ya H
       clear H
       have ab : 0 ≤ (aa : Int) := Z27 Q5
       have ac : aa < (l0.length : Int) := Z27 Q5
       obtain ⟨af, ae, ad⟩ := Kd.at_int HR0.1 aa ab ac
       cases ae
       replace ab := eq_true ab
       replace ac := eq_true ac
       go_wp2
       go_roundg k1
       case measure => have := HK1.1; omega
       case rel => exact ⟨(wrap64 (aa + 1)), Q17, H', ⟨Q35⟩, Q16⟩
     ·rw [if_neg c5] at H
      exact absurd H (by simp)
    ·rw [if_neg c4] at H
     exact absurd H (by simp)
   ·rw [if_neg c3] at H
    have ag := Z34 c3
    clear c3
    obtain rfl := Option.some.inj H
    go_wp2
    go_ret
    exact ⟨Q24, Q16⟩
def spec_raPermutation.l0 : Nat → List Int → List Int → Int → Int → Option (Bool)
 | 0, _, _, _, _ => none
 | k + 1, x0, x5, x6, x7 => if x7 < x6 then (if 0 ≤ x7 then (if x7 < (x5.length : Int) then (if x7 ≥ 12 then (some false) else ((spec_l1In.f (rd x5 x7) 0 (wrap64 ((x0.length : Int) - 1))).bind fun aa => (if aa = true then (if x7 ≤ (x0.length : Int) then ((spec_l1Has.f k (x0.take (x7 : Int).toNat) (rd x5 x7)).bind fun ab => (if ab = true then (some false) else (spec_raPermutation.l0 k x0 x5 x6 (wrap64 (x7 + 1))))) else (none)) else (some false)))) else (none)) else (none)) else (some true)
def spec_raPermutation.f (k : Nat) (l0 : List Int) : Option (Bool) := spec_raPermutation.l0 k l0 l0 (l0.length : Int) 0
theorem spec_raPermutation.calls (k : Nat) (A0 : Option Addr) (c0 : Nat) (l0 : List Int) (r : Bool) (w : World) (an : Kd.C (Kd.int .i64) w A0 l0.length l0) (ao : l0.length ≤ c0) (h : spec_raPermutation.f k l0 = some r) :
  Calls Tryz.prog 52 #[.slice A0 l0.length c0] w fun e w' => e = .returned (.bool r) ∧ Drawn0 w w' := by
 have HR0 := Ya an
 have ap := Ya ao
 clear an ao
 have H : (spec_raPermutation.l0 k l0 l0 (l0.length : Int) 0) = some r := h
 clear h
 have H' := Ya H
 clear H
 go_enter Tryz.func52, Tryz.ntmps52
 go_wp2
 go_loopg [7] k (fun kq v7 w' => ∃ (aa : Int), v7 = .int .i64 aa ∧ Aside0 (spec_raPermutation.l0 kq l0 l0 (l0.length : Int) aa = some r) ∧ Aside0 (kq ≤ k) ∧ Drawn0 w w')
 case atStart => exact ⟨(0), Q17, H', ⟨Nat.le_refl _⟩, Q16⟩
 case round =>
  clear H'
  obtain ⟨aa, rfl, HA, HK1, ⟨m1, rfl⟩⟩ := hrel
  cases gk with
  | zero => exact absurd HA.1 (by simp [spec_raPermutation.l0])
  | succ k1 =>
   have H := HA.1
   clear HA
   simp only [spec_raPermutation.l0] at H
   by_cases c2 : aa < (l0.length : Int)
   ·rw [if_pos c2] at H
    have al := Z35 c2
    clear c2
    by_cases c3 : 0 ≤ aa
    ·rw [if_pos c3] at H
     have aq := Z35 c3
     clear c3
     by_cases c4 : aa < (l0.length : Int)
     ·rw [if_pos c4] at H
      have ar := Z35 c4
      clear c4
      by_cases c5 : aa ≥ 12
      ·rw [if_pos c5] at H
       have am : decide (12 ≤ aa) = true := Z35 c5
       clear c5
       obtain rfl := Option.some.inj H
       have ab : 0 ≤ (aa : Int) := Z27 Q5
       have ac : aa < (l0.length : Int) := Z27 Q5
       obtain ⟨ae, ah, ad⟩ := Kd.at_int HR0.1 aa ab ac
       cases ah
       replace ab := eq_true ab
       replace ac := eq_true ac
       go_wp2
       go_ret
       exact ⟨Q24, Q16⟩
      ·rw [if_neg c5] at H
       have am : decide (12 ≤ aa) = false := Z34 c5
       clear c5
       replace H := YB H
       obtain ⟨au, A6, H⟩ := H
       replace H := YC H
       obtain ⟨rfl, H⟩ | ⟨rfl, H⟩ := H
       ·have av := eq_true (Z27 Q5 : 0 ≤ aa)
        by_cases c9 : aa ≤ (l0.length : Int)
        ·rw [if_pos c9] at H
         have aw := eq_true c9
         have ax := Z35 c9
         have HLEc9 := Ya c9
         clear c9
         replace H := YB H
         obtain ⟨ay, ak, H⟩ := H
         replace H := YC H
         obtain ⟨rfl, H⟩ | ⟨rfl, H⟩ := H
         ·obtain rfl := Option.some.inj H
          have ab : 0 ≤ (aa : Int) := Z27 Q5
          have ac : aa < (l0.length : Int) := Z27 Q5
          obtain ⟨ae, ah, ad⟩ := Kd.at_int HR0.1 aa ab ac
          cases ah
          replace ab := eq_true ab
          replace ac := eq_true ac
          go_wp2_with (first | (go_at_call 45; (with_reducible refine (spec_l1In.calls (rd l0 aa) 0 (wrap64 ((l0.length : Int) - 1)) true _ A6.1).mono ?_); rintro e w' ⟨rfl, ⟨nd, rfl⟩⟩; obtain ⟨az, hi012, _, hsz12, _⟩ := info_parts info3; obtain ⟨hcut12, hA12, hC12⟩ := print_take_of (P := Tryz.prog) (Value.int .i64) 0 24 3 .i64 Tryz.underlying24 hi012 hsz12 (some ae) c0 l0 aa (Z27 Q5) (Z27 Q5) ap.1; have ai := Ya (Kd.C_of_reads (h1 := fun _ => rfl) (hA12 _ (Kd.reads_of_C HR0.1))); have aj := Ya hC12; clear hA12 hC12 hi012 hsz12) | (go_at_call 79; (first | (with_reducible refine (spec_l1Has.calls k1 _ _ (l0.take (aa : Int).toNat) (rd l0 aa) true _ ?af ?ag ak.1).mono ?_) | (refine lenEq (show (l0.take (aa : Int).toNat).length = (aa : Int).toNat from (by rw [Z29]; have h_ := (‹Aside0 (aa ≤ (l0.length : Int))›).out; omega)) ?_; (with_reducible refine (spec_l1Has.calls k1 _ _ (l0.take (aa : Int).toNat) (rd l0 aa) true _ ?af ?ag ak.1).mono ?_))); (case af => exact Yc ai.1); (case ag => exact aj.1); rintro e w' ⟨rfl, ⟨nd, rfl⟩⟩))
          go_ret
          exact ⟨Q24, Q16⟩
         ·have H' := Ya H
          clear H
          have ab : 0 ≤ (aa : Int) := Z27 Q5
          have ac : aa < (l0.length : Int) := Z27 Q5
          obtain ⟨ae, ah, ad⟩ := Kd.at_int HR0.1 aa ab ac
          cases ah
          replace ab := eq_true ab
          replace ac := eq_true ac
          go_wp2_with (first | (go_at_call 45; (with_reducible refine (spec_l1In.calls (rd l0 aa) 0 (wrap64 ((l0.length : Int) - 1)) true _ A6.1).mono ?_); rintro e w' ⟨rfl, ⟨nd, rfl⟩⟩; obtain ⟨aA, hi013, _, hsz13, _⟩ := info_parts info3; obtain ⟨hcut13, hA13, hC13⟩ := print_take_of (P := Tryz.prog) (Value.int .i64) 0 24 3 .i64 Tryz.underlying24 hi013 hsz13 (some ae) c0 l0 aa (Z27 Q5) (Z27 Q5) ap.1; have ai := Ya (Kd.C_of_reads (h1 := fun _ => rfl) (hA13 _ (Kd.reads_of_C HR0.1))); have aj := Ya hC13; clear hA13 hC13 hi013 hsz13) | (go_at_call 79; (first | (with_reducible refine (spec_l1Has.calls k1 _ _ (l0.take (aa : Int).toNat) (rd l0 aa) false _ ?af ?ag ak.1).mono ?_) | (refine lenEq (show (l0.take (aa : Int).toNat).length = (aa : Int).toNat from (by rw [Z29]; have h_ := (‹Aside0 (aa ≤ (l0.length : Int))›).out; omega)) ?_; (with_reducible refine (spec_l1Has.calls k1 _ _ (l0.take (aa : Int).toNat) (rd l0 aa) false _ ?af ?ag ak.1).mono ?_))); (case af => exact Yc ai.1); (case ag => exact aj.1); rintro e w' ⟨rfl, ⟨nd, rfl⟩⟩))
          go_roundg k1
          case measure => have := HK1.1; omega
          case rel => exact ⟨(wrap64 (aa + 1)), Q17, H', ⟨Q35⟩, Q16⟩
        ·rw [if_neg c9] at H
         exact absurd H (by simp)
       ·obtain rfl := Option.some.inj H
        have ab : 0 ≤ (aa : Int) := Z27 Q5
        have ac : aa < (l0.length : Int) := Z27 Q5
        obtain ⟨ae, ah, ad⟩ := Kd.at_int HR0.1 aa ab ac
        cases ah
        replace ab := eq_true ab
        replace ac := eq_true ac
        go_wp2_with (first | (go_at_call 45; (with_reducible refine (spec_l1In.calls (rd l0 aa) 0 (wrap64 ((l0.length : Int) - 1)) false _ A6.1).mono ?_); rintro e w' ⟨rfl, ⟨nd, rfl⟩⟩))
        go_ret
        exact ⟨Q24, Q16⟩
     ·rw [if_neg c4] at H
      exact absurd H (by simp)
    ·rw [if_neg c3] at H
     exact absurd H (by simp)
   ·rw [if_neg c2] at H
    have al := Z34 c2
    clear c2
    obtain rfl := Option.some.inj H
    go_wp2
    go_ret
    exact ⟨Q24, Q16⟩
def spec_gcMixedRank.f : Nat → List Int → List Int → Option (Int)
 | 0, _, _ => none
 | k + 1, l0, l1 => if (l0.length : Int) = 0 then (some 0) else (if 1 ≤ (l0.length : Int) then ((spec_raProduct.f k (l0.drop 1)).bind fun aa => (if 1 ≤ (l1.length : Int) then ((spec_gcMixedRank.f k (l0.drop 1) (l1.drop 1)).bind fun ab => (if 0 < (l1.length : Int) then (if (Int.tmod (rd l1 0) 2) = 1 then (some (wrap64 ((wrap64 ((rd l1 0) * aa)) + (wrap64 ((wrap64 (aa - 1)) - ab))))) else (some (wrap64 ((wrap64 ((rd l1 0) * aa)) + ab)))) else (none))) else (none))) else (none))
theorem spec_gcMixedRank.calls (k : Nat) : ∀ (A0 : Option Addr) (c0 : Nat) (l0 : List Int) (A1 : Option Addr) (c1 : Nat) (l1 : List Int) (r : Int) (w : World) (aE : Kd.C (Kd.int .i64) w A0 l0.length l0) (aF : l0.length ≤ c0) (aG : Kd.C (Kd.int .i64) w A1 l1.length l1) (aH : l1.length ≤ c1) (h : spec_gcMixedRank.f k l0 l1 = some r),
  Calls Tryz.prog 54 #[.slice A0 l0.length c0, .slice A1 l1.length c1] w fun e w' => e = .returned (.int .i64 r) ∧ Below w.heap.size w w' := by
 induction k using Nat.strongRecOn with
 | _ k ih =>
 intro A0 c0 l0 A1 c1 l1 r w aE aF aG aH h
 cases k with
 | zero => exact absurd h (by simp [spec_gcMixedRank.f])
 | succ k =>
 simp only [spec_gcMixedRank.f] at h
 have HR0 := Ya aE
 have aM := Ya aF
 clear aE aF
 have az := Ya aG
 have aN := Ya aH
 clear aG aH
 have HB := Ya (Below.refl w.heap.size w)
 have H : (if (l0.length : Int) = 0 then (some 0) else (if 1 ≤ (l0.length : Int) then ((spec_raProduct.f k (l0.drop 1)).bind fun al => (if 1 ≤ (l1.length : Int) then ((spec_gcMixedRank.f k (l0.drop 1) (l1.drop 1)).bind fun am => (if 0 < (l1.length : Int) then (if (Int.tmod (rd l1 0) 2) = 1 then (some (wrap64 ((wrap64 ((rd l1 0) * al)) + (wrap64 ((wrap64 (al - 1)) - am))))) else (some (wrap64 ((wrap64 ((rd l1 0) * al)) + am)))) else (none))) else (none))) else (none))) = some r := h
 clear h
 by_cases c3 : (l0.length : Int) = 0
 ·rw [if_pos c3] at H
  have aI : ((l0.length : Int) == 0) = true := beq_iff_eq.mpr c3
  have aJ : ((l0.length : Int) != 0) = false := bne_eq_false_iff_eq.mpr c3
  clear c3
  obtain rfl := Option.some.inj H
  go_enter Tryz.func54, Tryz.ntmps54
  go_wp2
  go_ret
  exact ⟨Q2, Q12⟩
 ·rw [if_neg c3] at H
  have aI : ((l0.length : Int) == 0) = false := beq_eq_false_iff_ne.mpr c3
  have aJ : ((l0.length : Int) != 0) = true := bne_iff_ne.mpr c3
  have aQ : ¬ (l0 = []) := fun h_ => c3 (by rw [h_]; rfl)
  by_cases c4 : 1 ≤ (l0.length : Int)
  ·rw [if_pos c4] at H
   have aR := eq_true c4
   have aS := Z35 c4
   have HLEc4 := Ya c4
   clear c4
   replace H := YB H
   obtain ⟨al, A5, H⟩ := H
   have aT := eq_true (Z27 Q5 : 1 ≤ (l0.length : Int))
   by_cases c7 : 1 ≤ (l1.length : Int)
   ·rw [if_pos c7] at H
    have aU := eq_true c7
    have aV := Z35 c7
    have HLEc7 := Ya c7
    clear c7
    replace H := YB H
    obtain ⟨am, A8, H⟩ := H
    by_cases c9 : 0 < (l1.length : Int)
    ·rw [if_pos c9] at H
     have aW := Z35 c9
     have aX : decide (0 < l1.length) = true := Z35 (by omega)
     clear c9
     by_cases c10 : (Int.tmod (rd l1 0) 2) = 1
     ·rw [if_pos c10] at H
      have aA : ((Int.tmod (rd l1 0) 2) == 1) = true := beq_iff_eq.mpr c10
      have aB : ((Int.tmod (rd l1 0) 2) != 1) = false := bne_eq_false_iff_eq.mpr c10
      clear c10
      obtain rfl := Option.some.inj H
      obtain ⟨aY, hi011, _, hsz11, _⟩ := info_parts info3
      obtain ⟨aO, hcut11, hA11, hC11⟩ := print_drop_of (P := Tryz.prog) (Value.int .i64) 0 24 3 .i64 Tryz.underlying24 hi011 hsz11 A0 c0 l0 1 (by omega) (Z27 Q5) aM.1
      have af := Ya (Kd.C_of_reads (h1 := fun _ => rfl) (hA11 _ (Kd.reads_of_C HR0.1)))
      have ag := Ya hC11
      clear hA11 hC11 hi011 hsz11
      go_enter Tryz.func54, Tryz.ntmps54
      try go_wp2_with (first | ((with_reducible refine gate_callee (f := 83) rfl ?_); refine Yz 12 Tryz.func83 #[.slice aO (l0.drop 1).length (c0 - 1)] ?_ (hargs := Q44); (with_reducible refine (spec_raProduct.calls k _ _ (l0.drop 1) al _ ?ad ?ae A5.1).mono ?_); (case ad => exact Yc af.1); (case ae => exact ag.1); rintro e w' ⟨rfl, ⟨nd, rfl⟩⟩; refine ⟨_, rfl, ?_⟩))
      replace HB := Ya (Z4 (Z3 HB.1 nd))
      have ah := af
      have an := ag
      obtain ⟨aZ, hi014, _, hsz14, _⟩ := info_parts info3
      obtain ⟨a0, hcut14, hA14, hC14⟩ := print_drop_of (P := Tryz.prog) (Value.int .i64) 0 24 3 .i64 Tryz.underlying24 hi014 hsz14 A1 c1 l1 1 (by omega) (Z27 Q5) aN.1
      have ai := Ya (Kd.C_of_reads (h1 := fun _ => rfl) (hA14 _ (Kd.reads_of_C az.1)))
      have ao := Ya hC14
      clear hA14 hC14 hi014 hsz14
      refine start_ (n := 6) (S := fun w' => True) (ds := []) (YA 6 0) (by kernel_rfl) rfl rfl trivial (fun hHeld => ?_)
      generalize (w.drewN nd).drew = a4 at HB ah ai hHeld ⊢
      refine Yq 0 (some 13) (YA 6 1) rfl ?_
      refine Yq 1 (some 14) (YA 6 3) rfl ?_
      refine Yq 2 (some 15) (YA 6 7) rfl ?_
      refine Yq 3 (some 16) (YA 6 15) rfl ?_
      refine one_ (i := 4) (N := some 17) (YA 6 31) rfl rfl (by kernel_rfl) (by decide) (fun K hK => ?_)
      refine goes_ Tryz.func54 (by kernel_rfl) rfl #[.slice aO (l0.drop 1).length (c0 - 1), .slice a0 (l1.drop 1).length (c1 - 1)] (by rfl) rfl rfl Q36 ?_
      with_reducible refine (ih k (by omega) _ _ (l0.drop 1) _ _ (l1.drop 1) am _ ?ad ?ae ?ap ?aq A8.1).mono ?_
      (case ad => exact Yc (Z19 ah.1 HB.1))
      (case ae => exact an.1)
      (case ap => exact Yc (Z19 ai.1 HB.1))
      (case aq => exact ao.1)
      rintro e a5 ⟨rfl, hb⟩
      refine ⟨_, rfl, ?_⟩
      replace HB := Yh hb
      (try clear hb)
      refine hK.out _ _ trivial (fun hHeld => ?_)
      clear hK K
      refine YNa 17 ?_
      refine Yq 5 (some 6) (YA 6 63) rfl ?_
      refine done_ (by kernel_rfl) ?_
      have aj : 0 ≤ (0 : Int) := (by omega)
      have ak : 0 < (l1.length : Int) := Z27 Q5
      obtain ⟨ar, au, aa⟩ := Kd.at_int az.1 0 aj ak
      cases au
      have qi536 : (0 < l1.length) = True := eq_true (by omega)
      (try rw [show ((0 : Int)).toNat = 0 from rfl] at aa)
      (try rw [Addr.add_zero'] at aa)
      try replace aa := (HB.1.cell (World.block_lt_of_cell? w _ aa)).trans aa
      replace aj := eq_true aj
      replace ak := eq_true ak
      have av : 0 ≤ (0 : Int) := (by omega)
      have aw : 0 < (l1.length : Int) := Z27 Q5
      obtain ⟨aC, aK, ab⟩ := Kd.at_int az.1 0 av aw
      obtain rfl : ar = aC := (by injection aK)
      have qi537 : (0 < l1.length) = True := eq_true (by omega)
      (try rw [show ((0 : Int)).toNat = 0 from rfl] at ab)
      (try rw [Addr.add_zero'] at ab)
      try replace ab := (HB.1.cell (World.block_lt_of_cell? w _ ab)).trans ab
      replace av := eq_true av
      replace aw := eq_true aw
      try go_wp2
      go_ret
      exact ⟨Q2, Q12⟩
     ·rw [if_neg c10] at H
      have aA : ((Int.tmod (rd l1 0) 2) == 1) = false := beq_eq_false_iff_ne.mpr c10
      have aB : ((Int.tmod (rd l1 0) 2) != 1) = true := bne_iff_ne.mpr c10
      obtain rfl := Option.some.inj H
      obtain ⟨a1, hi016, _, hsz16, _⟩ := info_parts info3
      obtain ⟨aP, hcut16, hA16, hC16⟩ := print_drop_of (P := Tryz.prog) (Value.int .i64) 0 24 3 .i64 Tryz.underlying24 hi016 hsz16 A0 c0 l0 1 (by omega) (Z27 Q5) aM.1
      have af := Ya (Kd.C_of_reads (h1 := fun _ => rfl) (hA16 _ (Kd.reads_of_C HR0.1)))
      have ag := Ya hC16
      clear hA16 hC16 hi016 hsz16
      go_enter Tryz.func54, Tryz.ntmps54
      try go_wp2_with (first | ((with_reducible refine gate_callee (f := 83) rfl ?_); refine Yz 12 Tryz.func83 #[.slice aP (l0.drop 1).length (c0 - 1)] ?_ (hargs := Q44); (with_reducible refine (spec_raProduct.calls k _ _ (l0.drop 1) al _ ?ad ?ae A5.1).mono ?_); (case ad => exact Yc af.1); (case ae => exact ag.1); rintro e w' ⟨rfl, ⟨nd, rfl⟩⟩; refine ⟨_, rfl, ?_⟩))
      replace HB := Ya (Z4 (Z3 HB.1 nd))
      have ah := af
      have an := ag
      obtain ⟨a2, hi019, _, hsz19, _⟩ := info_parts info3
      obtain ⟨a3, hcut19, hA19, hC19⟩ := print_drop_of (P := Tryz.prog) (Value.int .i64) 0 24 3 .i64 Tryz.underlying24 hi019 hsz19 A1 c1 l1 1 (by omega) (Z27 Q5) aN.1
      have ai := Ya (Kd.C_of_reads (h1 := fun _ => rfl) (hA19 _ (Kd.reads_of_C az.1)))
      have ao := Ya hC19
      clear hA19 hC19 hi019 hsz19
      refine start_ (n := 6) (S := fun w' => True) (ds := []) (YA 6 0) (by kernel_rfl) rfl rfl trivial (fun hHeld => ?_)
      generalize (w.drewN nd).drew = a6 at HB ah ai hHeld ⊢
      refine Yq 0 (some 13) (YA 6 1) rfl ?_
      refine Yq 1 (some 14) (YA 6 3) rfl ?_
      refine Yq 2 (some 15) (YA 6 7) rfl ?_
      refine Yq 3 (some 16) (YA 6 15) rfl ?_
      refine one_ (i := 4) (N := some 17) (YA 6 31) rfl rfl (by kernel_rfl) (by decide) (fun K hK => ?_)
      refine goes_ Tryz.func54 (by kernel_rfl) rfl #[.slice aP (l0.drop 1).length (c0 - 1), .slice a3 (l1.drop 1).length (c1 - 1)] (by rfl) rfl rfl Q36 ?_
      with_reducible refine (ih k (by omega) _ _ (l0.drop 1) _ _ (l1.drop 1) am _ ?ad ?ae ?ap ?aq A8.1).mono ?_
      (case ad => exact Yc (Z19 ah.1 HB.1))
      (case ae => exact an.1)
      (case ap => exact Yc (Z19 ai.1 HB.1))
      (case aq => exact ao.1)
      rintro e a7 ⟨rfl, hb⟩
      refine ⟨_, rfl, ?_⟩
      replace HB := Yh hb
      (try clear hb)
      refine hK.out _ _ trivial (fun hHeld => ?_)
      clear hK K
      refine YNa 17 ?_
      refine Yq 5 (some 6) (YA 6 63) rfl ?_
      refine done_ (by kernel_rfl) ?_
      have aj : 0 ≤ (0 : Int) := (by omega)
      have ak : 0 < (l1.length : Int) := Z27 Q5
      obtain ⟨ar, au, aa⟩ := Kd.at_int az.1 0 aj ak
      cases au
      have qi536 : (0 < l1.length) = True := eq_true (by omega)
      (try rw [show ((0 : Int)).toNat = 0 from rfl] at aa)
      (try rw [Addr.add_zero'] at aa)
      try replace aa := (HB.1.cell (World.block_lt_of_cell? w _ aa)).trans aa
      replace aj := eq_true aj
      replace ak := eq_true ak
      have ax : 0 ≤ (0 : Int) := (by omega)
      have ay : 0 < (l1.length : Int) := Z27 Q5
      obtain ⟨aD, aL, ac⟩ := Kd.at_int az.1 0 ax ay
      obtain rfl : ar = aD := (by injection aL)
      have qi538 : (0 < l1.length) = True := eq_true (by omega)
      (try rw [show ((0 : Int)).toNat = 0 from rfl] at ac)
      (try rw [Addr.add_zero'] at ac)
      try replace ac := (HB.1.cell (World.block_lt_of_cell? w _ ac)).trans ac
      replace ax := eq_true ax
      replace ay := eq_true ay
      try go_wp2
      go_ret
      exact ⟨Q2, Q12⟩
    ·rw [if_neg c9] at H
     exact absurd H (by simp)
   ·rw [if_neg c7] at H
    exact absurd H (by simp)
  ·rw [if_neg c4] at H
   exact absurd H (by simp)
def spec_l1Same.l0 : Nat → List Int → List Int → Int → Int → Option (Bool)
 | 0, _, _, _, _ => none
 | k + 1, x0, x1, ab, aa => if aa < ab then (if 0 ≤ aa then (if aa < (x0.length : Int) then (if aa < (x1.length : Int) then (if (rd x0 aa) = (rd x1 aa) then (spec_l1Same.l0 k x0 x1 ab (wrap64 (aa + 1))) else (some false)) else (none)) else (none)) else (none)) else (some true)
def spec_l1Same.f (k : Nat) (l0 : List Int) (l1 : List Int) : Option (Bool) := if (l0.length : Int) = (l1.length : Int) then (spec_l1Same.l0 k l0 l1 (l0.length : Int) 0) else (some false)
theorem spec_l1Same.calls (k : Nat) (A0 : Option Addr) (c0 : Nat) (l0 : List Int) (A1 : Option Addr) (c1 : Nat) (l1 : List Int) (r : Bool) (w : World) (ar : Kd.C (Kd.int .i64) w A0 l0.length l0) (au : l0.length ≤ c0) (av : Kd.C (Kd.int .i64) w A1 l1.length l1) (aw : l1.length ≤ c1) (h : spec_l1Same.f k l0 l1 = some r) :
  Calls Tryz.prog 56 #[.slice A0 l0.length c0, .slice A1 l1.length c1] w fun e w' => e = .returned (.bool r) ∧ Drawn0 w w' := by
 have HR0 := Ya ar
 have aC := Ya au
 clear ar au
 have ax := Ya av
 have aD := Ya aw
 clear av aw
 have H : (if (l0.length : Int) = (l1.length : Int) then (spec_l1Same.l0 k l0 l1 (l0.length : Int) 0) else (some false)) = some r := h
 clear h
 by_cases c3 : (l0.length : Int) = (l1.length : Int)
 ·rw [if_pos c3] at H
  have aj : ((l0.length : Int) == (l1.length : Int)) = true := beq_iff_eq.mpr c3
  have ak : ((l0.length : Int) != (l1.length : Int)) = false := bne_eq_false_iff_eq.mpr c3
  have al : (l0.length == l1.length) = true := by first | simpa using c3 | (simp at c3 ⊢; omega)
  clear c3
  have H' := Ya H
  clear H
  go_enter Tryz.func56, Tryz.ntmps56
  go_wp2
  repeat (go_quiet (fail); try go_wp2)
  go_loopg [13] k (fun kq ay w' => ∃ (aa : Int), ay = .int .i64 aa ∧ Aside0 (spec_l1Same.l0 kq l0 l1 (l0.length : Int) aa = some r) ∧ Aside0 (kq ≤ k) ∧ Drawn0 w w')
  case atStart => exact ⟨(0), Q17, H', ⟨Nat.le_refl _⟩, Q16⟩
  case round =>
   clear H'
   try clear c1
   try clear c3
   try clear aj
   try clear ak
   try clear al
   obtain ⟨aa, rfl, HA, HK1, ⟨m1, rfl⟩⟩ := hrel
   cases gk with
   | zero => exact absurd HA.1 (by simp [spec_l1Same.l0])
   | succ k1 =>
    have H := HA.1
    clear HA
    simp only [spec_l1Same.l0] at H
    by_cases c4 : aa < (l0.length : Int)
    ·rw [if_pos c4] at H
     have ao := Z35 c4
     clear c4
     by_cases c5 : 0 ≤ aa
     ·rw [if_pos c5] at H
      have az := Z35 c5
      clear c5
      by_cases c6 : aa < (l0.length : Int)
      ·rw [if_pos c6] at H
       have aA := Z35 c6
       clear c6
       by_cases c7 : aa < (l1.length : Int)
       ·rw [if_pos c7] at H
        have aB := Z35 c7
        clear c7
        by_cases c8 : (rd l0 aa) = (rd l1 aa)
        ·rw [if_pos c8] at H
         have ap : ((rd l0 aa) == (rd l1 aa)) = true := beq_iff_eq.mpr c8
         have aq : ((rd l0 aa) != (rd l1 aa)) = false := bne_eq_false_iff_eq.mpr c8
         clear c8
         have H' := Ya H
         clear H
         have ab : 0 ≤ (aa : Int) := Z27 Q5
         have ac : aa < (l0.length : Int) := Z27 Q5
         obtain ⟨am, ah, af⟩ := Kd.at_int HR0.1 aa ab ac
         cases ah
         replace ab := eq_true ab
         replace ac := eq_true ac
         have ad : 0 ≤ (aa : Int) := Z27 Q5
         have ae : aa < (l1.length : Int) := Z27 Q5
         obtain ⟨an, ai, ag⟩ := Kd.at_int ax.1 aa ad ae
         cases ai
         replace ad := eq_true ad
         replace ae := eq_true ae
         go_wp2
         repeat (go_quiet (fail); try go_wp2)
         go_roundg k1
         case measure => have := HK1.1; omega
         case rel => exact ⟨(wrap64 (aa + 1)), Q17, H', ⟨Q35⟩, Q16⟩
        ·rw [if_neg c8] at H
         have ap : ((rd l0 aa) == (rd l1 aa)) = false := beq_eq_false_iff_ne.mpr c8
         have aq : ((rd l0 aa) != (rd l1 aa)) = true := bne_iff_ne.mpr c8
         obtain rfl := Option.some.inj H
         have ab : 0 ≤ (aa : Int) := Z27 Q5
         have ac : aa < (l0.length : Int) := Z27 Q5
         obtain ⟨am, ah, af⟩ := Kd.at_int HR0.1 aa ab ac
         cases ah
         replace ab := eq_true ab
         replace ac := eq_true ac
         have ad : 0 ≤ (aa : Int) := Z27 Q5
         have ae : aa < (l1.length : Int) := Z27 Q5
         obtain ⟨an, ai, ag⟩ := Kd.at_int ax.1 aa ad ae
         cases ai
         replace ad := eq_true ad
         replace ae := eq_true ae
         go_wp2
         repeat (go_quiet (fail); try go_wp2)
         go_ret
         exact ⟨Q24, Q16⟩
       ·rw [if_neg c7] at H
        exact absurd H (by simp)
      ·rw [if_neg c6] at H
       exact absurd H (by simp)
     ·rw [if_neg c5] at H
      exact absurd H (by simp)
    ·rw [if_neg c4] at H
     have ao := Z34 c4
     clear c4
     obtain rfl := Option.some.inj H
     go_wp2
     repeat (go_quiet (fail); try go_wp2)
     go_ret
     exact ⟨Q24, Q16⟩
 ·rw [if_neg c3] at H
  have aj : ((l0.length : Int) == (l1.length : Int)) = false := beq_eq_false_iff_ne.mpr c3
  have ak : ((l0.length : Int) != (l1.length : Int)) = true := bne_iff_ne.mpr c3
  have al : (l0.length == l1.length) = false := by first | simpa using c3 | (simp at c3 ⊢; omega)
  obtain rfl := Option.some.inj H
  go_enter Tryz.func56, Tryz.ntmps56
  go_wp2
  repeat (go_quiet (fail); try go_wp2)
  go_ret
  exact ⟨Q24, Q16⟩
mutual
def spec_foSame.j0 : Nat → Bool → List Int → List Int → List Bool → List Int → List Int → List Int → List Bool → List Int → Option (Bool)
 | 0, _, _, _, _, _, _, _, _, _ => none
 | k + 1, ai, af, ag, aa, ah, ab, ac, ad, ae => if ai = true then (some false) else (spec_foSame.l0 k aa (aa.length : Int) 0 ab ac ad ae)
def spec_foSame.l0 : Nat → List Bool → Int → Int → List Int → List Int → List Bool → List Int → Option (Bool)
 | 0, _, _, _, _, _, _, _ => none
 | k + 1, af, ag, ae, ab, ac, aa, ad => if ae < ag then (if 0 ≤ ae then (if ae < (af.length : Int) then (if ae < (aa.length : Int) then (if ((rdOf false af ae) != (rdOf false aa ae)) = true then (some false) else (spec_foSame.l0 k af ag (wrap64 (ae + 1)) ab ac aa ad)) else (none)) else (none)) else (none)) else (some true)
end
def spec_foSame.f (k : Nat) (aa : List Int) (ab : List Int) (ac : List Bool) (ad : List Int) (ae : List Int) (af : List Int) (ag : List Bool) (ah : List Int) : Option (Bool) := (spec_l1Same.f k aa ae).bind fun ai => (if ai = true then ((spec_l1Same.f k ab af).bind fun aj => (if aj = true then ((spec_l1Same.f k ad ah).bind fun ak => (if ak = true then (spec_foSame.j0 k ((ac.length : Int) != (ag.length : Int)) aa ab ac ad ae af ag ah) else (spec_foSame.j0 k true aa ab ac ad ae af ag ah))) else (spec_foSame.j0 k true aa ab ac ad ae af ag ah))) else (spec_foSame.j0 k true aa ab ac ad ae af ag ah))
theorem spec_foSame.calls (k : Nat) (ap : Option Addr) (aq : Nat) (ag : List Int) (aD : Option Addr) (aE : Nat) (ak : List Int) (aF : Option Addr) (aG : Nat) (ab : List Bool) (aH : Option Addr) (aI : Nat) (am : List Int) (ar : Option Addr) (au : Nat) (af : List Int) (aJ : Option Addr) (aK : Nat) (aj : List Int) (aL : Option Addr) (aM : Nat) (ac : List Bool) (aN : Option Addr) (aO : Nat) (al : List Int) (r : Bool) (w : World) (a3 : Kd.C (Kd.int .i64) w ap ag.length ag) (a4 : ag.length ≤ aq) (a5 : Kd.C (Kd.int .i64) w aD ak.length ak) (a6 : ak.length ≤ aE) (a7 : Kd.C Kd.bool w aF ab.length ab) (a8 : ab.length ≤ aG) (a9 : Kd.C (Kd.int .i64) w aH am.length am) (ba : am.length ≤ aI) (bb : Kd.C (Kd.int .i64) w ar af.length af) (bc : af.length ≤ au) (bd : Kd.C (Kd.int .i64) w aJ aj.length aj) (be : aj.length ≤ aK) (bf : Kd.C Kd.bool w aL ac.length ac) (bg : ac.length ≤ aM) (bh : Kd.C (Kd.int .i64) w aN al.length al) (bi : al.length ≤ aO) (h : spec_foSame.f k ag ak ab am af aj ac al = some r) :
  Calls Tryz.prog 55 #[.agg #[.slice ap ag.length aq, .slice aD ak.length aE, .slice aF ab.length aG, .slice aH am.length aI], .agg #[.slice ar af.length au, .slice aJ aj.length aK, .slice aL ac.length aM, .slice aN al.length aO]] w fun e w' => e = .returned (.bool r) ∧ Below w.heap.size w w' := by
 have hu27 := Tryz.underlying27
 have az := Ya a3
 have aA := Ya a4
 clear a3 a4
 have aP := Ya a5
 have aQ := Ya a6
 clear a5 a6
 have bj := Ya a7
 have cR := Ya a8
 clear a7 a8
 have bk := Ya a9
 have bl := Ya ba
 clear a9 ba
 have aB := Ya bb
 have aC := Ya bc
 clear bb bc
 have aR := Ya bd
 have aS := Ya be
 clear bd be
 have bm := Ya bf
 have cS := Ya bg
 clear bf bg
 have bn := Ya bh
 have bo := Ya bi
 clear bh bi
 have HB := Ya (Below.refl w.heap.size w)
 have H : ((spec_l1Same.f k ag af).bind fun bw => (if bw = true then ((spec_l1Same.f k ak aj).bind fun bx => (if bx = true then ((spec_l1Same.f k am al).bind fun bz => (if bz = true then (spec_foSame.j0 k ((ab.length : Int) != (ac.length : Int)) ag ak ab am af aj ac al) else (spec_foSame.j0 k true ag ak ab am af aj ac al))) else (spec_foSame.j0 k true ag ak ab am af aj ac al))) else (spec_foSame.j0 k true ag ak ab am af aj ac al))) = some r := h
 clear h
 have cQ := Ya H
 clear H
 go_enter Tryz.func55, Tryz.ntmps55
 go_upto_region 1 with (first | ((with_reducible refine gate_dst (N := 2) rfl ?_); (try (refine gate_guard (by rfl) ?_; dsimp only)); refine Yx 2 #[.slice ap ag.length aq, .slice aD ak.length aE, .slice aF ab.length aG, .slice aH am.length aI] 27 ?_; intro bp hg w4 hbox hb; have BK541 := Ya hbox; have cT := Yg hg; replace HB := Yh hb; clear hb hbox hg) | ((with_reducible refine gate_dst (N := 3) rfl ?_); (try (refine gate_guard (by rfl) ?_; dsimp only)); refine Yx 3 #[.slice ar af.length au, .slice aJ aj.length aK, .slice aL ac.length aM, .slice aN al.length aO] 27 ?_; intro bq hg w5 hbox hb; have BK542 := Ya hbox; have cU := Yg hg; replace HB := Yh hb; have ad := Yn BK541 hg; have ae := Ym BK541 hg; replace BK541 := Yb BK541 hb; clear hb hbox hg))
 (try simp only [Act.put, Z0, Z1, Z2])
 go_cut [37] (fun dt wc => ∃ (kq : Nat) (aT : Bool), dt = .bool aT ∧ Aside0 (spec_foSame.j0 kq aT ag ak ab am af aj ac al = some r) ∧ Aside0 (kq ≤ k) ∧ Aside0 (wc.heap[bp]? = some (.cells #[(.slice ap ag.length aq), (.slice aD ak.length aE), (.slice aF ab.length aG), (.slice aH am.length aI)] 27 (0, 0))) ∧ Aside0 (wc.heap[bq]? = some (.cells #[(.slice ar af.length au), (.slice aJ aj.length aK), (.slice aL ac.length aM), (.slice aN al.length aO)] 27 (0, 0))) ∧ Aside0 (Below w.heap.size w wc))
 case first =>
  have H := cQ.1
  clear cQ
  replace H := YB H
  obtain ⟨bw, A6, H⟩ := H
  replace H := YC H
  obtain ⟨rfl, H⟩ | ⟨rfl, H⟩ := H
  ·replace H := YB H
   obtain ⟨bx, A8, H⟩ := H
   replace H := YC H
   obtain ⟨rfl, H⟩ | ⟨rfl, H⟩ := H
   ·replace H := YB H
    obtain ⟨bz, cV, H⟩ := H
    replace H := YC H
    obtain ⟨rfl, H⟩ | ⟨rfl, H⟩ := H
    ·have H' := Ya H
     clear H
     have cW := ad.1
     have cX := ae.1
     obtain ⟨bG, bH, bI, bJ, bK, bL, bN, bO⟩ := Y4 BK541.1
     obtain ⟨bP, bQ, bR, bS, bT, bU, bV, bW⟩ := Y4 BK542.1
     go_wp2_with (first | ((with_reducible refine gate_callee (f := 56) rfl ?_); refine Yz 11 Tryz.func56 #[.slice ap ag.length aq, .slice ar af.length au] ?_; (with_reducible refine (spec_l1Same.calls k _ _ ag _ _ af true _ (Yc (Z19 az.1 HB.1)) aA.1 (Yc (Z19 aB.1 HB.1)) aC.1 A6.1).mono ?_); rintro e w' ⟨rfl, ⟨nd, rfl⟩⟩; refine ⟨_, rfl, ?_⟩) | (go_at_call 56; (with_reducible refine (spec_l1Same.calls k _ _ ak _ _ aj true _ ?an aQ.1 ?ao aS.1 A8.1).mono ?_); (case an => exact Yc (Z19 aP.1 Q0)); (case ao => exact Yc (Z19 aR.1 Q0)); rintro e w' ⟨rfl, ⟨nd, rfl⟩⟩) | (go_at_call 56; (with_reducible refine (spec_l1Same.calls k _ _ am _ _ al true _ ?an bl.1 ?ao bo.1 cV.1).mono ?_); (case an => exact Yc (Z19 bk.1 Q0)); (case ao => exact Yc (Z19 bn.1 Q0)); rintro e w' ⟨rfl, ⟨nd, rfl⟩⟩))
     go_meet
     case rel => exact ⟨_, (((ab.length : Int) != (ac.length : Int))), Q17, H', ⟨Q43⟩, ⟨Q42⟩, ⟨Q41⟩, ⟨Q12⟩⟩
    ·have H' := Ya H
     clear H
     have cY := ad.1
     have cZ := ae.1
     obtain ⟨bX, bY, bZ, b0, b1, b2, b3, b4⟩ := Y4 BK541.1
     obtain ⟨b5, b6, b7, b8, b9, ca, cb, cc⟩ := Y4 BK542.1
     go_wp2_with (first | ((with_reducible refine gate_callee (f := 56) rfl ?_); refine Yz 11 Tryz.func56 #[.slice ap ag.length aq, .slice ar af.length au] ?_; (with_reducible refine (spec_l1Same.calls k _ _ ag _ _ af true _ (Yc (Z19 az.1 HB.1)) aA.1 (Yc (Z19 aB.1 HB.1)) aC.1 A6.1).mono ?_); rintro e w' ⟨rfl, ⟨nd, rfl⟩⟩; refine ⟨_, rfl, ?_⟩) | (go_at_call 56; (with_reducible refine (spec_l1Same.calls k _ _ ak _ _ aj true _ ?an aQ.1 ?ao aS.1 A8.1).mono ?_); (case an => exact Yc (Z19 aP.1 Q0)); (case ao => exact Yc (Z19 aR.1 Q0)); rintro e w' ⟨rfl, ⟨nd, rfl⟩⟩) | (go_at_call 56; (with_reducible refine (spec_l1Same.calls k _ _ am _ _ al false _ ?an bl.1 ?ao bo.1 cV.1).mono ?_); (case an => exact Yc (Z19 bk.1 Q0)); (case ao => exact Yc (Z19 bn.1 Q0)); rintro e w' ⟨rfl, ⟨nd, rfl⟩⟩))
     go_meet
     case rel => exact ⟨_, (true), Q17, H', ⟨Q43⟩, ⟨Q42⟩, ⟨Q41⟩, ⟨Q12⟩⟩
   ·have H' := Ya H
    clear H
    have da := ad.1
    have db := ae.1
    obtain ⟨cd, ce, cf, cg, ch, cj, ck, cl⟩ := Y4 BK541.1
    obtain ⟨cm, cp, cq, cr, ct, cu, cv, cw⟩ := Y4 BK542.1
    go_wp2_with (first | ((with_reducible refine gate_callee (f := 56) rfl ?_); refine Yz 11 Tryz.func56 #[.slice ap ag.length aq, .slice ar af.length au] ?_; (with_reducible refine (spec_l1Same.calls k _ _ ag _ _ af true _ (Yc (Z19 az.1 HB.1)) aA.1 (Yc (Z19 aB.1 HB.1)) aC.1 A6.1).mono ?_); rintro e w' ⟨rfl, ⟨nd, rfl⟩⟩; refine ⟨_, rfl, ?_⟩) | (go_at_call 56; (with_reducible refine (spec_l1Same.calls k _ _ ak _ _ aj false _ ?an aQ.1 ?ao aS.1 A8.1).mono ?_); (case an => exact Yc (Z19 aP.1 Q0)); (case ao => exact Yc (Z19 aR.1 Q0)); rintro e w' ⟨rfl, ⟨nd, rfl⟩⟩))
    go_meet
    case rel => exact ⟨_, (true), Q17, H', ⟨Q43⟩, ⟨Q42⟩, ⟨Q41⟩, ⟨Q12⟩⟩
  ·have H' := Ya H
   clear H
   have dc := ad.1
   have dd := ae.1
   obtain ⟨cx, cy, cz, cA, cB, cC, cD, cE⟩ := Y4 BK541.1
   obtain ⟨cF, cG, cH, cI, cJ, cK, cL, cM⟩ := Y4 BK542.1
   go_wp2_with (first | ((with_reducible refine gate_callee (f := 56) rfl ?_); refine Yz 11 Tryz.func56 #[.slice ap ag.length aq, .slice ar af.length au] ?_; (with_reducible refine (spec_l1Same.calls k _ _ ag _ _ af false _ (Yc (Z19 az.1 HB.1)) aA.1 (Yc (Z19 aB.1 HB.1)) aC.1 A6.1).mono ?_); rintro e w' ⟨rfl, ⟨nd, rfl⟩⟩; refine ⟨_, rfl, ?_⟩))
   go_meet
   case rel => exact ⟨_, (true), Q17, H', ⟨Q43⟩, ⟨Q42⟩, ⟨Q41⟩, ⟨Q12⟩⟩
 case rest =>
  clear cQ
  obtain ⟨kq, aT, rfl, HA, de, BK541, BK542, HB⟩ := hcut
  cases kq with
  | zero => exact absurd HA.1 (by simp [spec_foSame.j0])
  | succ df =>
   have H := HA.1
   clear HA
   simp only [spec_foSame.j0] at H
   replace H := YC H
   obtain ⟨rfl, H⟩ | ⟨rfl, H⟩ := H
   ·obtain rfl := Option.some.inj H
    go_wp2
    go_ret
    exact ⟨Q2, Q12⟩
   ·have H' := Ya H
    clear H
    have dg := ad.1
    have dh := ae.1
    obtain ⟨aV, aW, aX, aY, aZ, a0, a1, a2⟩ := Y4 BK541.1
    go_wp2
    go_loopg [41] df (fun kq du w' => ∃ (aa : Int), du = .int .i64 aa ∧ Aside0 (spec_foSame.l0 kq ab (ab.length : Int) aa af aj ac al = some r) ∧ Aside0 (kq ≤ df) ∧ Aside0 (w'.heap[bp]? = some (.cells #[(.slice ap ag.length aq), (.slice aD ak.length aE), (.slice aF ab.length aG), (.slice aH am.length aI)] 27 (0, 0))) ∧ Aside0 (w'.heap[bq]? = some (.cells #[(.slice ar af.length au), (.slice aJ aj.length aK), (.slice aL ac.length aM), (.slice aN al.length aO)] 27 (0, 0))) ∧ Aside0 (Below w.heap.size w w'))
    case atStart => exact ⟨(0), Q17, H', ⟨Nat.le_refl _⟩, ⟨Q42⟩, ⟨Q41⟩, ⟨Q12⟩⟩
    case round =>
     clear H'
     try clear aV
     try clear aW
     try clear aX
     try clear aY
     try clear aZ
     try clear a0
     try clear a1
     try clear a2
     obtain ⟨aa, rfl, HA, di, BK541, BK542, HB⟩ := hrel
     cases gk with
     | zero => exact absurd HA.1 (by simp [spec_foSame.l0])
     | succ k2 =>
      have H := HA.1
      clear HA
      simp only [spec_foSame.l0] at H
      by_cases bv : aa < (ab.length : Int)
      ·rw [if_pos bv] at H
       have bA := Z35 bv
       clear bv
       by_cases cN : 0 ≤ aa
       ·rw [if_pos cN] at H
        have dj := Z35 cN
        clear cN
        by_cases cO : aa < (ab.length : Int)
        ·rw [if_pos cO] at H
         have dk := Z35 cO
         clear cO
         by_cases cP : aa < (ac.length : Int)
         ·rw [if_pos cP] at H
          have dl := Z35 cP
          clear cP
          by_cases aU : ((rdOf false ab aa) != (rdOf false ac aa)) = true
          ·rw [if_pos aU] at H
           have bB : ((rdOf false ab aa) != (rdOf false ac aa)) = true := aU
           (try (have bC : decide ((rdOf false ab aa) = (rdOf false ac aa)) = false := by simpa using aU))
           (try (have bD : ((rdOf false ab aa) == (rdOf false ac aa)) = false := by simpa using aU))
           (try (have dm : ¬ ((rdOf false ab aa) = (rdOf false ac aa)) := by simpa using aU))
           clear aU
           obtain rfl := Option.some.inj H
           have av : 0 ≤ (aa : Int) := Z27 Q5
           have aw : aa < (ab.length : Int) := Z27 Q5
           obtain ⟨bE, br, ah⟩ := Kd.at_bool bj.1 aa av aw
           cases br
           try replace ah := (HB.1.cell (World.block_lt_of_cell? w _ ah)).trans ah
           replace av := eq_true av
           replace aw := eq_true aw
           have dn := ae.1
           have dp := ad.1
           have dv := Y4 BK542.1
           have ax : 0 ≤ (aa : Int) := Z27 Q5
           have ay : aa < (ac.length : Int) := Z27 Q5
           obtain ⟨bF, bu, ai⟩ := Kd.at_bool bm.1 aa ax ay
           cases bu
           try replace ai := (HB.1.cell (World.block_lt_of_cell? w _ ai)).trans ai
           replace ax := eq_true ax
           replace ay := eq_true ay
           go_wp2
           go_ret
           exact ⟨Q2, Q12⟩
          ·rw [if_neg aU] at H
           have bB : ((rdOf false ab aa) != (rdOf false ac aa)) = false := by simpa using aU
           (try (have bC : decide ((rdOf false ab aa) = (rdOf false ac aa)) = true := by simpa using aU))
           (try (have bD : ((rdOf false ab aa) == (rdOf false ac aa)) = true := by simpa using aU))
           clear aU
           have H' := Ya H
           clear H
           have av : 0 ≤ (aa : Int) := Z27 Q5
           have aw : aa < (ab.length : Int) := Z27 Q5
           obtain ⟨bE, br, ah⟩ := Kd.at_bool bj.1 aa av aw
           cases br
           try replace ah := (HB.1.cell (World.block_lt_of_cell? w _ ah)).trans ah
           replace av := eq_true av
           replace aw := eq_true aw
           have dq := ae.1
           have dr := ad.1
           have dw := Y4 BK542.1
           have ax : 0 ≤ (aa : Int) := Z27 Q5
           have ay : aa < (ac.length : Int) := Z27 Q5
           obtain ⟨bF, bu, ai⟩ := Kd.at_bool bm.1 aa ax ay
           cases bu
           try replace ai := (HB.1.cell (World.block_lt_of_cell? w _ ai)).trans ai
           replace ax := eq_true ax
           replace ay := eq_true ay
           go_wp2
           go_roundg k2
           case measure => have := de.1; have := di.1; omega
           case rel => exact ⟨(wrap64 (aa + 1)), Q17, H', ⟨by have := de.1; have := di.1; omega⟩, ⟨Q42⟩, ⟨Q41⟩, ⟨Q12⟩⟩
         ·rw [if_neg cP] at H
          exact absurd H (by simp)
        ·rw [if_neg cO] at H
         exact absurd H (by simp)
       ·rw [if_neg cN] at H
        exact absurd H (by simp)
      ·rw [if_neg bv] at H
       have bA := Z34 bv
       clear bv
       obtain rfl := Option.some.inj H
       go_wp2
       go_ret
       exact ⟨Q2, Q12⟩
def spec_raAreDigits.l0 : Nat → List Int → List Int → Int → Int → Option (Bool)
 | 0, _, _, _, _ => none
 | k + 1, x0, ab, ad, aa => if aa < ad then (if 0 ≤ aa then (if aa < (ab.length : Int) then (if aa < (x0.length : Int) then ((spec_l1In.f (rd ab aa) 0 (wrap64 ((rd x0 aa) - 1))).bind fun ac => (if ac = true then (spec_raAreDigits.l0 k x0 ab ad (wrap64 (aa + 1))) else (some false))) else (none)) else (none)) else (none)) else (some true)
def spec_raAreDigits.f (k : Nat) (l0 : List Int) (l1 : List Int) : Option (Bool) := if (l1.length : Int) = (l0.length : Int) then (spec_raAreDigits.l0 k l0 l1 (l1.length : Int) 0) else (some false)
theorem spec_raAreDigits.calls (k : Nat) (A0 : Option Addr) (c0 : Nat) (l0 : List Int) (A1 : Option Addr) (c1 : Nat) (l1 : List Int) (r : Bool) (w : World) (ap : Kd.C (Kd.int .i64) w A0 l0.length l0) (aq : l0.length ≤ c0) (ar : Kd.C (Kd.int .i64) w A1 l1.length l1) (au : l1.length ≤ c1) (h : spec_raAreDigits.f k l0 l1 = some r) :
  Calls Tryz.prog 81 #[.slice A0 l0.length c0, .slice A1 l1.length c1] w fun e w' => e = .returned (.bool r) ∧ Drawn0 w w' := by
 have HR0 := Ya ap
 have aB := Ya aq
 clear ap aq
 have av := Ya ar
 have aC := Ya au
 clear ar au
 have H : (if (l1.length : Int) = (l0.length : Int) then (spec_raAreDigits.l0 k l0 l1 (l1.length : Int) 0) else (some false)) = some r := h
 clear h
 by_cases c3 : (l1.length : Int) = (l0.length : Int)
 ·rw [if_pos c3] at H
  have aj : ((l1.length : Int) == (l0.length : Int)) = true := beq_iff_eq.mpr c3
  have ak : ((l1.length : Int) != (l0.length : Int)) = false := bne_eq_false_iff_eq.mpr c3
  have al : (l1.length == l0.length) = true := by first | simpa using c3 | (simp at c3 ⊢; omega)
  clear c3
  have H' := Ya H
  clear H
  go_enter Tryz.func81, Tryz.ntmps81
  go_wp2
  go_loopg [14] k (fun kq aw w' => ∃ (aa : Int), aw = .int .i64 aa ∧ Aside0 (spec_raAreDigits.l0 kq l0 l1 (l1.length : Int) aa = some r) ∧ Aside0 (kq ≤ k) ∧ Drawn0 w w')
  case atStart => exact ⟨(0), Q17, H', ⟨Nat.le_refl _⟩, Q16⟩
  case round =>
   clear H'
   try clear c1
   try clear c3
   try clear aj
   try clear ak
   try clear al
   obtain ⟨aa, rfl, HA, HK1, ⟨m1, rfl⟩⟩ := hrel
   cases gk with
   | zero => exact absurd HA.1 (by simp [spec_raAreDigits.l0])
   | succ k1 =>
    have H := HA.1
    clear HA
    simp only [spec_raAreDigits.l0] at H
    by_cases c4 : aa < (l1.length : Int)
    ·rw [if_pos c4] at H
     have ao := Z35 c4
     clear c4
     by_cases c5 : 0 ≤ aa
     ·rw [if_pos c5] at H
      have ax := Z35 c5
      clear c5
      by_cases c6 : aa < (l1.length : Int)
      ·rw [if_pos c6] at H
       have ay := Z35 c6
       clear c6
       by_cases c7 : aa < (l0.length : Int)
       ·rw [if_pos c7] at H
        have az := Z35 c7
        clear c7
        replace H := YB H
        obtain ⟨aA, A8, H⟩ := H
        replace H := YC H
        obtain ⟨rfl, H⟩ | ⟨rfl, H⟩ := H
        ·have H' := Ya H
         clear H
         have ab : 0 ≤ (aa : Int) := Z27 Q5
         have ac : aa < (l1.length : Int) := Z27 Q5
         obtain ⟨am, ah, af⟩ := Kd.at_int av.1 aa ab ac
         cases ah
         replace ab := eq_true ab
         replace ac := eq_true ac
         have ad : 0 ≤ (aa : Int) := Z27 Q5
         have ae : aa < (l0.length : Int) := Z27 Q5
         obtain ⟨an, ai, ag⟩ := Kd.at_int HR0.1 aa ad ae
         cases ai
         replace ad := eq_true ad
         replace ae := eq_true ae
         go_wp2_with (first | ((with_reducible refine gate_callee (f := 45) rfl ?_); refine Yz 25 Tryz.func45 #[.int .i64 (rd l1 aa), .int .i64 0, .int .i64 (wrap64 ((rd l0 aa) - 1))] ?_; (with_reducible refine (spec_l1In.calls (rd l1 aa) 0 (wrap64 ((rd l0 aa) - 1)) true _ A8.1).mono ?_); rintro e w' ⟨rfl, ⟨nd, rfl⟩⟩; refine ⟨_, rfl, ?_⟩))
         go_roundg k1
         case measure => have := HK1.1; omega
         case rel => exact ⟨(wrap64 (aa + 1)), Q17, H', ⟨Q35⟩, Q16⟩
        ·obtain rfl := Option.some.inj H
         have ab : 0 ≤ (aa : Int) := Z27 Q5
         have ac : aa < (l1.length : Int) := Z27 Q5
         obtain ⟨am, ah, af⟩ := Kd.at_int av.1 aa ab ac
         cases ah
         replace ab := eq_true ab
         replace ac := eq_true ac
         have ad : 0 ≤ (aa : Int) := Z27 Q5
         have ae : aa < (l0.length : Int) := Z27 Q5
         obtain ⟨an, ai, ag⟩ := Kd.at_int HR0.1 aa ad ae
         cases ai
         replace ad := eq_true ad
         replace ae := eq_true ae
         go_wp2_with (first | ((with_reducible refine gate_callee (f := 45) rfl ?_); refine Yz 25 Tryz.func45 #[.int .i64 (rd l1 aa), .int .i64 0, .int .i64 (wrap64 ((rd l0 aa) - 1))] ?_; (with_reducible refine (spec_l1In.calls (rd l1 aa) 0 (wrap64 ((rd l0 aa) - 1)) false _ A8.1).mono ?_); rintro e w' ⟨rfl, ⟨nd, rfl⟩⟩; refine ⟨_, rfl, ?_⟩))
         go_ret
         exact ⟨Q24, Q16⟩
       ·rw [if_neg c7] at H
        exact absurd H (by simp)
      ·rw [if_neg c6] at H
       exact absurd H (by simp)
     ·rw [if_neg c5] at H
      exact absurd H (by simp)
    ·rw [if_neg c4] at H
     have ao := Z34 c4
     clear c4
     obtain rfl := Option.some.inj H
     go_wp2
     go_ret
     exact ⟨Q24, Q16⟩
 ·rw [if_neg c3] at H
  have aj : ((l1.length : Int) == (l0.length : Int)) = false := beq_eq_false_iff_ne.mpr c3
  have ak : ((l1.length : Int) != (l0.length : Int)) = true := bne_iff_ne.mpr c3
  have al : (l1.length == l0.length) = false := by first | simpa using c3 | (simp at c3 ⊢; omega)
  obtain rfl := Option.some.inj H
  go_enter Tryz.func81, Tryz.ntmps81
  go_wp2
  go_ret
  exact ⟨Q24, Q16⟩
def spec_foGood.j0 : Nat → Bool → List Int → List Int → List Bool → List Int → Option (Bool)
 | 0, _, _, _, _, _ => none
 | k + 1, ah, aa, ac, ad, ae => if ah = true then (some false) else ((spec_gcMixedRank.f k aa ac).bind fun af => ((spec_foAt.f k aa af).bind fun ab => (if ab.2.2.2.2 = true then ((spec_foSame.f k aa ac ad ae ab.1 ab.2.1 ab.2.2.1 ab.2.2.2.1).bind fun ag => (some ag)) else (some false))))
def spec_foGood.f (k : Nat) (aa : List Int) (ab : List Int) (ac : List Bool) (ad : List Int) : Option (Bool) := (spec_foBases.f k aa).bind fun ae => (if ae = true then ((spec_raAreDigits.f k aa ab).bind fun af => (spec_foGood.j0 k (!af) aa ab ac ad)) else (spec_foGood.j0 k true aa ab ac ad))
def spec_foGood.T3 : Bool × List (List Nat × List Nat) := (true, [([], []), ([0], [0]), ([], []), ([2], [2]), ([], []), ([4], [4]), ([3, 5], [3, 5]), ([1, 6, 6], [1, 6]), ([7], [7]), ([8], [8]), ([8], [8]), ([], []), ([11, 9, 7, 0, 1, 2, 3, 4, 5, 6, 7, 8, 9, 11], [9, 11]), ([10, 12, 0, 1, 2, 3, 4, 5, 6, 7, 8, 9, 10, 11, 12], [10])])
def spec_foGood.B3 : List Nat := [0, 1, 0, 4, 0, 16, 60, 127, 255, 511, 511, 0, 3071, 8191]
theorem spec_foGood.tab3 : rtab .any (opsOf Tryz.f53 3) = spec_foGood.T3 := by kernel_rfl
theorem spec_foGood.bits3 : waitsOk spec_foGood.T3.2 spec_foGood.B3 = true := by kernel_rfl
theorem spec_foGood.calls (k : Nat) (ap : Option Addr) (aq : Nat) (ag : List Int) (aB : Option Addr) (aC : Nat) (am : List Int) (aG : Option Addr) (aH : Nat) (av : List Bool) (aI : Option Addr) (aJ : Nat) (aw : List Int) (r : Bool) (w : World) (a0 : Kd.C (Kd.int .i64) w ap ag.length ag) (a1 : ag.length ≤ aq) (a2 : Kd.C (Kd.int .i64) w aB am.length am) (a3 : am.length ≤ aC) (a4 : Kd.C Kd.bool w aG av.length av) (a5 : av.length ≤ aH) (a6 : Kd.C (Kd.int .i64) w aI aw.length aw) (a7 : aw.length ≤ aJ) (h : spec_foGood.f k ag am av aw = some r) :
  Calls Tryz.prog 53 #[.agg #[.slice ap ag.length aq, .slice aB am.length aC, .slice aG av.length aH, .slice aI aw.length aJ]] w fun e w' => e = .returned (.bool r) ∧ Below w.heap.size w w' := by
 have hu27 := Tryz.underlying27
 have ar := Ya a0
 have au := Ya a1
 clear a0 a1
 have aP := Ya a2
 have aQ := Ya a3
 clear a2 a3
 have bf := Ya a4
 have bg := Ya a5
 clear a4 a5
 have bh := Ya a6
 have bi := Ya a7
 clear a6 a7
 have HB := Ya (Below.refl w.heap.size w)
 have H : ((spec_foBases.f k ag).bind fun bj => (if bj = true then ((spec_raAreDigits.f k ag am).bind fun aZ => (spec_foGood.j0 k (!aZ) ag am av aw)) else (spec_foGood.j0 k true ag am av aw))) = some r := h
 clear h
 have bU := Ya H
 clear H
 go_enter Tryz.func53, Tryz.ntmps53
 go_upto_region 1 with (first | ((with_reducible refine gate_dst (N := 1) rfl ?_); refine Yx 1 #[.slice ap ag.length aq, .slice aB am.length aC, .slice aG av.length aH, .slice aI aw.length aJ] 27 ?_; intro af hg w3 hbox hb; have ab := Ya hbox; have bk := Yg hg; have cd := bk; replace HB := Yh hb; clear hb hbox hg))
 (try simp only [Act.put, Z0, Z1, Z2])
 go_cut [16] (fun cl wc => ∃ (kq : Nat) (aX : Bool), cl = .bool aX ∧ Aside0 (spec_foGood.j0 kq aX ag am av aw = some r) ∧ Aside0 (kq ≤ k) ∧ Aside0 (wc.heap[af]? = some (.cells #[(.slice ap ag.length aq), (.slice aB am.length aC), (.slice aG av.length aH), (.slice aI aw.length aJ)] 27 (0, 0))) ∧ Aside0 (Below w.heap.size w wc))
 case first =>
  have H := bU.1
  clear bU
  replace H := YB H
  obtain ⟨bj, A4, H⟩ := H
  replace H := YC H
  obtain ⟨rfl, H⟩ | ⟨rfl, H⟩ := H
  ·replace H := YB H
   obtain ⟨aZ, A6, H⟩ := H
   have H' := Ya H
   clear H
   obtain ⟨bV, bW, bX, bY, bZ, b0, b1, b2⟩ := Y4 ab.1
   go_wp2_with (first | ((with_reducible refine gate_callee (f := 80) rfl ?_); refine Yz 7 Tryz.func80 #[.slice ap ag.length aq] ?_; (with_reducible refine (spec_foBases.calls k _ _ ag true _ (Yc (Z19 ar.1 HB.1)) au.1 A4.1).mono ?_); rintro e w' ⟨rfl, ⟨nd, rfl⟩⟩; refine ⟨_, rfl, ?_⟩) | (go_at_call 81; (with_reducible refine (spec_raAreDigits.calls k _ _ ag _ _ am aZ _ ?ah au.1 ?aE aQ.1 A6.1).mono ?_); (case ah => exact Yc (Z19 ar.1 Q0)); (case aE => exact Yc (Z19 aP.1 Q0)); rintro e w' ⟨rfl, ⟨nd, rfl⟩⟩))
   go_meet
   case rel => exact ⟨_, (!aZ), Q17, H', ⟨Q43⟩, ⟨by (with_reducible repeat (first | refine Z22 ?_ _ | refine Z23 ?_ | refine Z24 ?_ _)); exact ab.1⟩, ⟨Q12⟩⟩
  ·have H' := Ya H
   clear H
   obtain ⟨b3, b4, b5, b6, b7, b8, b9, ca⟩ := Y4 ab.1
   go_wp2_with (first | ((with_reducible refine gate_callee (f := 80) rfl ?_); refine Yz 7 Tryz.func80 #[.slice ap ag.length aq] ?_; (with_reducible refine (spec_foBases.calls k _ _ ag false _ (Yc (Z19 ar.1 HB.1)) au.1 A4.1).mono ?_); rintro e w' ⟨rfl, ⟨nd, rfl⟩⟩; refine ⟨_, rfl, ?_⟩))
   go_meet
   case rel => exact ⟨_, (true), Q17, H', ⟨Q43⟩, ⟨by (with_reducible repeat (first | refine Z22 ?_ _ | refine Z23 ?_ | refine Z24 ?_ _)); exact ab.1⟩, ⟨Q12⟩⟩
 case rest =>
  clear bU
  obtain ⟨kq, aX, rfl, HA, HJ1, ab, HB⟩ := hcut
  cases kq with
  | zero => exact absurd HA.1 (by simp [spec_foGood.j0])
  | succ aY =>
   have H := HA.1
   clear HA
   simp only [spec_foGood.j0] at H
   replace H := YC H
   obtain ⟨rfl, H⟩ | ⟨rfl, H⟩ := H
   ·obtain rfl := Option.some.inj H
    go_wp2
    go_ret
    exact ⟨Q2, Q12⟩
   ·replace H := YB H
    obtain ⟨aD, bC, H⟩ := H
    replace H := YB H
    obtain ⟨⟨aK, aL, aN, aM, cm⟩, be, H⟩ := H
    dsimp only at H
    replace H := YC H
    obtain ⟨rfl, H⟩ | ⟨rfl, H⟩ := H
    ·replace H := YB H
     obtain ⟨cb, cp, H⟩ := H
     obtain rfl := Option.some.inj H
     try go_wp2
     replace ab := Ya (Z23 ab.1)
     replace HB := Ya (Z4 HB.1)
     refine start_ (n := 14) (S := fun w' => w'.cell? ⟨af, 0, none⟩ = some (.slice ap ag.length aq) ∧ w'.cell? ⟨af, 1, none⟩ = some (.slice aB am.length aC) ∧ w'.cell? ⟨af, 2, none⟩ = some (.slice aG av.length aH) ∧ w'.cell? ⟨af, 3, none⟩ = some (.slice aI aw.length aJ)) (ds := []) (YA 14 0) (by kernel_rfl) rfl rfl (Yz4 ab.1) (fun hHeld => ?_); refine with_tabW spec_foGood.tab3 spec_foGood.bits3 (fun HT_ HW_ => ?_)
     generalize wc.drew = cM at ab HB hHeld ⊢
     refine Yp 0 (some 18) (YA 14 1) rfl HT_.1 ?_
     refine Yp 2 (some 20) (YA 14 5) rfl HT_.1 ?_
     refine Yp 4 (some 22) (YA 14 21) rfl HT_.1 ?_
     refine Yt 1 (some 19) (YA 14 23) rfl HT_.1 HW_.1 hHeld Q8 ?_
     refine Yt 3 (some 21) (YA 14 31) rfl HT_.1 HW_.1 hHeld Q8 ?_
     refine Yt 5 (some 23) (YA 14 63) rfl HT_.1 HW_.1 hHeld Q8 ?_
     refine join_ (σ := Value × Value × Value × Value × Nat) 2 (YA 14 4095) (fun s_ => [(24, .int .i64 aD), (25, .tuple #[.agg #[s_.1, s_.2.1, s_.2.2.1, s_.2.2.2.1], .bool true]), (3, .pointer (some ⟨s_.2.2.2.2, 0, none⟩)), (17, .tuple #[.agg #[s_.1, s_.2.1, s_.2.2.1, s_.2.2.2.1], .bool true]), (26, .agg #[s_.1, s_.2.1, s_.2.2.1, s_.2.2.2.1]), (27, .bool true)]) (fun s_ w' => (w'.cell? ⟨af, 0, none⟩ = some (.slice ap ag.length aq) ∧ w'.cell? ⟨af, 1, none⟩ = some (.slice aB am.length aC) ∧ w'.cell? ⟨af, 2, none⟩ = some (.slice aG av.length aH) ∧ w'.cell? ⟨af, 3, none⟩ = some (.slice aI aw.length aJ)) ∧ (Kd.R (Kd.int .i64) 3 w' w.heap.size (fun k_ => some k_ ≠ (s_.2.1 : Value).ownBlock ∧ some k_ ≠ (s_.2.2.2.1 : Value).ownBlock) s_.1 aK) ∧ (Kd.R (Kd.int .i64) 3 w' w.heap.size (fun k_ => some k_ ≠ (s_.1 : Value).ownBlock ∧ some k_ ≠ (s_.2.2.2.1 : Value).ownBlock) s_.2.1 aL) ∧ (Kd.R Kd.bool 4 w' w.heap.size (fun _ => True) s_.2.2.1 aN) ∧ (Kd.R (Kd.int .i64) 3 w' w.heap.size (fun k_ => some k_ ≠ (s_.1 : Value).ownBlock ∧ some k_ ≠ (s_.2.1 : Value).ownBlock) s_.2.2.2.1 aM) ∧ (w'.heap[af]? = some (.cells #[.slice ap ag.length aq, .slice aB am.length aC, .slice aG av.length aH, .slice aI aw.length aJ] 27 (0, 0))) ∧ (w'.heap[s_.2.2.2.2]? = some (.cells YN4 27 (0, 0))) ∧ (w.heap.size ≤ s_.2.2.2.2) ∧ (w.heap.size ≤ s_.2.2.2.2) ∧ (af ≠ s_.2.2.2.2) ∧ (s_.2.2.2.2 ≠ af) ∧ (Below w.heap.size w w')) ?_ ?_
     rotate_left
     ·intro hCont
      refine two_ (i := 6) (j := 11) (Ni := some 24) (Nj := some 3) (YA 14 127) (YA 14 2111) rfl rfl rfl rfl (two_of HT_.1 (by kernel_rfl)) (by decide) (by decide) (fun K hK => ?_) (fun K hK => ?_)
      ·skip
       refine goes_ Tryz.func54 (by kernel_rfl) rfl #[.slice ap ag.length aq, .slice aB am.length aC] (by rfl) rfl rfl Q20 ?_
       with_reducible refine (spec_gcMixedRank.calls aY _ _ ag _ _ am aD _ ?ah ?an ?aE ?aO bC.1).mono ?_
       (case ah => exact Yc (Z19 ar.1 HB.1))
       (case an => exact au.1)
       (case aE => exact Yc (Z19 aP.1 HB.1))
       (case aO => exact aQ.1)
       rintro e cq ⟨rfl, hb⟩
       refine ⟨_, rfl, ?_⟩
       replace ab := Yb ab hb
       replace HB := Yh hb
       (try clear hb)
       refine hK.out _ _ (Yz4 ab.1) (fun hHeld => ?_)
       clear hK K
       refine YNa 24 ?_
       refine two_ (i := 7) (j := 11) (Ni := some 25) (Nj := some 3) (YA 14 255) (YA 14 2175) rfl rfl rfl rfl (two_of HT_.1 (by kernel_rfl)) (by decide) (by decide) (fun K hK => ?_) (fun K hK => ?_)
       ·skip
        refine goes_ Tryz.func82 (by kernel_rfl) rfl #[.slice ap ag.length aq, .int .i64 aD] (by rfl) rfl rfl Q20 ?_
        with_reducible refine (spec_foAt.calls aY _ _ ag aD aK aL aN aM true _ ?ah ?an be.1).mono ?_
        (case ah => exact Yc (Z19 ar.1 HB.1))
        (case an => exact au.1)
        rintro e ce ⟨ay, az, aF, aA, rfl, aR, aS, aT, aU, hb⟩
        refine ⟨_, rfl, ?_⟩
        have ai := Yl aR
        have aj := Yl aS
        have ak := Yl aT
        have al := Yl aU
        replace ab := Yb ab hb
        replace HB := Yh hb
        (try clear hb aR aS aT aU)
        refine hK.out _ _ (Yz4 ab.1) (fun hHeld => ?_)
        clear hK K
        refine YNa 25 ?_
        refine Yp 8 (some 17) (YA 14 511) rfl HT_.1 ?_
        refine Yp 9 (some 26) (YA 14 1023) rfl HT_.1 ?_
        refine Yp 10 (some 27) (YA 14 2047) rfl HT_.1 ?_
        refine one_ (i := 11) (N := some 3) (YA 14 4095) rfl rfl (one_of HT_.1 (by kernel_rfl)) (by decide) (fun K hK => ?_)
        refine Yy 3 YN4 27 ?_
        intro ac hg cf hbox hb
        replace ai := Yw ai hb
        replace aj := Yw aj hb
        replace ak := Yw ak hb
        replace al := Yw al hb
        have ae := Ya hbox
        have ao := Yg hg
        have ax := ao
        replace HB := Yh hb
        have aa := Yn ab hg
        have ad := Ym ab hg
        replace ab := Yb ab hb
        clear hb hbox hg
        refine hK.out _ _ (Yz4 ab.1) (fun hHeld => ?_)
        clear hK K
        refine YNa 3 ?_
        exact norm_ Q34 (hCont (ay, az, aF, aA, ac) _ ⟨hHeld, (Yr ai.1), (Yr aj.1), (Yr ak.1), (Yr al.1), (Yk ab.1), (Yk ae.1), ao.1, ax.1, aa.1, ad.1, Q0⟩)
       ·skip
        refine Yy 3 YN4 27 ?_
        intro ac hg ce hbox hb
        have ae := Ya hbox
        have ao := Yg hg
        have ax := ao
        replace HB := Yh hb
        have aa := Yn ab hg
        have ad := Ym ab hg
        replace ab := Yb ab hb
        clear hb hbox hg
        refine hK.out _ _ (Yz4 ab.1) (fun hHeld => ?_)
        clear hK K
        refine YNa 3 ?_
        refine one_ (i := 7) (N := some 25) (YA 14 2303) rfl rfl (one_of HT_.1 (by kernel_rfl)) (by decide) (fun K hK => ?_)
        refine goes_ Tryz.func82 (by kernel_rfl) rfl #[.slice ap ag.length aq, .int .i64 aD] (by rfl) rfl rfl Q20 ?_
        with_reducible refine (spec_foAt.calls aY _ _ ag aD aK aL aN aM true _ ?ah ?an be.1).mono ?_
        (case ah => exact Yc (Z19 ar.1 HB.1))
        (case an => exact au.1)
        rintro e cf ⟨ay, az, aF, aA, rfl, aR, aS, aT, aU, hb⟩
        refine ⟨_, rfl, ?_⟩
        have ai := Yl aR
        have aj := Yl aS
        have ak := Yl aT
        have al := Yl aU
        replace ab := Yb ab hb
        replace ae := Yb ae hb
        replace HB := Yh hb
        (try clear hb aR aS aT aU)
        refine hK.out _ _ (Yz4 ab.1) (fun hHeld => ?_)
        clear hK K
        refine YNa 25 ?_
        refine Yp 8 (some 17) (YA 14 2559) rfl HT_.1 ?_
        refine Yp 9 (some 26) (YA 14 3071) rfl HT_.1 ?_
        refine Yp 10 (some 27) (YA 14 4095) rfl HT_.1 ?_
        exact norm_ Q34 (hCont (ay, az, aF, aA, ac) _ ⟨hHeld, (Yr ai.1), (Yr aj.1), (Yr ak.1), (Yr al.1), (Yk ab.1), (Yk ae.1), ao.1, ax.1, aa.1, ad.1, Q0⟩)
      ·skip
       refine Yy 3 YN4 27 ?_
       intro ac hg cq hbox hb
       have ae := Ya hbox
       have ao := Yg hg
       have ax := ao
       replace HB := Yh hb
       have aa := Yn ab hg
       have ad := Ym ab hg
       replace ab := Yb ab hb
       clear hb hbox hg
       refine hK.out _ _ (Yz4 ab.1) (fun hHeld => ?_)
       clear hK K
       refine YNa 3 ?_
       refine one_ (i := 6) (N := some 24) (YA 14 2175) rfl rfl (one_of HT_.1 (by kernel_rfl)) (by decide) (fun K hK => ?_)
       refine goes_ Tryz.func54 (by kernel_rfl) rfl #[.slice ap ag.length aq, .slice aB am.length aC] (by rfl) rfl rfl Q20 ?_
       with_reducible refine (spec_gcMixedRank.calls aY _ _ ag _ _ am aD _ ?ah ?an ?aE ?aO bC.1).mono ?_
       (case ah => exact Yc (Z19 ar.1 HB.1))
       (case an => exact au.1)
       (case aE => exact Yc (Z19 aP.1 HB.1))
       (case aO => exact aQ.1)
       rintro e ce ⟨rfl, hb⟩
       refine ⟨_, rfl, ?_⟩
       replace ab := Yb ab hb
       replace ae := Yb ae hb
       replace HB := Yh hb
       (try clear hb)
       refine hK.out _ _ (Yz4 ab.1) (fun hHeld => ?_)
       clear hK K
       refine YNa 24 ?_
       refine one_ (i := 7) (N := some 25) (YA 14 2303) rfl rfl (one_of HT_.1 (by kernel_rfl)) (by decide) (fun K hK => ?_)
       refine goes_ Tryz.func82 (by kernel_rfl) rfl #[.slice ap ag.length aq, .int .i64 aD] (by rfl) rfl rfl Q20 ?_
       with_reducible refine (spec_foAt.calls aY _ _ ag aD aK aL aN aM true _ ?ah ?an be.1).mono ?_
       (case ah => exact Yc (Z19 ar.1 HB.1))
       (case an => exact au.1)
       rintro e cf ⟨ay, az, aF, aA, rfl, aR, aS, aT, aU, hb⟩
       refine ⟨_, rfl, ?_⟩
       have ai := Yl aR
       have aj := Yl aS
       have ak := Yl aT
       have al := Yl aU
       replace ab := Yb ab hb
       replace ae := Yb ae hb
       replace HB := Yh hb
       (try clear hb aR aS aT aU)
       refine hK.out _ _ (Yz4 ab.1) (fun hHeld => ?_)
       clear hK K
       refine YNa 25 ?_
       refine Yp 8 (some 17) (YA 14 2559) rfl HT_.1 ?_
       refine Yp 9 (some 26) (YA 14 3071) rfl HT_.1 ?_
       refine Yp 10 (some 27) (YA 14 4095) rfl HT_.1 ?_
       exact norm_ Q34 (hCont (ay, az, aF, aA, ac) _ ⟨hHeld, (Yr ai.1), (Yr aj.1), (Yr ak.1), (Yr al.1), (Yk ab.1), (Yk ae.1), ao.1, ax.1, aa.1, ad.1, Q0⟩)
     rintro ⟨ay, az, aF, aA, ac⟩ aV ⟨hS_, h0_, h1_, h2_, h3_, h4_, h5_, h6_, h7_, h8_, h9_, h10_⟩
     have ai : Aside0 (Kd.R (Kd.int .i64) 3 aV w.heap.size (fun k_ => some k_ ≠ (az : Value).ownBlock ∧ some k_ ≠ (aA : Value).ownBlock) ay aK) := ⟨h0_⟩
     have aj : Aside0 (Kd.R (Kd.int .i64) 3 aV w.heap.size (fun k_ => some k_ ≠ (ay : Value).ownBlock ∧ some k_ ≠ (aA : Value).ownBlock) az aL) := ⟨h1_⟩
     have ak : Aside0 (Kd.R Kd.bool 4 aV w.heap.size (fun _ => True) aF aN) := ⟨h2_⟩
     have al : Aside0 (Kd.R (Kd.int .i64) 3 aV w.heap.size (fun k_ => some k_ ≠ (ay : Value).ownBlock ∧ some k_ ≠ (az : Value).ownBlock) aA aM) := ⟨h3_⟩
     replace ab : Aside0 (aV.heap[af]? = some (.cells #[.slice ap ag.length aq, .slice aB am.length aC, .slice aG av.length aH, .slice aI aw.length aJ] 27 (0, 0))) := ⟨h4_⟩
     have ae : Aside0 (aV.heap[ac]? = some (.cells YN4 27 (0, 0))) := ⟨h5_⟩
     have ao : Aside0 (w.heap.size ≤ ac) := ⟨h6_⟩
     have ax : Aside0 (w.heap.size ≤ ac) := ⟨h7_⟩
     have aa : Aside0 (af ≠ ac) := ⟨h8_⟩
     have ad : Aside0 (ac ≠ af) := ⟨h9_⟩
     replace HB : Aside0 (Below w.heap.size w aV) := ⟨h10_⟩
     clear h0_ h1_ h2_ h3_ h4_ h5_ h6_ h7_ h8_ h9_ h10_
     have hHeld : aV.cell? ⟨af, 0, none⟩ = some (.slice ap ag.length aq) ∧ aV.cell? ⟨af, 1, none⟩ = some (.slice aB am.length aC) ∧ aV.cell? ⟨af, 2, none⟩ = some (.slice aG av.length aH) ∧ aV.cell? ⟨af, 3, none⟩ = some (.slice aI aw.length aJ) := hS_
     obtain ⟨bl, a8, bm⟩ := Z15 ai.1
     (first | subst bm | (injection bm with f1_ f2_ f3_; have f4_ := f1_.symm; have f5_ := f3_.symm; clear f1_ f2_ f3_; subst f4_; subst f5_))
     obtain ⟨bn, a9, bo⟩ := Z15 aj.1
     (first | subst bo | (injection bo with f1_ f2_ f3_; have f4_ := f1_.symm; have f5_ := f3_.symm; clear f1_ f2_ f3_; subst f4_; subst f5_))
     obtain ⟨cr, cc, bp⟩ := Z15 ak.1
     (first | subst bp | (injection bp with f1_ f2_ f3_; have f4_ := f1_.symm; have f5_ := f3_.symm; clear f1_ f2_ f3_; subst f4_; subst f5_))
     obtain ⟨bq, ba, br⟩ := Z15 al.1
     (first | subst br | (injection br with f1_ f2_ f3_; have f4_ := f1_.symm; have f5_ := f3_.symm; clear f1_ f2_ f3_; subst f4_; subst f5_))
     refine YNb ?_
     refine one_ (i := 12) (N := none) (YA 14 8191) rfl rfl (one_of HT_.1 (by kernel_rfl)) (by decide) (fun K hK => ?_)
     have ct : aV.cell? ⟨ac, 0, none⟩ = some (.slice none 0 0) := (Z20 ae.1 0).trans rfl
     have hfs20 := Z21 ae.1 0
     have bD := aa.1
     have bE := ad.1
     have cu : aV.cell? ⟨ac, 1, none⟩ = some (.slice none 0 0) := (Z20 ae.1 1).trans rfl
     have hfs22 := Z21 ae.1 1
     have bF := aa.1
     have bG := ad.1
     have cv : aV.cell? ⟨ac, 2, none⟩ = some (.slice none 0 0) := (Z20 ae.1 2).trans rfl
     have hfs24 := Z21 ae.1 2
     have bH := aa.1
     have bI := ad.1
     have cw : aV.cell? ⟨ac, 3, none⟩ = some (.slice none 0 0) := (Z20 ae.1 3).trans rfl
     have hfs26 := Z21 ae.1 3
     have bJ := aa.1
     have bK := ad.1
     refine YNc ?_
     refine hK.out _ _ ⟨((cell_far (p := ⟨ac, _, none⟩) aa.1 _).trans (((cell_far (p := ⟨ac, _, none⟩) aa.1 _).trans (((cell_far (p := ⟨ac, _, none⟩) aa.1 _).trans (((cell_far (p := ⟨ac, _, none⟩) aa.1 _).trans (hHeld.1)))))))), ((cell_far (p := ⟨ac, _, none⟩) aa.1 _).trans (((cell_far (p := ⟨ac, _, none⟩) aa.1 _).trans (((cell_far (p := ⟨ac, _, none⟩) aa.1 _).trans (((cell_far (p := ⟨ac, _, none⟩) aa.1 _).trans (hHeld.2.1)))))))), ((cell_far (p := ⟨ac, _, none⟩) aa.1 _).trans (((cell_far (p := ⟨ac, _, none⟩) aa.1 _).trans (((cell_far (p := ⟨ac, _, none⟩) aa.1 _).trans (((cell_far (p := ⟨ac, _, none⟩) aa.1 _).trans (hHeld.2.2.1)))))))), ((cell_far (p := ⟨ac, _, none⟩) aa.1 _).trans (((cell_far (p := ⟨ac, _, none⟩) aa.1 _).trans (((cell_far (p := ⟨ac, _, none⟩) aa.1 _).trans (((cell_far (p := ⟨ac, _, none⟩) aa.1 _).trans (hHeld.2.2.2))))))))⟩ (fun hHeld => ?_)
     clear hK K
     refine Yp 13 (some 4) (YA 14 16383) rfl HT_.1 ?_
     refine done_ (done_of HT_.1 (by kernel_rfl)) ?_
     have cg := aa.1
     have ch := ad.1
     have cx := Y4 ab.1
     have cy := Y4 ae.1
     try go_wp2_with (first | (go_at_call 55; (with_reducible refine (spec_foSame.calls aY _ _ ag _ _ am _ _ av _ _ aw _ _ aK _ _ aL _ _ aN _ _ aM cb _ ?ah au.1 ?aE aQ.1 ?bu bg.1 ?bv bi.1 ?bw (YL ai) ?bb (YL aj) ?bc (YL ak) ?bd (YL al) cp.1).mono ?_); (case ah => exact Z19 ar.1 Q0); (case aE => exact Z19 aP.1 Q0); (case bu => exact Z19 bf.1 Q0); (case bv => exact Z19 bh.1 Q0); (case bw => refine (Kd.R_reads' (e := 3) (base := w.heap.size) (ok := fun k_ => (some k_ ≠ (.slice bn aL.length a9 : Value).ownBlock ∧ some k_ ≠ (.slice bq aM.length ba : Value).ownBlock)) (n := aK.length) (c := a8) ?_).2.2; exact (Yj (Yf4 ai.1 ae.1) (fun _ h_ => h_.1))); (case bb => refine (Kd.R_reads' (e := 3) (base := w.heap.size) (ok := fun k_ => (some k_ ≠ (.slice bl aK.length a8 : Value).ownBlock ∧ some k_ ≠ (.slice bq aM.length ba : Value).ownBlock)) (n := aL.length) (c := a9) ?_).2.2; exact (Yj (Yf4 aj.1 ae.1) (fun _ h_ => h_.1))); (case bc => refine (Kd.R_reads' (e := 4) (base := w.heap.size) (ok := fun k_ => True) (n := aN.length) (c := cc) ?_).2.2; exact (Yj (Yf4 ak.1 ae.1) (fun _ h_ => h_.1))); (case bd => refine (Kd.R_reads' (e := 3) (base := w.heap.size) (ok := fun k_ => (some k_ ≠ (.slice bl aK.length a8 : Value).ownBlock ∧ some k_ ≠ (.slice bn aL.length a9 : Value).ownBlock)) (n := aM.length) (c := ba) ?_).2.2; exact (Yj (Yf4 al.1 ae.1) (fun _ h_ => h_.1))); rintro e cN ⟨rfl, hb⟩; replace ai := Ya (Z13 (Yj (Yf4 ai.1 ae.1) (fun _ h_ => h_.1)) hb); replace aj := Ya (Z13 (Yj (Yf4 aj.1 ae.1) (fun _ h_ => h_.1)) hb); replace ak := Ya (Z13 (Yj (Yf4 ak.1 ae.1) (fun _ h_ => h_.1)) hb); replace al := Ya (Z13 (Yj (Yf4 al.1 ae.1) (fun _ h_ => h_.1)) hb); replace ab := Yb ⟨Yo4 ab.1 aa.1⟩ hb; replace ae := Yb ⟨Yv4 ae.1⟩ hb; replace HB := Yh hb; (try clear hb)))
     go_ret
     exact ⟨Q2, Q12⟩
    ·obtain rfl := Option.some.inj H
     try go_wp2
     replace ab := Ya (Z23 ab.1)
     replace HB := Ya (Z4 HB.1)
     refine start_ (n := 14) (S := fun w' => w'.cell? ⟨af, 0, none⟩ = some (.slice ap ag.length aq) ∧ w'.cell? ⟨af, 1, none⟩ = some (.slice aB am.length aC) ∧ w'.cell? ⟨af, 2, none⟩ = some (.slice aG av.length aH) ∧ w'.cell? ⟨af, 3, none⟩ = some (.slice aI aw.length aJ)) (ds := []) (YA 14 0) (by kernel_rfl) rfl rfl (Yz4 ab.1) (fun hHeld => ?_); refine with_tabW spec_foGood.tab3 spec_foGood.bits3 (fun HT_ HW_ => ?_)
     generalize wc.drew = cO at ab HB hHeld ⊢
     refine Yp 0 (some 18) (YA 14 1) rfl HT_.1 ?_
     refine Yp 2 (some 20) (YA 14 5) rfl HT_.1 ?_
     refine Yp 4 (some 22) (YA 14 21) rfl HT_.1 ?_
     refine Yt 1 (some 19) (YA 14 23) rfl HT_.1 HW_.1 hHeld Q8 ?_
     refine Yt 3 (some 21) (YA 14 31) rfl HT_.1 HW_.1 hHeld Q8 ?_
     refine Yt 5 (some 23) (YA 14 63) rfl HT_.1 HW_.1 hHeld Q8 ?_
     refine join_ (σ := Value × Value × Value × Value × Nat) 2 (YA 14 4095) (fun s_ => [(24, .int .i64 aD), (25, .tuple #[.agg #[s_.1, s_.2.1, s_.2.2.1, s_.2.2.2.1], .bool false]), (3, .pointer (some ⟨s_.2.2.2.2, 0, none⟩)), (17, .tuple #[.agg #[s_.1, s_.2.1, s_.2.2.1, s_.2.2.2.1], .bool false]), (26, .agg #[s_.1, s_.2.1, s_.2.2.1, s_.2.2.2.1]), (27, .bool false)]) (fun s_ w' => (w'.cell? ⟨af, 0, none⟩ = some (.slice ap ag.length aq) ∧ w'.cell? ⟨af, 1, none⟩ = some (.slice aB am.length aC) ∧ w'.cell? ⟨af, 2, none⟩ = some (.slice aG av.length aH) ∧ w'.cell? ⟨af, 3, none⟩ = some (.slice aI aw.length aJ)) ∧ (Kd.R (Kd.int .i64) 3 w' w.heap.size (fun k_ => some k_ ≠ (s_.2.1 : Value).ownBlock ∧ some k_ ≠ (s_.2.2.2.1 : Value).ownBlock) s_.1 aK) ∧ (Kd.R (Kd.int .i64) 3 w' w.heap.size (fun k_ => some k_ ≠ (s_.1 : Value).ownBlock ∧ some k_ ≠ (s_.2.2.2.1 : Value).ownBlock) s_.2.1 aL) ∧ (Kd.R Kd.bool 4 w' w.heap.size (fun _ => True) s_.2.2.1 aN) ∧ (Kd.R (Kd.int .i64) 3 w' w.heap.size (fun k_ => some k_ ≠ (s_.1 : Value).ownBlock ∧ some k_ ≠ (s_.2.1 : Value).ownBlock) s_.2.2.2.1 aM) ∧ (w'.heap[af]? = some (.cells #[.slice ap ag.length aq, .slice aB am.length aC, .slice aG av.length aH, .slice aI aw.length aJ] 27 (0, 0))) ∧ (w'.heap[s_.2.2.2.2]? = some (.cells YN4 27 (0, 0))) ∧ (w.heap.size ≤ s_.2.2.2.2) ∧ (w.heap.size ≤ s_.2.2.2.2) ∧ (af ≠ s_.2.2.2.2) ∧ (s_.2.2.2.2 ≠ af) ∧ (Below w.heap.size w w')) ?_ ?_
     rotate_left
     ·intro hCont
      refine two_ (i := 6) (j := 11) (Ni := some 24) (Nj := some 3) (YA 14 127) (YA 14 2111) rfl rfl rfl rfl (two_of HT_.1 (by kernel_rfl)) (by decide) (by decide) (fun K hK => ?_) (fun K hK => ?_)
      ·skip
       refine goes_ Tryz.func54 (by kernel_rfl) rfl #[.slice ap ag.length aq, .slice aB am.length aC] (by rfl) rfl rfl Q20 ?_
       with_reducible refine (spec_gcMixedRank.calls aY _ _ ag _ _ am aD _ ?ah ?an ?aE ?aO bC.1).mono ?_
       (case ah => exact Yc (Z19 ar.1 HB.1))
       (case an => exact au.1)
       (case aE => exact Yc (Z19 aP.1 HB.1))
       (case aO => exact aQ.1)
       rintro e cz ⟨rfl, hb⟩
       refine ⟨_, rfl, ?_⟩
       replace ab := Yb ab hb
       replace HB := Yh hb
       (try clear hb)
       refine hK.out _ _ (Yz4 ab.1) (fun hHeld => ?_)
       clear hK K
       refine YNa 24 ?_
       refine two_ (i := 7) (j := 11) (Ni := some 25) (Nj := some 3) (YA 14 255) (YA 14 2175) rfl rfl rfl rfl (two_of HT_.1 (by kernel_rfl)) (by decide) (by decide) (fun K hK => ?_) (fun K hK => ?_)
       ·skip
        refine goes_ Tryz.func82 (by kernel_rfl) rfl #[.slice ap ag.length aq, .int .i64 aD] (by rfl) rfl rfl Q20 ?_
        with_reducible refine (spec_foAt.calls aY _ _ ag aD aK aL aN aM false _ ?ah ?an be.1).mono ?_
        (case ah => exact Yc (Z19 ar.1 HB.1))
        (case an => exact au.1)
        rintro e cj ⟨ay, az, aF, aA, rfl, aR, aS, aT, aU, hb⟩
        refine ⟨_, rfl, ?_⟩
        have ai := Yl aR
        have aj := Yl aS
        have ak := Yl aT
        have al := Yl aU
        replace ab := Yb ab hb
        replace HB := Yh hb
        (try clear hb aR aS aT aU)
        refine hK.out _ _ (Yz4 ab.1) (fun hHeld => ?_)
        clear hK K
        refine YNa 25 ?_
        refine Yp 8 (some 17) (YA 14 511) rfl HT_.1 ?_
        refine Yp 9 (some 26) (YA 14 1023) rfl HT_.1 ?_
        refine Yp 10 (some 27) (YA 14 2047) rfl HT_.1 ?_
        refine one_ (i := 11) (N := some 3) (YA 14 4095) rfl rfl (one_of HT_.1 (by kernel_rfl)) (by decide) (fun K hK => ?_)
        refine Yy 3 YN4 27 ?_
        intro ac hg ck hbox hb
        replace ai := Yw ai hb
        replace aj := Yw aj hb
        replace ak := Yw ak hb
        replace al := Yw al hb
        have ae := Ya hbox
        have ao := Yg hg
        have ax := ao
        replace HB := Yh hb
        have aa := Yn ab hg
        have ad := Ym ab hg
        replace ab := Yb ab hb
        clear hb hbox hg
        refine hK.out _ _ (Yz4 ab.1) (fun hHeld => ?_)
        clear hK K
        refine YNa 3 ?_
        exact norm_ Q34 (hCont (ay, az, aF, aA, ac) _ ⟨hHeld, (Yr ai.1), (Yr aj.1), (Yr ak.1), (Yr al.1), (Yk ab.1), (Yk ae.1), ao.1, ax.1, aa.1, ad.1, Q0⟩)
       ·skip
        refine Yy 3 YN4 27 ?_
        intro ac hg cj hbox hb
        have ae := Ya hbox
        have ao := Yg hg
        have ax := ao
        replace HB := Yh hb
        have aa := Yn ab hg
        have ad := Ym ab hg
        replace ab := Yb ab hb
        clear hb hbox hg
        refine hK.out _ _ (Yz4 ab.1) (fun hHeld => ?_)
        clear hK K
        refine YNa 3 ?_
        refine one_ (i := 7) (N := some 25) (YA 14 2303) rfl rfl (one_of HT_.1 (by kernel_rfl)) (by decide) (fun K hK => ?_)
        refine goes_ Tryz.func82 (by kernel_rfl) rfl #[.slice ap ag.length aq, .int .i64 aD] (by rfl) rfl rfl Q20 ?_
        with_reducible refine (spec_foAt.calls aY _ _ ag aD aK aL aN aM false _ ?ah ?an be.1).mono ?_
        (case ah => exact Yc (Z19 ar.1 HB.1))
        (case an => exact au.1)
        rintro e ck ⟨ay, az, aF, aA, rfl, aR, aS, aT, aU, hb⟩
        refine ⟨_, rfl, ?_⟩
        have ai := Yl aR
        have aj := Yl aS
        have ak := Yl aT
        have al := Yl aU
        replace ab := Yb ab hb
        replace ae := Yb ae hb
        replace HB := Yh hb
        (try clear hb aR aS aT aU)
        refine hK.out _ _ (Yz4 ab.1) (fun hHeld => ?_)
        clear hK K
        refine YNa 25 ?_
        refine Yp 8 (some 17) (YA 14 2559) rfl HT_.1 ?_
        refine Yp 9 (some 26) (YA 14 3071) rfl HT_.1 ?_
        refine Yp 10 (some 27) (YA 14 4095) rfl HT_.1 ?_
        exact norm_ Q34 (hCont (ay, az, aF, aA, ac) _ ⟨hHeld, (Yr ai.1), (Yr aj.1), (Yr ak.1), (Yr al.1), (Yk ab.1), (Yk ae.1), ao.1, ax.1, aa.1, ad.1, Q0⟩)
      ·skip
       refine Yy 3 YN4 27 ?_
       intro ac hg cz hbox hb
       have ae := Ya hbox
       have ao := Yg hg
       have ax := ao
       replace HB := Yh hb
       have aa := Yn ab hg
       have ad := Ym ab hg
       replace ab := Yb ab hb
       clear hb hbox hg
       refine hK.out _ _ (Yz4 ab.1) (fun hHeld => ?_)
       clear hK K
       refine YNa 3 ?_
       refine one_ (i := 6) (N := some 24) (YA 14 2175) rfl rfl (one_of HT_.1 (by kernel_rfl)) (by decide) (fun K hK => ?_)
       refine goes_ Tryz.func54 (by kernel_rfl) rfl #[.slice ap ag.length aq, .slice aB am.length aC] (by rfl) rfl rfl Q20 ?_
       with_reducible refine (spec_gcMixedRank.calls aY _ _ ag _ _ am aD _ ?ah ?an ?aE ?aO bC.1).mono ?_
       (case ah => exact Yc (Z19 ar.1 HB.1))
       (case an => exact au.1)
       (case aE => exact Yc (Z19 aP.1 HB.1))
       (case aO => exact aQ.1)
       rintro e cj ⟨rfl, hb⟩
       refine ⟨_, rfl, ?_⟩
       replace ab := Yb ab hb
       replace ae := Yb ae hb
       replace HB := Yh hb
       (try clear hb)
       refine hK.out _ _ (Yz4 ab.1) (fun hHeld => ?_)
       clear hK K
       refine YNa 24 ?_
       refine one_ (i := 7) (N := some 25) (YA 14 2303) rfl rfl (one_of HT_.1 (by kernel_rfl)) (by decide) (fun K hK => ?_)
       refine goes_ Tryz.func82 (by kernel_rfl) rfl #[.slice ap ag.length aq, .int .i64 aD] (by rfl) rfl rfl Q20 ?_
       with_reducible refine (spec_foAt.calls aY _ _ ag aD aK aL aN aM false _ ?ah ?an be.1).mono ?_
       (case ah => exact Yc (Z19 ar.1 HB.1))
       (case an => exact au.1)
       rintro e ck ⟨ay, az, aF, aA, rfl, aR, aS, aT, aU, hb⟩
       refine ⟨_, rfl, ?_⟩
       have ai := Yl aR
       have aj := Yl aS
       have ak := Yl aT
       have al := Yl aU
       replace ab := Yb ab hb
       replace ae := Yb ae hb
       replace HB := Yh hb
       (try clear hb aR aS aT aU)
       refine hK.out _ _ (Yz4 ab.1) (fun hHeld => ?_)
       clear hK K
       refine YNa 25 ?_
       refine Yp 8 (some 17) (YA 14 2559) rfl HT_.1 ?_
       refine Yp 9 (some 26) (YA 14 3071) rfl HT_.1 ?_
       refine Yp 10 (some 27) (YA 14 4095) rfl HT_.1 ?_
       exact norm_ Q34 (hCont (ay, az, aF, aA, ac) _ ⟨hHeld, (Yr ai.1), (Yr aj.1), (Yr ak.1), (Yr al.1), (Yk ab.1), (Yk ae.1), ao.1, ax.1, aa.1, ad.1, Q0⟩)
     rintro ⟨ay, az, aF, aA, ac⟩ aW ⟨hS_, h0_, h1_, h2_, h3_, h4_, h5_, h6_, h7_, h8_, h9_, h10_⟩
     have ai : Aside0 (Kd.R (Kd.int .i64) 3 aW w.heap.size (fun k_ => some k_ ≠ (az : Value).ownBlock ∧ some k_ ≠ (aA : Value).ownBlock) ay aK) := ⟨h0_⟩
     have aj : Aside0 (Kd.R (Kd.int .i64) 3 aW w.heap.size (fun k_ => some k_ ≠ (ay : Value).ownBlock ∧ some k_ ≠ (aA : Value).ownBlock) az aL) := ⟨h1_⟩
     have ak : Aside0 (Kd.R Kd.bool 4 aW w.heap.size (fun _ => True) aF aN) := ⟨h2_⟩
     have al : Aside0 (Kd.R (Kd.int .i64) 3 aW w.heap.size (fun k_ => some k_ ≠ (ay : Value).ownBlock ∧ some k_ ≠ (az : Value).ownBlock) aA aM) := ⟨h3_⟩
     replace ab : Aside0 (aW.heap[af]? = some (.cells #[.slice ap ag.length aq, .slice aB am.length aC, .slice aG av.length aH, .slice aI aw.length aJ] 27 (0, 0))) := ⟨h4_⟩
     have ae : Aside0 (aW.heap[ac]? = some (.cells YN4 27 (0, 0))) := ⟨h5_⟩
     have ao : Aside0 (w.heap.size ≤ ac) := ⟨h6_⟩
     have ax : Aside0 (w.heap.size ≤ ac) := ⟨h7_⟩
     have aa : Aside0 (af ≠ ac) := ⟨h8_⟩
     have ad : Aside0 (ac ≠ af) := ⟨h9_⟩
     replace HB : Aside0 (Below w.heap.size w aW) := ⟨h10_⟩
     clear h0_ h1_ h2_ h3_ h4_ h5_ h6_ h7_ h8_ h9_ h10_
     have hHeld : aW.cell? ⟨af, 0, none⟩ = some (.slice ap ag.length aq) ∧ aW.cell? ⟨af, 1, none⟩ = some (.slice aB am.length aC) ∧ aW.cell? ⟨af, 2, none⟩ = some (.slice aG av.length aH) ∧ aW.cell? ⟨af, 3, none⟩ = some (.slice aI aw.length aJ) := hS_
     obtain ⟨cA, cB, bx⟩ := Z15 ai.1
     (first | subst bx | (injection bx with f1_ f2_ f3_; have f4_ := f1_.symm; have f5_ := f3_.symm; clear f1_ f2_ f3_; subst f4_; subst f5_))
     obtain ⟨cC, cD, bz⟩ := Z15 aj.1
     (first | subst bz | (injection bz with f1_ f2_ f3_; have f4_ := f1_.symm; have f5_ := f3_.symm; clear f1_ f2_ f3_; subst f4_; subst f5_))
     obtain ⟨cE, cF, bA⟩ := Z15 ak.1
     (first | subst bA | (injection bA with f1_ f2_ f3_; have f4_ := f1_.symm; have f5_ := f3_.symm; clear f1_ f2_ f3_; subst f4_; subst f5_))
     obtain ⟨cG, cH, bB⟩ := Z15 al.1
     (first | subst bB | (injection bB with f1_ f2_ f3_; have f4_ := f1_.symm; have f5_ := f3_.symm; clear f1_ f2_ f3_; subst f4_; subst f5_))
     refine YNb ?_
     refine one_ (i := 12) (N := none) (YA 14 8191) rfl rfl (one_of HT_.1 (by kernel_rfl)) (by decide) (fun K hK => ?_)
     have cI : aW.cell? ⟨ac, 0, none⟩ = some (.slice none 0 0) := (Z20 ae.1 0).trans rfl
     have hfs37 := Z21 ae.1 0
     have bL := aa.1
     have bN := ad.1
     have cJ : aW.cell? ⟨ac, 1, none⟩ = some (.slice none 0 0) := (Z20 ae.1 1).trans rfl
     have hfs39 := Z21 ae.1 1
     have bO := aa.1
     have bP := ad.1
     have cK : aW.cell? ⟨ac, 2, none⟩ = some (.slice none 0 0) := (Z20 ae.1 2).trans rfl
     have hfs41 := Z21 ae.1 2
     have bQ := aa.1
     have bR := ad.1
     have cL : aW.cell? ⟨ac, 3, none⟩ = some (.slice none 0 0) := (Z20 ae.1 3).trans rfl
     have hfs43 := Z21 ae.1 3
     have bS := aa.1
     have bT := ad.1
     refine YNc ?_
     refine hK.out _ _ ⟨((cell_far (p := ⟨ac, _, none⟩) aa.1 _).trans (((cell_far (p := ⟨ac, _, none⟩) aa.1 _).trans (((cell_far (p := ⟨ac, _, none⟩) aa.1 _).trans (((cell_far (p := ⟨ac, _, none⟩) aa.1 _).trans (hHeld.1)))))))), ((cell_far (p := ⟨ac, _, none⟩) aa.1 _).trans (((cell_far (p := ⟨ac, _, none⟩) aa.1 _).trans (((cell_far (p := ⟨ac, _, none⟩) aa.1 _).trans (((cell_far (p := ⟨ac, _, none⟩) aa.1 _).trans (hHeld.2.1)))))))), ((cell_far (p := ⟨ac, _, none⟩) aa.1 _).trans (((cell_far (p := ⟨ac, _, none⟩) aa.1 _).trans (((cell_far (p := ⟨ac, _, none⟩) aa.1 _).trans (((cell_far (p := ⟨ac, _, none⟩) aa.1 _).trans (hHeld.2.2.1)))))))), ((cell_far (p := ⟨ac, _, none⟩) aa.1 _).trans (((cell_far (p := ⟨ac, _, none⟩) aa.1 _).trans (((cell_far (p := ⟨ac, _, none⟩) aa.1 _).trans (((cell_far (p := ⟨ac, _, none⟩) aa.1 _).trans (hHeld.2.2.2))))))))⟩ (fun hHeld => ?_)
     clear hK K
     refine Yp 13 (some 4) (YA 14 16383) rfl HT_.1 ?_
     refine done_ (done_of HT_.1 (by kernel_rfl)) ?_
     try go_wp2
     go_ret
     exact ⟨Q2, Q12⟩
end Go.Proofs.YtapbbmicfkbafaaGreat.MFnSwappers
