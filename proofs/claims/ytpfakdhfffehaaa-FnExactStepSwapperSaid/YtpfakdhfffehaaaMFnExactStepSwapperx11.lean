import Derived.Test.YtpfakdhfffehaaaMFnExactStepSwapperx0
import Derived.Test.YtpfakdhfffehaaaMFnExactStepSwapperx8
import Derived.Test.YtpfakdhfffehaaaMFnExactStepSwapperx9
import Derived.Test.YtpfakdhfffehaaaMFnExactStepSwapperx10
namespace Go.Proofs.Ytpfakdhfffehaaa.MFnExactStepSwapper
open Go.RowKit Go.Proofs.YtpfakdhfffehaaaW.PrintWords Go.Proofs.YtpfakdhfffehaaaW.PrintLast Go.Proofs.YtpfakdhfffehaaaW.PrintMore
attribute [local go_sem] max2_int min2_int max_two min_two max_three min_three max_four min_four   
set_option linter.unusedVariables false
set_option linter.unusedSimpArgs false
open Go.Proofs.Ytpfakdhfffehaaa.FoW Go.Proofs.Ytpfakdhfffehaaa.SwW in
set_option maxHeartbeats 8000000 in
set_option maxRecDepth 100000 in
theorem impl_Swapper_step.calls (w0 : World) (g g0 c0 g1 c1 g2 c2 g3 c3 g4 c4 g5 c5 : Nat) (b d : List Int) (u : List Bool) (p it wh d' : List Int) (u' : List Bool) (p' it' wh' : List Int) (r : Int) (w : World)
  (hb : w.heap[g]? = some (.cells #[.slice (some ⟨g0, 0, none⟩) b.length c0, .slice (some ⟨g1, 0, none⟩) d.length c1, .slice (some ⟨g2, 0, none⟩) u.length c2, .slice (some ⟨g3, 0, none⟩) p.length c3, .slice (some ⟨g4, 0, none⟩) it.length c4, .slice (some ⟨g5, 0, none⟩) wh.length c5] 35 (0, 0))) (hS : SwR w w0.heap.size g0 c0 g1 c1 g2 c2 g3 c3 g4 c4 g5 c5 b d u p it wh) (hW : Below w0.heap.size w0 w) (h : stepS b d u p it wh = some (d', u', p', it', wh', r)) :
  Calls Try.prog 57 #[.pointer (some ⟨g, 0, none⟩)] w fun e w' => e = .returned (.int .i64 r) ∧ w'.heap[g]? = w.heap[g]? ∧ SwR w' w0.heap.size g0 c0 g1 c1 g2 c2 g3 c3 g4 c4 g5 c5 b d' u' p' it' wh' ∧ Kept w w' (Ws g1 g2 g3 g4 g5) ∧ Below w0.heap.size w0 w' := by
 have hu := Try.underlying35
 have hu2 := Try.underlying27
 have hne := FoR.apart hS.f hb (by decide) (by decide)
 have hne2 := SwR.apart hS hb (by decide)
 have HB0 := Ya hb
 have BK := Ya hb
 have HS := Ya hS
 have HW := Ya hW
 unfold stepS at h
 simp only at h
 obtain ⟨J, hJ⟩ : ∃ J, rd p 0 = J := ⟨_, rfl⟩
 rw [hJ] at h
 obtain ⟨I, hI⟩ : ∃ I, (b.length : Int) - 1 - J = I := ⟨_, rfl⟩
 rw [hI] at h
 obtain ⟨X, hX⟩ : ∃ X, (it.length : Int) - 1 - J = X := ⟨_, rfl⟩
 rw [hX] at h
 obtain ⟨a, ha⟩ : ∃ a, (if rdOf false u I = true then rd wh X - 1 else rd wh X) = a := ⟨_, rfl⟩
 rw [ha] at h
 obtain ⟨Y, hY⟩ : ∃ Y, rd it a = Y := ⟨_, rfl⟩
 rw [hY] at h
 obtain ⟨Z, hZ⟩ : ∃ Z, rd it (a + 1) = Z := ⟨_, rfl⟩
 rw [hZ] at h
 by_cases hc : it.length ≤ 1000 ∧ wh.length ≤ 1000 ∧ 0 ≤ X ∧ X < wh.length ∧ -1000 ≤ rd wh X ∧ rd wh X ≤ 1000 ∧ 0 ≤ a ∧ a + 1 < it.length ∧ 0 ≤ Y ∧ Y < wh.length ∧ 0 ≤ Z ∧ Z < wh.length
 rotate_left
 ·rw [if_neg hc] at h; cases h
 rw [if_pos hc] at h
 obtain ⟨⟨D1, U1, P1, R1⟩, hs, h⟩ := Z36.mp h
 simp only [Option.some.injEq, Prod.mk.injEq] at h
 obtain ⟨rfl, rfl, rfl, rfl, rfl, rfl⟩ := h
 obtain ⟨j0, j1, m0, l1, l2, l3⟩ := stepF_cond hs
 rw [hJ] at j0 j1
 have HST := Ya hs
 obtain ⟨q0, q1, x0, x1, v0, v1, a0, a1, y0, y1, z0, z1⟩ := hc
 have HL := Ya (show (0 ≤ I ∧ I < u.length) ∧ (0 ≤ J ∧ 0 < p.length) ∧ (0 ≤ X ∧ X < wh.length) ∧ (0 ≤ a ∧ a + 1 < it.length) ∧ (0 ≤ Y ∧ Y < wh.length) ∧ (0 ≤ Z ∧ Z < wh.length) from ⟨⟨by omega, by omega⟩, ⟨by omega, by omega⟩, ⟨x0, x1⟩, ⟨a0, a1⟩, ⟨y0, y1⟩, ⟨z0, z1⟩⟩)
 have k1 : wrap64 ((b.length : Int) - 1) = (b.length : Int) - 1 := by unfold wrap64; omega
 have k1' : IntKind.i64.wrap ((b.length : Int) - 1) = (b.length : Int) - 1 := (i64_w _).trans k1
 have k2 : wrap64 ((b.length : Int) - 1 - J) = I := by rw [← hI]; unfold wrap64; omega
 have k2' : IntKind.i64.wrap ((b.length : Int) - 1 - J) = I := (i64_w _).trans k2
 have k3 : wrap64 ((it.length : Int) - 1) = (it.length : Int) - 1 := by unfold wrap64; omega
 have k3' : IntKind.i64.wrap ((it.length : Int) - 1) = (it.length : Int) - 1 := (i64_w _).trans k3
 have k4 : wrap64 ((it.length : Int) - 1 - J) = X := by rw [← hX]; unfold wrap64; omega
 have k4' : IntKind.i64.wrap ((it.length : Int) - 1 - J) = X := (i64_w _).trans k4
 have k5 : wrap64 (a + 1) = a + 1 := by unfold wrap64; omega
 have k5' : IntKind.i64.wrap (a + 1) = a + 1 := (i64_w _).trans k5
 have b1 : (0 ≤ I) = True := eq_true (by omega)
 have b2 : (I < (u.length : Int)) = True := eq_true (by omega)
 have b3 : (0 ≤ X) = True := eq_true x0
 have b4 : (X < (wh.length : Int)) = True := eq_true x1
 have b5 : (0 < p.length) = True := eq_true (by omega)
 have b6 : ((0 : Int) < (p.length : Int)) = True := eq_true (by omega)
 have b7 : decide (I < 0) = false := Z37 (by omega)
 have b8 : (0 ≤ a) = True := eq_true a0
 have b9 : (a < (it.length : Int)) = True := eq_true (by omega)
 have b10 : (0 ≤ a + 1) = True := eq_true (by omega)
 have b11 : (a + 1 < (it.length : Int)) = True := eq_true a1
 have b12 : (0 ≤ Y) = True := eq_true y0
 have b13 : (Y < (wh.length : Int)) = True := eq_true y1
 have b14 : (0 ≤ Z) = True := eq_true z0
 have b15 : (Z < (wh.length : Int)) = True := eq_true z1
 have HY := Ya hY
 have HZ := Ya hZ
 have HV := Ya (show rd ((it.set a.toNat Z).set (a + 1).toNat Y) a = Z ∧ rd ((it.set a.toNat Z).set (a + 1).toNat Y) (a + 1) = Y from ⟨by rw [rd_set_ne _ _ _ _ (by omega), rd_set_eq _ _ _ (by omega)], by rw [rd_set_eq _ _ _ (by rw [List.length_set]; omega)]⟩)
 have e0 : w.cell? ⟨g, 0, none⟩ = some (.slice (some ⟨g0, 0, none⟩) b.length c0) := (Z23 hb 0).trans rfl
 have e2 : w.cell? ⟨g, 2, none⟩ = some (.slice (some ⟨g2, 0, none⟩) u.length c2) := (Z23 hb 2).trans rfl
 have e3 : w.cell? ⟨g, 3, none⟩ = some (.slice (some ⟨g3, 0, none⟩) p.length c3) := (Z23 hb 3).trans rfl
 have e4 : w.cell? ⟨g, 4, none⟩ = some (.slice (some ⟨g4, 0, none⟩) it.length c4) := (Z23 hb 4).trans rfl
 have e5 : w.cell? ⟨g, 5, none⟩ = some (.slice (some ⟨g5, 0, none⟩) wh.length c5) := (Z23 hb 5).trans rfl
 have f3 : w.cell? ⟨g3, 0, none⟩ = some (.int .i64 J) := by rw [← hJ]; exact (FoR.at3 hS.f 0 (by decide) (by omega)).1
 have f2 : w.cell? ⟨g2, I.toNat, none⟩ = some (.bool (rdOf false u I)) := (FoR.at2 hS.f I (by omega) (by omega)).1
 have f5 : w.cell? ⟨g5, X.toNat, none⟩ = some (.int .i64 (rd wh X)) := (SwR.at5 hS X (by omega) (by omega)).1
 have HVX := Ya (show -1000 ≤ rd wh X ∧ rd wh X ≤ 1000 from ⟨v0, v1⟩)
 clear hb hS hW hs hY hZ hJ hI hX j0 j1 m0 l1 l2 l3 q0 q1 x0 x1 v0 v1 a0 a1 y0 y1 z0 z1
 go_enter Try.func57, Try.ntmps57
 cases hU : rdOf false u I
 ·rw [hU] at f2 ha
  have hv : rd wh X = a := by simpa using ha
  rw [hv] at f5
  clear ha
  go_wp2_with fail
  refine (impl_Focus_step.callsG #[.slice (some ⟨g0, 0, none⟩) b.length c0, .slice (some ⟨g1, 0, none⟩) d.length c1, .slice (some ⟨g2, 0, none⟩) u.length c2, .slice (some ⟨g3, 0, none⟩) p.length c3, .slice (some ⟨g4, 0, none⟩) it.length c4, .slice (some ⟨g5, 0, none⟩) wh.length c5] 35 (by decide) w0 g g0 c0 g1 c1 g2 c2 g3 c3 b d u p D1 U1 P1 R1 w rfl rfl rfl rfl BK.out HS.out.f HW.out HST.out).mono ?_
  rintro e w1 ⟨rfl, hk1, hk2, hk3, hk4⟩
  have n0_ := Ya (hk1.trans BK.out)
  have n1_ := Ya (SwR.step HS.out hk2 hk3)
  have HK := Ya (show Kept w w1 (Ws g1 g2 g3 g4 g5) from hk3.mono (fun _ h_ => .inl h_))
  clear BK HS HW hk1 hk2 hk3 e0 e2 e3 e4 e5 f2 f3 f5
  have BK := n0_
  have HS := n1_
  have HW := Ya hk4
  clear n0_ n1_ hk4
  go_wp2_with fail
  replace BK := Ya (Z26 BK.out)
  replace HS := Ya (SwR.drew HS.out)
  replace HK := Ya (Kept.drew HK.out)
  replace HW := Ya (Z4 HW.out)
  refine start_ (n := 30) (S := fun w' => w'.cell? ⟨g, 4, none⟩ = some (.slice (some ⟨g4, 0, none⟩) it.length c4) ∧ w'.cell? ⟨g4, a.toNat, none⟩ = some (.int .i64 Y) ∧ w'.cell? ⟨g4, (a + 1).toNat, none⟩ = some (.int .i64 Z)) (ds := [27, 29]) (YA 30 0) (by kernel_rfl) rfl rfl ⟨(Z23 BK.out 4).trans rfl, (SwR.at4 HS.out (a) Q10 Q11).1.trans (by rw [HY.out]), (SwR.at4 HS.out (a + 1) Q10 Q11).1.trans (by rw [HZ.out])⟩ (fun hHeld => ?_)
  generalize World.drew _ = w2 at BK HS HK HW hHeld ⊢
  have hxs := (SwR.at4 HS.out (a) Q10 Q11).1
  have hzs := (SwR.at4 HS.out (a) Q10 Q11).2
  have hxt := (SwR.at4 (SwR.put4 HS.out a Z) (a + 1) Q10 Q11).1
  have hzt := (SwR.at4 (SwR.put4 HS.out a Z) (a + 1) Q10 Q11).2
  refine Yq 0 (some 54) (YA 30 1) rfl ?_
  refine Yq 1 (some 55) (YA 30 3) rfl ?_
  refine Yq 2 (some 56) (YA 30 7) rfl ?_
  refine Yq 4 (some 58) (YA 30 23) rfl ?_
  refine Yq 5 (some 59) (YA 30 55) rfl ?_
  refine Yq 6 (some 60) (YA 30 119) rfl ?_
  refine Yq 7 (some 61) (YA 30 247) rfl ?_
  refine Yq 9 (some 63) (YA 30 759) rfl ?_
  refine Yq 10 (some 64) (YA 30 1783) rfl ?_
  refine Yq 11 (some 65) (YA 30 3831) rfl ?_
  refine Yq 12 (some 66) (YA 30 7927) rfl ?_
  refine Yq 13 (some 67) (YA 30 16119) rfl ?_
  refine Yq 15 (some 69) (YA 30 48887) rfl ?_
  refine Yq 16 (some 70) (YA 30 114423) rfl ?_
  refine Yq 19 (some 73) (YA 30 638711) rfl ?_
  refine Yq 20 (some 74) (YA 30 1687287) rfl ?_
  refine Yq 21 (some 75) (YA 30 3784439) rfl ?_
  refine Yq 23 (some 77) (YA 30 12173047) rfl ?_
  refine Ys 3 (some 57) (YA 30 12173055) rfl hHeld Q9 ?_
  refine Ys 8 (some 62) (YA 30 12173311) rfl hHeld Q9 ?_
  refine Ys 14 (some 68) (YA 30 12189695) rfl hHeld Q9 ?_
  refine Yq 17 (some 71) (YA 30 12320767) rfl ?_
  refine Ys 18 (some 72) (YA 30 12582911) rfl hHeld Q9 ?_
  refine Ys 22 (some 76) (YA 30 16777215) rfl hHeld Q9 ?_
  refine Yq 24 (some 78) (YA 30 33554431) rfl ?_
  refine Ys 25 (some 79) (YA 30 67108863) rfl hHeld Q9 ?_
  refine Yq 26 (some 80) (YA 30 134217727) rfl ?_
  refine last_ (i := 27) (N := none) (YA 30 268435455) rfl rfl (by kernel_rfl) (by decide) (fun K hK => ?_)
  refine skip_ (w1 := ?_) (by rfl) rfl ?_ ?_
  rotate_left
  ·go_simp
   rfl
  refine hK.out _ _ ?_
  clear hK K
  refine Yq 28 (some 81) (YA 30 536870911) rfl ?_
  refine last_ (i := 29) (N := none) (YA 30 1073741823) rfl rfl (by kernel_rfl) (by decide) (fun K hK => ?_)
  refine skip_ (w1 := ?_) (by rfl) rfl ?_ ?_
  rotate_left
  ·go_simp
   rfl
  refine hK.out _ _ ?_
  clear hK K
  refine done_ (by kernel_rfl) ?_
  clear hxs hzs hxt hzt
  replace BK := Ya (show (World.setCell (World.setCell w2 ⟨g4, Int.toNat (a), none⟩ (.int .i64 (Z))) ⟨g4, Int.toNat (a + 1), none⟩ (.int .i64 (Y))).heap[g]? = _ from (blk_far (p := ⟨g4, Int.toNat (a + 1), none⟩) (blk_far (p := ⟨g4, Int.toNat (a), none⟩) BK.out hne2.1 (.int .i64 (Z))) hne2.1 (.int .i64 (Y))))
  replace HK := Ya (show Kept w (World.setCell (World.setCell w2 ⟨g4, Int.toNat (a), none⟩ (.int .i64 (Z))) ⟨g4, Int.toNat (a + 1), none⟩ (.int .i64 (Y))) (Ws g1 g2 g3 g4 g5) from (Kept.setCell (p := ⟨g4, Int.toNat (a + 1), none⟩) (Kept.setCell (p := ⟨g4, Int.toNat (a), none⟩) HK.out (.inl (.inr (.inl rfl))) (.int .i64 (Z))) (.inl (.inr (.inl rfl))) (.int .i64 (Y))))
  replace HW := Ya (show Below w0.heap.size w0 (World.setCell (World.setCell w2 ⟨g4, Int.toNat (a), none⟩ (.int .i64 (Z))) ⟨g4, Int.toNat (a + 1), none⟩ (.int .i64 (Y))) from (Z6 (j := Int.toNat (a + 1)) (v := .int .i64 (Y)) (Z6 (j := Int.toNat (a)) (v := .int .i64 (Z)) HW.out (SwR.ge HS.out).1) (SwR.ge HS.out).1))
  replace HS := Ya (show SwR (World.setCell (World.setCell w2 ⟨g4, Int.toNat (a), none⟩ (.int .i64 (Z))) ⟨g4, Int.toNat (a + 1), none⟩ (.int .i64 (Y))) w0.heap.size g0 c0 g1 c1 g2 c2 g3 c3 g4 c4 g5 c5 b D1 U1 P1 ((it.set a.toNat Z).set (a + 1).toNat Y) wh from (SwR.put4 (SwR.put4 HS.out (a) (Z)) (a + 1) (Y)))
  generalize World.setCell (World.setCell w2 ⟨g4, Int.toNat (a), none⟩ (.int .i64 (Z))) ⟨g4, Int.toNat (a + 1), none⟩ (.int .i64 (Y)) = w3 at BK HS HK HW ⊢
  go_wp2_with fail
  replace BK := Ya (Z26 BK.out)
  replace HS := Ya (SwR.drew HS.out)
  replace HK := Ya (Kept.drew HK.out)
  replace HW := Ya (Z4 HW.out)
  refine start_ (n := 30) (S := fun w' => w'.cell? ⟨g, 4, none⟩ = some (.slice (some ⟨g4, 0, none⟩) it.length c4) ∧ w'.cell? ⟨g, 5, none⟩ = some (.slice (some ⟨g5, 0, none⟩) wh.length c5) ∧ w'.cell? ⟨g4, a.toNat, none⟩ = some (.int .i64 Z) ∧ w'.cell? ⟨g4, (a + 1).toNat, none⟩ = some (.int .i64 Y)) (ds := [27, 29]) (YA 30 0) (by kernel_rfl) rfl rfl ⟨(Z23 BK.out 4).trans rfl, (Z23 BK.out 5).trans rfl, (SwR.at4 HS.out (a) Q10 Q11).1.trans (by rw [HV.out.1]), (SwR.at4 HS.out (a + 1) Q10 Q11).1.trans (by rw [HV.out.2])⟩ (fun hHeld => ?_)
  generalize World.drew _ = w4 at BK HS HK HW hHeld ⊢
  have hxs := (SwR.at5 HS.out (Z) Q10 Q11).1
  have hzs := (SwR.at5 HS.out (Z) Q10 Q11).2
  have hxt := (SwR.at5 (SwR.put5 HS.out Z a) (Y) Q10 Q11).1
  have hzt := (SwR.at5 (SwR.put5 HS.out Z a) (Y) Q10 Q11).2
  refine Yq 0 (some 82) (YA 30 1) rfl ?_
  refine Yq 1 (some 83) (YA 30 3) rfl ?_
  refine Yq 2 (some 84) (YA 30 7) rfl ?_
  refine Yq 4 (some 86) (YA 30 23) rfl ?_
  refine Yq 5 (some 87) (YA 30 55) rfl ?_
  refine Yq 6 (some 88) (YA 30 119) rfl ?_
  refine Yq 8 (some 90) (YA 30 375) rfl ?_
  refine Yq 11 (some 93) (YA 30 2423) rfl ?_
  refine Yq 12 (some 94) (YA 30 6519) rfl ?_
  refine Yq 13 (some 95) (YA 30 14711) rfl ?_
  refine Yq 15 (some 97) (YA 30 47479) rfl ?_
  refine Yq 16 (some 98) (YA 30 113015) rfl ?_
  refine Yq 17 (some 99) (YA 30 244087) rfl ?_
  refine Yq 19 (some 101) (YA 30 768375) rfl ?_
  refine Yq 20 (some 102) (YA 30 1816951) rfl ?_
  refine Yq 23 (some 105) (YA 30 10205559) rfl ?_
  refine Yq 24 (some 106) (YA 30 26982775) rfl ?_
  refine Yq 25 (some 107) (YA 30 60537207) rfl ?_
  refine Ys 3 (some 85) (YA 30 60537215) rfl hHeld Q3 ?_
  refine Ys 7 (some 89) (YA 30 60537343) rfl hHeld Q3 ?_
  refine Yq 9 (some 91) (YA 30 60537855) rfl ?_
  refine Ys 10 (some 92) (YA 30 60538879) rfl hHeld Q3 ?_
  refine Ys 14 (some 96) (YA 30 60555263) rfl hHeld Q3 ?_
  refine Ys 18 (some 100) (YA 30 60817407) rfl hHeld Q3 ?_
  refine Yq 21 (some 103) (YA 30 62914559) rfl ?_
  refine Ys 22 (some 104) (YA 30 67108863) rfl hHeld Q3 ?_
  refine Yq 26 (some 108) (YA 30 134217727) rfl ?_
  refine last_ (i := 27) (N := none) (YA 30 268435455) rfl rfl (by kernel_rfl) (by decide) (fun K hK => ?_)
  refine skip_ (w1 := ?_) (by rfl) rfl ?_ ?_
  rotate_left
  ·go_simp
   rfl
  refine hK.out _ _ ?_
  clear hK K
  refine Yq 28 (some 109) (YA 30 536870911) rfl ?_
  refine last_ (i := 29) (N := none) (YA 30 1073741823) rfl rfl (by kernel_rfl) (by decide) (fun K hK => ?_)
  refine skip_ (w1 := ?_) (by rfl) rfl ?_ ?_
  rotate_left
  ·go_simp
   rfl
  refine hK.out _ _ ?_
  clear hK K
  refine done_ (by kernel_rfl) ?_
  clear hxs hzs hxt hzt
  replace BK := Ya (show (World.setCell (World.setCell w4 ⟨g5, Int.toNat (Z), none⟩ (.int .i64 (a))) ⟨g5, Int.toNat (Y), none⟩ (.int .i64 (a + 1))).heap[g]? = _ from (blk_far (p := ⟨g5, Int.toNat (Y), none⟩) (blk_far (p := ⟨g5, Int.toNat (Z), none⟩) BK.out hne2.2 (.int .i64 (a))) hne2.2 (.int .i64 (a + 1))))
  replace HK := Ya (show Kept w (World.setCell (World.setCell w4 ⟨g5, Int.toNat (Z), none⟩ (.int .i64 (a))) ⟨g5, Int.toNat (Y), none⟩ (.int .i64 (a + 1))) (Ws g1 g2 g3 g4 g5) from (Kept.setCell (p := ⟨g5, Int.toNat (Y), none⟩) (Kept.setCell (p := ⟨g5, Int.toNat (Z), none⟩) HK.out (.inl (.inr (.inr rfl))) (.int .i64 (a))) (.inl (.inr (.inr rfl))) (.int .i64 (a + 1))))
  replace HW := Ya (show Below w0.heap.size w0 (World.setCell (World.setCell w4 ⟨g5, Int.toNat (Z), none⟩ (.int .i64 (a))) ⟨g5, Int.toNat (Y), none⟩ (.int .i64 (a + 1))) from (Z6 (j := Int.toNat (Y)) (v := .int .i64 (a + 1)) (Z6 (j := Int.toNat (Z)) (v := .int .i64 (a)) HW.out (SwR.ge HS.out).2) (SwR.ge HS.out).2))
  replace HS := Ya (show SwR (World.setCell (World.setCell w4 ⟨g5, Int.toNat (Z), none⟩ (.int .i64 (a))) ⟨g5, Int.toNat (Y), none⟩ (.int .i64 (a + 1))) w0.heap.size g0 c0 g1 c1 g2 c2 g3 c3 g4 c4 g5 c5 b D1 U1 P1 ((it.set a.toNat Z).set (a + 1).toNat Y) ((wh.set Z.toNat a).set Y.toNat (a + 1)) from (SwR.put5 (SwR.put5 HS.out (Z) (a)) (Y) (a + 1)))
  generalize World.setCell (World.setCell w4 ⟨g5, Int.toNat (Z), none⟩ (.int .i64 (a))) ⟨g5, Int.toNat (Y), none⟩ (.int .i64 (a + 1)) = w5 at BK HS HK HW ⊢
  go_wp2
  go_ret
  exact ⟨rfl, BK.out.trans HB0.out.symm, HS.out, HK.out, HW.out⟩
 ·rw [hU] at f2 ha
  have hv : rd wh X - 1 = a := by simpa using ha
  have hw : wrap64 (rd wh X - 1) = a := by rw [← hv]; have := HVX.out; unfold wrap64; omega
  have hw' : IntKind.i64.wrap (rd wh X - 1) = a := (i64_w _).trans hw
  clear hv ha
  go_wp2_with fail
  refine (impl_Focus_step.callsG #[.slice (some ⟨g0, 0, none⟩) b.length c0, .slice (some ⟨g1, 0, none⟩) d.length c1, .slice (some ⟨g2, 0, none⟩) u.length c2, .slice (some ⟨g3, 0, none⟩) p.length c3, .slice (some ⟨g4, 0, none⟩) it.length c4, .slice (some ⟨g5, 0, none⟩) wh.length c5] 35 (by decide) w0 g g0 c0 g1 c1 g2 c2 g3 c3 b d u p D1 U1 P1 R1 w rfl rfl rfl rfl BK.out HS.out.f HW.out HST.out).mono ?_
  rintro e w1 ⟨rfl, hk1, hk2, hk3, hk4⟩
  have n0_ := Ya (hk1.trans BK.out)
  have n1_ := Ya (SwR.step HS.out hk2 hk3)
  have HK := Ya (show Kept w w1 (Ws g1 g2 g3 g4 g5) from hk3.mono (fun _ h_ => .inl h_))
  clear BK HS HW hk1 hk2 hk3 e0 e2 e3 e4 e5 f2 f3 f5
  have BK := n0_
  have HS := n1_
  have HW := Ya hk4
  clear n0_ n1_ hk4
  go_wp2_with fail
  replace BK := Ya (Z26 BK.out)
  replace HS := Ya (SwR.drew HS.out)
  replace HK := Ya (Kept.drew HK.out)
  replace HW := Ya (Z4 HW.out)
  refine start_ (n := 30) (S := fun w' => w'.cell? ⟨g, 4, none⟩ = some (.slice (some ⟨g4, 0, none⟩) it.length c4) ∧ w'.cell? ⟨g4, a.toNat, none⟩ = some (.int .i64 Y) ∧ w'.cell? ⟨g4, (a + 1).toNat, none⟩ = some (.int .i64 Z)) (ds := [27, 29]) (YA 30 0) (by kernel_rfl) rfl rfl ⟨(Z23 BK.out 4).trans rfl, (SwR.at4 HS.out (a) Q10 Q11).1.trans (by rw [HY.out]), (SwR.at4 HS.out (a + 1) Q10 Q11).1.trans (by rw [HZ.out])⟩ (fun hHeld => ?_)
  generalize World.drew _ = w2 at BK HS HK HW hHeld ⊢
  have hxs := (SwR.at4 HS.out (a) Q10 Q11).1
  have hzs := (SwR.at4 HS.out (a) Q10 Q11).2
  have hxt := (SwR.at4 (SwR.put4 HS.out a Z) (a + 1) Q10 Q11).1
  have hzt := (SwR.at4 (SwR.put4 HS.out a Z) (a + 1) Q10 Q11).2
  refine Yq 0 (some 54) (YA 30 1) rfl ?_
  refine Yq 1 (some 55) (YA 30 3) rfl ?_
  refine Yq 2 (some 56) (YA 30 7) rfl ?_
  refine Yq 4 (some 58) (YA 30 23) rfl ?_
  refine Yq 5 (some 59) (YA 30 55) rfl ?_
  refine Yq 6 (some 60) (YA 30 119) rfl ?_
  refine Yq 7 (some 61) (YA 30 247) rfl ?_
  refine Yq 9 (some 63) (YA 30 759) rfl ?_
  refine Yq 10 (some 64) (YA 30 1783) rfl ?_
  refine Yq 11 (some 65) (YA 30 3831) rfl ?_
  refine Yq 12 (some 66) (YA 30 7927) rfl ?_
  refine Yq 13 (some 67) (YA 30 16119) rfl ?_
  refine Yq 15 (some 69) (YA 30 48887) rfl ?_
  refine Yq 16 (some 70) (YA 30 114423) rfl ?_
  refine Yq 19 (some 73) (YA 30 638711) rfl ?_
  refine Yq 20 (some 74) (YA 30 1687287) rfl ?_
  refine Yq 21 (some 75) (YA 30 3784439) rfl ?_
  refine Yq 23 (some 77) (YA 30 12173047) rfl ?_
  refine Ys 3 (some 57) (YA 30 12173055) rfl hHeld Q9 ?_
  refine Ys 8 (some 62) (YA 30 12173311) rfl hHeld Q9 ?_
  refine Ys 14 (some 68) (YA 30 12189695) rfl hHeld Q9 ?_
  refine Yq 17 (some 71) (YA 30 12320767) rfl ?_
  refine Ys 18 (some 72) (YA 30 12582911) rfl hHeld Q9 ?_
  refine Ys 22 (some 76) (YA 30 16777215) rfl hHeld Q9 ?_
  refine Yq 24 (some 78) (YA 30 33554431) rfl ?_
  refine Ys 25 (some 79) (YA 30 67108863) rfl hHeld Q9 ?_
  refine Yq 26 (some 80) (YA 30 134217727) rfl ?_
  refine last_ (i := 27) (N := none) (YA 30 268435455) rfl rfl (by kernel_rfl) (by decide) (fun K hK => ?_)
  refine skip_ (w1 := ?_) (by rfl) rfl ?_ ?_
  rotate_left
  ·go_simp
   rfl
  refine hK.out _ _ ?_
  clear hK K
  refine Yq 28 (some 81) (YA 30 536870911) rfl ?_
  refine last_ (i := 29) (N := none) (YA 30 1073741823) rfl rfl (by kernel_rfl) (by decide) (fun K hK => ?_)
  refine skip_ (w1 := ?_) (by rfl) rfl ?_ ?_
  rotate_left
  ·go_simp
   rfl
  refine hK.out _ _ ?_
  clear hK K
  refine done_ (by kernel_rfl) ?_
  clear hxs hzs hxt hzt
  replace BK := Ya (show (World.setCell (World.setCell w2 ⟨g4, Int.toNat (a), none⟩ (.int .i64 (Z))) ⟨g4, Int.toNat (a + 1), none⟩ (.int .i64 (Y))).heap[g]? = _ from (blk_far (p := ⟨g4, Int.toNat (a + 1), none⟩) (blk_far (p := ⟨g4, Int.toNat (a), none⟩) BK.out hne2.1 (.int .i64 (Z))) hne2.1 (.int .i64 (Y))))
  replace HK := Ya (show Kept w (World.setCell (World.setCell w2 ⟨g4, Int.toNat (a), none⟩ (.int .i64 (Z))) ⟨g4, Int.toNat (a + 1), none⟩ (.int .i64 (Y))) (Ws g1 g2 g3 g4 g5) from (Kept.setCell (p := ⟨g4, Int.toNat (a + 1), none⟩) (Kept.setCell (p := ⟨g4, Int.toNat (a), none⟩) HK.out (.inl (.inr (.inl rfl))) (.int .i64 (Z))) (.inl (.inr (.inl rfl))) (.int .i64 (Y))))
  replace HW := Ya (show Below w0.heap.size w0 (World.setCell (World.setCell w2 ⟨g4, Int.toNat (a), none⟩ (.int .i64 (Z))) ⟨g4, Int.toNat (a + 1), none⟩ (.int .i64 (Y))) from (Z6 (j := Int.toNat (a + 1)) (v := .int .i64 (Y)) (Z6 (j := Int.toNat (a)) (v := .int .i64 (Z)) HW.out (SwR.ge HS.out).1) (SwR.ge HS.out).1))
  replace HS := Ya (show SwR (World.setCell (World.setCell w2 ⟨g4, Int.toNat (a), none⟩ (.int .i64 (Z))) ⟨g4, Int.toNat (a + 1), none⟩ (.int .i64 (Y))) w0.heap.size g0 c0 g1 c1 g2 c2 g3 c3 g4 c4 g5 c5 b D1 U1 P1 ((it.set a.toNat Z).set (a + 1).toNat Y) wh from (SwR.put4 (SwR.put4 HS.out (a) (Z)) (a + 1) (Y)))
  generalize World.setCell (World.setCell w2 ⟨g4, Int.toNat (a), none⟩ (.int .i64 (Z))) ⟨g4, Int.toNat (a + 1), none⟩ (.int .i64 (Y)) = w3 at BK HS HK HW ⊢
  go_wp2_with fail
  replace BK := Ya (Z26 BK.out)
  replace HS := Ya (SwR.drew HS.out)
  replace HK := Ya (Kept.drew HK.out)
  replace HW := Ya (Z4 HW.out)
  refine start_ (n := 30) (S := fun w' => w'.cell? ⟨g, 4, none⟩ = some (.slice (some ⟨g4, 0, none⟩) it.length c4) ∧ w'.cell? ⟨g, 5, none⟩ = some (.slice (some ⟨g5, 0, none⟩) wh.length c5) ∧ w'.cell? ⟨g4, a.toNat, none⟩ = some (.int .i64 Z) ∧ w'.cell? ⟨g4, (a + 1).toNat, none⟩ = some (.int .i64 Y)) (ds := [27, 29]) (YA 30 0) (by kernel_rfl) rfl rfl ⟨(Z23 BK.out 4).trans rfl, (Z23 BK.out 5).trans rfl, (SwR.at4 HS.out (a) Q10 Q11).1.trans (by rw [HV.out.1]), (SwR.at4 HS.out (a + 1) Q10 Q11).1.trans (by rw [HV.out.2])⟩ (fun hHeld => ?_)
  generalize World.drew _ = w4 at BK HS HK HW hHeld ⊢
  have hxs := (SwR.at5 HS.out (Z) Q10 Q11).1
  have hzs := (SwR.at5 HS.out (Z) Q10 Q11).2
  have hxt := (SwR.at5 (SwR.put5 HS.out Z a) (Y) Q10 Q11).1
  have hzt := (SwR.at5 (SwR.put5 HS.out Z a) (Y) Q10 Q11).2
  refine Yq 0 (some 82) (YA 30 1) rfl ?_
  refine Yq 1 (some 83) (YA 30 3) rfl ?_
  refine Yq 2 (some 84) (YA 30 7) rfl ?_
  refine Yq 4 (some 86) (YA 30 23) rfl ?_
  refine Yq 5 (some 87) (YA 30 55) rfl ?_
  refine Yq 6 (some 88) (YA 30 119) rfl ?_
  refine Yq 8 (some 90) (YA 30 375) rfl ?_
  refine Yq 11 (some 93) (YA 30 2423) rfl ?_
  refine Yq 12 (some 94) (YA 30 6519) rfl ?_
  refine Yq 13 (some 95) (YA 30 14711) rfl ?_
  refine Yq 15 (some 97) (YA 30 47479) rfl ?_
  refine Yq 16 (some 98) (YA 30 113015) rfl ?_
  refine Yq 17 (some 99) (YA 30 244087) rfl ?_
  refine Yq 19 (some 101) (YA 30 768375) rfl ?_
  refine Yq 20 (some 102) (YA 30 1816951) rfl ?_
  refine Yq 23 (some 105) (YA 30 10205559) rfl ?_
  refine Yq 24 (some 106) (YA 30 26982775) rfl ?_
  refine Yq 25 (some 107) (YA 30 60537207) rfl ?_
  refine Ys 3 (some 85) (YA 30 60537215) rfl hHeld Q3 ?_
  refine Ys 7 (some 89) (YA 30 60537343) rfl hHeld Q3 ?_
  refine Yq 9 (some 91) (YA 30 60537855) rfl ?_
  refine Ys 10 (some 92) (YA 30 60538879) rfl hHeld Q3 ?_
  refine Ys 14 (some 96) (YA 30 60555263) rfl hHeld Q3 ?_
  refine Ys 18 (some 100) (YA 30 60817407) rfl hHeld Q3 ?_
  refine Yq 21 (some 103) (YA 30 62914559) rfl ?_
  refine Ys 22 (some 104) (YA 30 67108863) rfl hHeld Q3 ?_
  refine Yq 26 (some 108) (YA 30 134217727) rfl ?_
  refine last_ (i := 27) (N := none) (YA 30 268435455) rfl rfl (by kernel_rfl) (by decide) (fun K hK => ?_)
  refine skip_ (w1 := ?_) (by rfl) rfl ?_ ?_
  rotate_left
  ·go_simp
   rfl
  refine hK.out _ _ ?_
  clear hK K
  refine Yq 28 (some 109) (YA 30 536870911) rfl ?_
  refine last_ (i := 29) (N := none) (YA 30 1073741823) rfl rfl (by kernel_rfl) (by decide) (fun K hK => ?_)
  refine skip_ (w1 := ?_) (by rfl) rfl ?_ ?_
  rotate_left
  ·go_simp
   rfl
  refine hK.out _ _ ?_
  clear hK K
  refine done_ (by kernel_rfl) ?_
  clear hxs hzs hxt hzt
  replace BK := Ya (show (World.setCell (World.setCell w4 ⟨g5, Int.toNat (Z), none⟩ (.int .i64 (a))) ⟨g5, Int.toNat (Y), none⟩ (.int .i64 (a + 1))).heap[g]? = _ from (blk_far (p := ⟨g5, Int.toNat (Y), none⟩) (blk_far (p := ⟨g5, Int.toNat (Z), none⟩) BK.out hne2.2 (.int .i64 (a))) hne2.2 (.int .i64 (a + 1))))
  replace HK := Ya (show Kept w (World.setCell (World.setCell w4 ⟨g5, Int.toNat (Z), none⟩ (.int .i64 (a))) ⟨g5, Int.toNat (Y), none⟩ (.int .i64 (a + 1))) (Ws g1 g2 g3 g4 g5) from (Kept.setCell (p := ⟨g5, Int.toNat (Y), none⟩) (Kept.setCell (p := ⟨g5, Int.toNat (Z), none⟩) HK.out (.inl (.inr (.inr rfl))) (.int .i64 (a))) (.inl (.inr (.inr rfl))) (.int .i64 (a + 1))))
  replace HW := Ya (show Below w0.heap.size w0 (World.setCell (World.setCell w4 ⟨g5, Int.toNat (Z), none⟩ (.int .i64 (a))) ⟨g5, Int.toNat (Y), none⟩ (.int .i64 (a + 1))) from (Z6 (j := Int.toNat (Y)) (v := .int .i64 (a + 1)) (Z6 (j := Int.toNat (Z)) (v := .int .i64 (a)) HW.out (SwR.ge HS.out).2) (SwR.ge HS.out).2))
  replace HS := Ya (show SwR (World.setCell (World.setCell w4 ⟨g5, Int.toNat (Z), none⟩ (.int .i64 (a))) ⟨g5, Int.toNat (Y), none⟩ (.int .i64 (a + 1))) w0.heap.size g0 c0 g1 c1 g2 c2 g3 c3 g4 c4 g5 c5 b D1 U1 P1 ((it.set a.toNat Z).set (a + 1).toNat Y) ((wh.set Z.toNat a).set Y.toNat (a + 1)) from (SwR.put5 (SwR.put5 HS.out (Z) (a)) (Y) (a + 1)))
  generalize World.setCell (World.setCell w4 ⟨g5, Int.toNat (Z), none⟩ (.int .i64 (a))) ⟨g5, Int.toNat (Y), none⟩ (.int .i64 (a + 1)) = w5 at BK HS HK HW ⊢
  go_wp2
  go_ret
  exact ⟨rfl, BK.out.trans HB0.out.symm, HS.out, HK.out, HW.out⟩
set_option maxHeartbeats 8000000 in
set_option maxRecDepth 100000 in
theorem impl_Swapper_step.callsEnd (CS : Array Value) (T : TypeId) (g g3 n c0 lp c3 : Nat) (A0 : Option Addr) (w : World)
  (hs0 : CS[0]? = some (.slice A0 n c0)) (hs3 : CS[3]? = some (.slice (some ⟨g3, 0, none⟩) lp c3)) (hl : 0 < lp) (hm : n ≤ 1000)
  (hb : w.heap[g]? = some (.cells CS T (0, 0))) (hp : w.cell? ⟨g3, 0, none⟩ = some (.int .i64 (n : Int))) :
  Calls Try.prog 57 #[.pointer (some ⟨g, 0, none⟩)] w fun e w' => e = .returned (.int .i64 (-1)) ∧ Below w.heap.size w w' := by
 have e0 := (Z23 hb 0).trans hs0
 have e3 := (Z23 hb 3).trans hs3
 have b5 : (0 < lp) = True := eq_true hl
 have b6 : ((0 : Int) < (lp : Int)) = True := eq_true (by omega)
 have k1 : wrap64 ((n : Int) - 1) = (n : Int) - 1 := by unfold wrap64; omega
 have k1' : IntKind.i64.wrap ((n : Int) - 1) = (n : Int) - 1 := (i64_w _).trans k1
 have k2 : wrap64 ((n : Int) - 1 - n) = -1 := by unfold wrap64; omega
 have k2' : IntKind.i64.wrap ((n : Int) - 1 - n) = -1 := (i64_w _).trans k2
 clear hb
 go_enter Try.func57, Try.ntmps57
 go_wp2
 go_ret
 exact ⟨rfl, Below.refl _ _⟩
mutual
def impl_swapperAt.l0 : Nat → Int → Int → List Int → List Int → List Bool → List Int → List Int → List Int → Option (List Int × List Int × List Bool × List Int × List Int × List Int)
 | 0, _, _, _, _, _, _, _, _ => none
 | k + 1, n, i, b, d, u, p, it, wh => if i < n then ((Go.Proofs.Ytpfakdhfffehaaa.SwW.stepS b d u p it wh).bind fun r => (impl_swapperAt.l0 k n (wrap64 (i + 1)) b r.1 r.2.1 r.2.2.1 r.2.2.2.1 r.2.2.2.2.1)) else (some (b, d, u, p, it, wh))
end
def impl_swapperAt.f (k : Nat) (a0 : Int) (a1 : Int) : Option (List Int × List Int × List Bool × List Int × List Int × List Int) := (impl_startSwapper.f k a0).bind fun t => impl_swapperAt.l0 k a1 0 t.1 t.2.1 t.2.2.1 t.2.2.2.1 t.2.2.2.2.1 t.2.2.2.2.2
theorem impl_swapperAt.mono_l : ∀ k, (∀ y0 y1 y2 y3 y4 y5 y6 y7, LeO (impl_swapperAt.l0 k y0 y1 y2 y3 y4 y5 y6 y7) (impl_swapperAt.l0 (k + 1) y0 y1 y2 y3 y4 y5 y6 y7))
 | 0 => fun _ _ _ _ _ _ _ _ r h => by simp [impl_swapperAt.l0] at h
 | k + 1 => by
  have ih0 := impl_swapperAt.mono_l k
  ·intro y0 y1 y2 y3 y4 y5 y6 y7
   unfold impl_swapperAt.l0
   repeat' first
   | (with_reducible exact ih0 _ _ _ _ _ _ _ _)
   | (with_reducible exact impl_startSwapper.mono _ _)
   | (with_reducible exact LeO.refl _)
   | (with_reducible exact LeO.none _)
   | (with_reducible refine LeO.ite ?_ ?_)
   | (with_reducible refine LeO.bind ?_ (fun _ => ?_))
   | exact ih0 _ _ _ _ _ _ _ _
   | exact impl_startSwapper.mono _ _
   | exact LeO.none _
   | refine LeO.ite ?_ ?_
   | refine LeO.bind ?_ (fun _ => ?_)
theorem impl_swapperAt.mono : ∀ a0 a1 k, LeO (impl_swapperAt.f k a0 a1) (impl_swapperAt.f (k + 1) a0 a1) := by
 intro a0 a1 k
 have ih0 := impl_swapperAt.mono_l k
 unfold impl_swapperAt.f
 repeat' first
   | (with_reducible exact ih0 _ _ _ _ _ _ _ _)
   | (with_reducible exact impl_startSwapper.mono _ _)
   | (with_reducible exact LeO.refl _)
   | (with_reducible exact LeO.none _)
   | (with_reducible refine LeO.ite ?_ ?_)
   | (with_reducible refine LeO.bind ?_ (fun _ => ?_))
   | exact ih0 _ _ _ _ _ _ _ _
   | exact impl_startSwapper.mono _ _
   | exact LeO.none _
   | refine LeO.ite ?_ ?_
   | refine LeO.bind ?_ (fun _ => ?_)
open Go.Proofs.Ytpfakdhfffehaaa.FoW Go.Proofs.Ytpfakdhfffehaaa.SwW in
set_option maxHeartbeats 8000000 in
set_option maxRecDepth 100000 in
theorem impl_swapperAt.calls (k : Nat) (a0 : Int) (a1 : Int) (r1 : List Int) (r2 : List Int) (r3 : List Bool) (r4 : List Int) (r5 : List Int) (r6 : List Int) (w : World) (h : impl_swapperAt.f k a0 a1 = some (r1, r2, r3, r4, r5, r6)) :
  Calls Try.prog 50 #[.int .i64 a0, .int .i64 a1] w fun e w' => ∃ v0_ v1_ v2_ v3_ v4_ v5_ : Value, e = .returned (.agg #[v0_, v1_, v2_, v3_, v4_, v5_]) ∧ Kd.R (Kd.int .i64) 3 w' w.heap.size (fun k_ => some k_ ≠ (v1_ : Value).ownBlock ∧ some k_ ≠ (v3_ : Value).ownBlock ∧ some k_ ≠ (v4_ : Value).ownBlock ∧ some k_ ≠ (v5_ : Value).ownBlock) v0_ r1 ∧ Kd.R (Kd.int .i64) 3 w' w.heap.size (fun k_ => some k_ ≠ (v0_ : Value).ownBlock ∧ some k_ ≠ (v3_ : Value).ownBlock ∧ some k_ ≠ (v4_ : Value).ownBlock ∧ some k_ ≠ (v5_ : Value).ownBlock) v1_ r2 ∧ Kd.R Kd.bool 4 w' w.heap.size (fun _ => True) v2_ r3 ∧ Kd.R (Kd.int .i64) 3 w' w.heap.size (fun k_ => some k_ ≠ (v0_ : Value).ownBlock ∧ some k_ ≠ (v1_ : Value).ownBlock ∧ some k_ ≠ (v4_ : Value).ownBlock ∧ some k_ ≠ (v5_ : Value).ownBlock) v3_ r4 ∧ Kd.R (Kd.int .i64) 3 w' w.heap.size (fun k_ => some k_ ≠ (v0_ : Value).ownBlock ∧ some k_ ≠ (v1_ : Value).ownBlock ∧ some k_ ≠ (v3_ : Value).ownBlock ∧ some k_ ≠ (v5_ : Value).ownBlock) v4_ r5 ∧ Kd.R (Kd.int .i64) 3 w' w.heap.size (fun k_ => some k_ ≠ (v0_ : Value).ownBlock ∧ some k_ ≠ (v1_ : Value).ownBlock ∧ some k_ ≠ (v3_ : Value).ownBlock ∧ some k_ ≠ (v4_ : Value).ownBlock) v5_ r6 ∧ Below w.heap.size w w' := by
 have hu := Try.underlying35
 unfold impl_swapperAt.f at h
 obtain ⟨⟨b, D1, U1, P1, I1, W1⟩, h1, h⟩ := Z36.mp h
 have A1_ := Ya h1
 have H' := Ya h
 have HB := Ya (Below.refl w.heap.size w)
 clear h h1
 go_enter Try.func50, Try.ntmps50
 go_upto_region 3 with (first | ((with_reducible refine gate_dst (N := 4) rfl ?_); refine Yx 4 YN6 35 ?_; intro gb4 hg w1 hbox hb; have n0_ := Yh hb; have BK4 := Ya hbox; have GE4 := Ya (by rw [hg]; exact Z7 Q0 : w.heap.size ≤ gb4); clear HB; have HB := n0_; clear n0_; clear hb hbox hg) | ((with_reducible refine gate_callee (f := 52) rfl ?_); refine Yz 7 Try.func52 #[.int .i64 a0] ?_ (hargs := Q17); (with_reducible refine (impl_startSwapper.calls k a0 b D1 U1 P1 I1 W1 _ A1_.out).mono ?_); rintro e w2 ⟨v0, v1, v2, v3, v4, v5, rfl, ho0, ho1, ho2, ho3, ho4, ho5, hb⟩; refine ⟨_, rfl, ?_⟩; have HSZ := Z7 Q0; have hSV : SwV w2 w.heap.size v0 v1 v2 v3 v4 v5 b D1 U1 P1 I1 W1 := ⟨Kd.R_lower ho0 HSZ, Kd.R_lower ho1 HSZ, Kd.R_lower ho2 HSZ, Kd.R_lower ho3 HSZ, Kd.R_lower ho4 HSZ, Kd.R_lower ho5 HSZ⟩; obtain ⟨A0, q0, rfl⟩ := Z19 ho0; obtain ⟨A1, q1, rfl⟩ := Z19 ho1; obtain ⟨A2, q2, rfl⟩ := Z19 ho2; obtain ⟨A3, q3, rfl⟩ := Z19 ho3; obtain ⟨A4, q4, rfl⟩ := Z19 ho4; obtain ⟨A5, q5, rfl⟩ := Z19 ho5; have n0_ := Yh hb; have n1_ := Ya (Z28 (by first | exact BK4.out | (exact Z26 BK4.out)) hb); have HV := Ya hSV; clear HB BK4 HSZ ho0 ho1 ho2 ho3 ho4 ho5 hb hSV; have HB := n0_; have BK4 := n1_; clear n0_ n1_) | ((with_reducible refine gate_dst (N := 5) rfl ?_); refine Yx 5 YN6 35 ?_; intro gb5 hg w3 hbox hb; have n0_ := Yh hb; have BK := Ya hbox; have GE5 := Ya (by rw [hg]; exact Z7 Q0 : w.heap.size ≤ gb5); have NE := Ya (by rw [hg]; exact Nat.ne_of_lt (blk_lt BK4.out) : gb4 ≠ gb5); have n1_ := Ya (SwV.below (by (with_reducible repeat (first | apply SwV.drewN | apply SwV.drew)); exact HV.out) hb); have n2_ := Ya (Z28 BK4.out hb); clear HV BK4; have HV := n1_; have BK4 := n2_; clear n1_ n2_; clear HB; have HB := n0_; clear n0_; have hd0 := (Z23 BK.out 0).trans rfl; have hd1 := (Z23 BK.out 1).trans rfl; have hd2 := (Z23 BK.out 2).trans rfl; have hd3 := (Z23 BK.out 3).trans rfl; have hd4 := (Z23 BK.out 4).trans rfl; have hd5 := (Z23 BK.out 5).trans rfl; have hf0 := Z24 BK.out 0; have hf1 := Z24 BK.out 1; have hf2 := Z24 BK.out 2; have hf3 := Z24 BK.out 3; have hf4 := Z24 BK.out 4; have hf5 := Z24 BK.out 5; clear hb hbox hg))
 replace HV := Ya (SwV.set6 HV.out BK.out (by decide) (by decide) (.slice A0 b.length q0) (.slice A1 D1.length q1) (.slice A2 U1.length q2) (.slice A3 P1.length q3) (.slice A4 I1.length q4) (.slice A5 W1.length q5))
 replace BK := Ya (set6_at BK.out (.slice A0 b.length q0) (.slice A1 D1.length q1) (.slice A2 U1.length q2) (.slice A3 P1.length q3) (.slice A4 I1.length q4) (.slice A5 W1.length q5))
 replace BK4 := Ya ((set6_far _ gb5 (.slice A0 b.length q0) (.slice A1 D1.length q1) (.slice A2 U1.length q2) (.slice A3 P1.length q3) (.slice A4 I1.length q4) (.slice A5 W1.length q5) gb4 NE.out).trans BK4.out)
 replace HB := Ya (set6_below HB.out GE5.out (.slice A0 b.length q0) (.slice A1 D1.length q1) (.slice A2 U1.length q2) (.slice A3 P1.length q3) (.slice A4 I1.length q4) (.slice A5 W1.length q5))
 clear hd0 hf0 hd1 hf1 hd2 hf2 hd3 hf3 hd4 hf4 hd5 hf5
 unfold set6 at BK HV BK4 HB
 generalize ((((((w3.setCell ⟨gb5, 0, none⟩ (.slice A0 b.length q0)).setCell ⟨gb5, 1, none⟩ (.slice A1 D1.length q1)).setCell ⟨gb5, 2, none⟩ (.slice A2 U1.length q2)).setCell ⟨gb5, 3, none⟩ (.slice A3 P1.length q3)).setCell ⟨gb5, 4, none⟩ (.slice A4 I1.length q4)).setCell ⟨gb5, 5, none⟩ (.slice A5 W1.length q5)) = w4 at BK HV BK4 HB ⊢
 go_loopg [9] k (fun kq v9 w' => ∃ (i : Int) (d : List Int) (u : List Bool) (p it wh : List Int), v9 = .int .i64 i ∧ Aside0 (impl_swapperAt.l0 kq a1 i b d u p it wh = some (r1, r2, r3, r4, r5, r6)) ∧ Aside0 (kq ≤ k) ∧ Aside0 (d.length = D1.length ∧ u.length = U1.length ∧ p.length = P1.length ∧ it.length = I1.length ∧ wh.length = W1.length) ∧ Aside0 (w'.heap[gb5]? = some (.cells #[.slice A0 b.length q0, .slice A1 D1.length q1, .slice A2 U1.length q2, .slice A3 P1.length q3, .slice A4 I1.length q4, .slice A5 W1.length q5] 35 (0, 0))) ∧ Aside0 (w'.heap[gb4]? = some (.cells YN6 35 (0, 0))) ∧ Aside0 (SwV w' w.heap.size (.slice A0 b.length q0) (.slice A1 D1.length q1) (.slice A2 U1.length q2) (.slice A3 P1.length q3) (.slice A4 I1.length q4) (.slice A5 W1.length q5) b d u p it wh) ∧ Aside0 (Below w.heap.size w w'))
 case atStart => exact ⟨0, D1, U1, P1, I1, W1, by first | rfl | (simp; done), H', ⟨Nat.le_refl _⟩, ⟨rfl, rfl, rfl, rfl, rfl⟩, BK, BK4, HV, HB⟩
 case round =>
  clear H' BK HV BK4 HB
  obtain ⟨i, d, u, p, it, wh, rfl, HA, HK1, HL, BK, BK4, HV, HB⟩ := hrel
  cases gk with
  | zero => exact absurd HA.out (by simp [impl_swapperAt.l0])
  | succ k1 =>
   have H := HA.out
   clear HA
   simp only [impl_swapperAt.l0] at H
   by_cases c1 : i < a1
   rotate_left
   ·rw [if_neg c1] at H
    have b1 : decide (i < a1) = false := Z37 c1
    clear c1
    simp only [Option.some.injEq, Prod.mk.injEq] at H
    obtain ⟨rfl, rfl, rfl, rfl, rfl, rfl⟩ := H
    have hc0 := (Z23 BK.out 0).trans rfl
    have hf0 := Z24 BK.out 0
    have hd0 := (Z23 BK4.out 0).trans rfl
    have he0 := Z24 BK4.out 0
    have hc1 := (Z23 BK.out 1).trans rfl
    have hf1 := Z24 BK.out 1
    have hd1 := (Z23 BK4.out 1).trans rfl
    have he1 := Z24 BK4.out 1
    have hc2 := (Z23 BK.out 2).trans rfl
    have hf2 := Z24 BK.out 2
    have hd2 := (Z23 BK4.out 2).trans rfl
    have he2 := Z24 BK4.out 2
    have hc3 := (Z23 BK.out 3).trans rfl
    have hf3 := Z24 BK.out 3
    have hd3 := (Z23 BK4.out 3).trans rfl
    have he3 := Z24 BK4.out 3
    have hc4 := (Z23 BK.out 4).trans rfl
    have hf4 := Z24 BK.out 4
    have hd4 := (Z23 BK4.out 4).trans rfl
    have he4 := Z24 BK4.out 4
    have hc5 := (Z23 BK.out 5).trans rfl
    have hf5 := Z24 BK.out 5
    have hd5 := (Z23 BK4.out 5).trans rfl
    have he5 := Z24 BK4.out 5
    have hne := NE.out
    have hne' := NE.out.symm
    go_wp2
    refine bodyPost_ret (results_cell_row rfl _ _ gb4 35 #[.slice A0 b.length q0, .slice A1 D1.length q1, .slice A2 U1.length q2, .slice A3 P1.length q3, .slice A4 I1.length q4, .slice A5 W1.length q5] (0, 0) _ rfl (by have h_ := set6_at BK4.out (.slice A0 b.length q0) (.slice A1 D1.length q1) (.slice A2 U1.length q2) (.slice A3 P1.length q3) (.slice A4 I1.length q4) (.slice A5 W1.length q5); unfold set6 at h_; exact h_) hu rfl (by kernel_rfl)) rfl ?_
    have hv := SwV.set6 HV.out BK4.out (by decide) (by decide) (.slice A0 b.length q0) (.slice A1 D1.length q1) (.slice A2 U1.length q2) (.slice A3 P1.length q3) (.slice A4 I1.length q4) (.slice A5 W1.length q5)
    have hbb := set6_below HB.out GE4.out (.slice A0 b.length q0) (.slice A1 D1.length q1) (.slice A2 U1.length q2) (.slice A3 P1.length q3) (.slice A4 I1.length q4) (.slice A5 W1.length q5)
    unfold set6 at hv hbb
    exact ⟨_, _, _, _, _, _, rfl, hv.r0, hv.r1, hv.r2, hv.r3, hv.r4, hv.r5, hbb⟩
   rw [if_pos c1] at H
   have b1 : decide (i < a1) = true := Z38 c1
   obtain ⟨⟨d', u', p', it', wh', r⟩, hs, H⟩ := Z36.mp H
   obtain ⟨hd, hu', hp, hi', hw'⟩ := HL.out
   have hbk := BK.out
   rw [← hd, ← hu', ← hp, ← hi', ← hw'] at hbk
   have HBK := Ya hbk
   clear hbk c1
   have HV2 : Aside0 (SwV _ w.heap.size (.slice A0 b.length q0) (.slice A1 d.length q1) (.slice A2 u.length q2) (.slice A3 p.length q3) (.slice A4 it.length q4) (.slice A5 wh.length q5) b d u p it wh) := ⟨by have := HV.out; rw [← hd, ← hu', ← hp, ← hi', ← hw'] at this; exact this⟩
   have H' := Ya H
   have HS := Ya hs
   obtain ⟨hl, hl0, hl1, hl2, hl3, hl4, hl5⟩ := stepS_len hs
   have HL2 := Ya hl
   obtain ⟨g0, p0, g1, p1, g2, p2, g3, p3, g4, p4, g5, p5, e0, e1, e2, e3, e4, e5, hF⟩ := SwR.of HV2.out hl0 hl1 hl2 hl3 hl4 hl5
   injection e0 with x0 _ z0
   injection e1 with x1 _ z1
   injection e2 with x2 _ z2
   injection e3 with x3 _ z3
   injection e4 with x4 _ z4
   injection e5 with x5 _ z5
   subst x0 z0 x1 z1 x2 z2 x3 z3 x4 z4 x5 z5
   have HF := Ya hF
   clear H hs hl hl0 hl1 hl2 hl3 hl4 hl5 hF hd hu' hp hi' hw' HV HV2
   go_wp2_with (first | ((with_reducible refine gate_callee (f := 57) rfl ?_); refine Yz 11 Try.func57 #[.pointer (some ⟨gb5, 0, none⟩)] ?_ (hargs := Q17); (with_reducible refine (impl_Swapper_step.calls w gb5 g0 q0 g1 q1 g2 q2 g3 q3 g4 q4 g5 q5 b d u p it wh d' u' p' it' wh' r _ HBK.out HF.out HB.out HS.out).mono ?_); rintro e w7 ⟨rfl, hk1, hk2, hk3, hk4⟩; refine ⟨_, rfl, ?_⟩; have ap_ := FoR.apart HF.out.f BK4.out (by decide) (by decide); have aq_ := SwR.apart HF.out BK4.out (by decide); have n1_ := Ya (blk_kept BK4.out hk3 (fun hs_ => by rcases hs_ with (e | e | e) | e | e; exact ap_.2.1 e; exact ap_.2.2.1 e; exact ap_.2.2.2 e; exact aq_.1 e; exact aq_.2 e)); have n0_ := Ya (hk1.trans BK.out); have hv := SwR.back hk2; rw [HL2.out.1, HL2.out.2.1, HL2.out.2.2.1, HL2.out.2.2.2.1, HL2.out.2.2.2.2, HL.out.1, HL.out.2.1, HL.out.2.2.1, HL.out.2.2.2.1, HL.out.2.2.2.2] at hv; have HV := Ya hv; clear HBK BK HF BK4 HB ap_ aq_; have BK := n0_; have BK4 := n1_; have HB := Ya hk4; clear n0_ n1_ hk1 hk2 hk3 hk4 hv))
   go_roundg k1
   case measure => have := HK1.out; omega
   case rel => exact ⟨_, d', u', p', it', wh', by first | rfl | (simp; done), H', ⟨Q20⟩, ⟨by obtain ⟨a_, b_, c_, d_, e_⟩ := HL2.out; obtain ⟨x_, y_, z_, m_, n_⟩ := HL.out; exact ⟨a_.trans x_, b_.trans y_, c_.trans z_, d_.trans m_, e_.trans n_⟩⟩, BK, BK4, HV, HB⟩
def impl_IsSwapper.j0 : Nat → Int → Bool → List Int → List Int → List Bool → List Int → List Int → List Int → Option (Bool)
 | 0, _, _, _, _, _, _, _, _ => none
 | k + 1, x3, x17, x582000, x582001, x582002, x582003, x582004, x582005 => if x17 = true then (some false) else ((impl_startSwapper.f k x3).bind fun bt584 => ((slices_Equal_int_int.f k bt584.1 x582000).bind fun t603 => (if t603 = true then ((impl_mixedRank.f k x582000 x582001).bind fun t604 => ((impl_swapperAt.f k x3 t604).bind fun bt605 => ((slices_Equal_int_int.f k x582004 bt605.2.2.2.2.1).bind fun t624 => (if t624 = true then ((slices_Equal_int_int.f k x582005 bt605.2.2.2.2.2).bind fun t625 => (some t625)) else (some false))))) else (some false))))
def impl_IsSwapper.f (k : Nat) (l0_0 : List Int) (l0_1 : List Int) (l0_2 : List Bool) (l0_3 : List Int) (l0_4 : List Int) (l0_5 : List Int) : Option (Bool) := (impl_isSwapperSize.f (l0_4.length : Int)).bind fun t582 => (if t582 = true then ((impl_IsFocus.f k l0_0 l0_1 l0_2 l0_3).bind fun t583 => (impl_IsSwapper.j0 k (l0_4.length : Int) (!t583) l0_0 l0_1 l0_2 l0_3 l0_4 l0_5)) else (impl_IsSwapper.j0 k (l0_4.length : Int) true l0_0 l0_1 l0_2 l0_3 l0_4 l0_5))
theorem impl_IsSwapper.mono_l : ∀ k, (∀ y0 y1 y2 y3 y4 y5 y6 y7, LeO (impl_IsSwapper.j0 k y0 y1 y2 y3 y4 y5 y6 y7) (impl_IsSwapper.j0 (k + 1) y0 y1 y2 y3 y4 y5 y6 y7))
 | 0 => fun _ _ _ _ _ _ _ _ r h => by simp [impl_IsSwapper.j0] at h
 | k + 1 => by
  have ih0 := impl_IsSwapper.mono_l k
  ·intro y0 y1 y2 y3 y4 y5 y6 y7
   unfold impl_IsSwapper.j0
   repeat' first
   | (with_reducible exact ih0 _ _ _ _ _ _ _ _)
   | (with_reducible exact impl_IsFocus.mono _ _ _ _ _)
   | (with_reducible exact impl_mixedRank.mono _ _ _)
   | (with_reducible exact impl_startSwapper.mono _ _)
   | (with_reducible exact impl_swapperAt.mono _ _ _)
   | (with_reducible exact slices_Equal_int_int.mono _ _ _)
   | (with_reducible exact LeO.refl _)
   | (with_reducible exact LeO.none _)
   | (with_reducible refine LeO.ite ?_ ?_)
   | (with_reducible refine LeO.bind ?_ (fun _ => ?_))
   | exact ih0 _ _ _ _ _ _ _ _
   | exact impl_IsFocus.mono _ _ _ _ _
   | exact impl_mixedRank.mono _ _ _
   | exact impl_startSwapper.mono _ _
   | exact impl_swapperAt.mono _ _ _
   | exact slices_Equal_int_int.mono _ _ _
   | exact LeO.none _
   | refine LeO.ite ?_ ?_
   | refine LeO.bind ?_ (fun _ => ?_)
theorem impl_IsSwapper.mono : ∀ a0 a1 a2 a3 a4 a5 k, LeO (impl_IsSwapper.f k a0 a1 a2 a3 a4 a5) (impl_IsSwapper.f (k + 1) a0 a1 a2 a3 a4 a5) := by
 intro a0 a1 a2 a3 a4 a5 k
 have ih0 := impl_IsSwapper.mono_l k
 unfold impl_IsSwapper.f
 repeat' first
   | (with_reducible exact ih0 _ _ _ _ _ _ _ _)
   | (with_reducible exact impl_IsFocus.mono _ _ _ _ _)
   | (with_reducible exact impl_mixedRank.mono _ _ _)
   | (with_reducible exact impl_startSwapper.mono _ _)
   | (with_reducible exact impl_swapperAt.mono _ _ _)
   | (with_reducible exact slices_Equal_int_int.mono _ _ _)
   | (with_reducible exact LeO.refl _)
   | (with_reducible exact LeO.none _)
   | (with_reducible refine LeO.ite ?_ ?_)
   | (with_reducible refine LeO.bind ?_ (fun _ => ?_))
   | exact ih0 _ _ _ _ _ _ _ _
   | exact impl_IsFocus.mono _ _ _ _ _
   | exact impl_mixedRank.mono _ _ _
   | exact impl_startSwapper.mono _ _
   | exact impl_swapperAt.mono _ _ _
   | exact slices_Equal_int_int.mono _ _ _
   | exact LeO.none _
   | refine LeO.ite ?_ ?_
   | refine LeO.bind ?_ (fun _ => ?_)
set_option maxHeartbeats 8000000 in
set_option maxRecDepth 100000 in
theorem impl_IsSwapper.calls (k : Nat) (A0_0 : Option Addr) (c0_0 : Nat) (l0_0 : List Int) (A0_1 : Option Addr) (c0_1 : Nat) (l0_1 : List Int) (A0_2 : Option Addr) (c0_2 : Nat) (l0_2 : List Bool) (A0_3 : Option Addr) (c0_3 : Nat) (l0_3 : List Int) (A0_4 : Option Addr) (c0_4 : Nat) (l0_4 : List Int) (A0_5 : Option Addr) (c0_5 : Nat) (l0_5 : List Int) (r : Bool) (w : World) (hr0_0 : Kd.C (Kd.int .i64) w A0_0 l0_0.length l0_0) (hc0_0 : l0_0.length ≤ c0_0) (hr0_1 : Kd.C (Kd.int .i64) w A0_1 l0_1.length l0_1) (hc0_1 : l0_1.length ≤ c0_1) (hr0_2 : Kd.C Kd.bool w A0_2 l0_2.length l0_2) (hc0_2 : l0_2.length ≤ c0_2) (hr0_3 : Kd.C (Kd.int .i64) w A0_3 l0_3.length l0_3) (hc0_3 : l0_3.length ≤ c0_3) (hr0_4 : Kd.C (Kd.int .i64) w A0_4 l0_4.length l0_4) (hc0_4 : l0_4.length ≤ c0_4) (hr0_5 : Kd.C (Kd.int .i64) w A0_5 l0_5.length l0_5) (hc0_5 : l0_5.length ≤ c0_5) (h : impl_IsSwapper.f k l0_0 l0_1 l0_2 l0_3 l0_4 l0_5 = some r) :
  Calls Try.prog 23 #[.agg #[.slice A0_0 l0_0.length c0_0, .slice A0_1 l0_1.length c0_1, .slice A0_2 l0_2.length c0_2, .slice A0_3 l0_3.length c0_3, .slice A0_4 l0_4.length c0_4, .slice A0_5 l0_5.length c0_5]] w fun e w' => e = .returned (.bool r) ∧ Below w.heap.size w w' := by
 have hu35 := Try.underlying35
 have hu27 := Try.underlying27
 have HR0_0 := Ya hr0_0
 have HC0_0 := Ya hc0_0
 clear hr0_0 hc0_0
 have HR0_1 := Ya hr0_1
 have HC0_1 := Ya hc0_1
 clear hr0_1 hc0_1
 have HR0_2 := Ya hr0_2
 have HC0_2 := Ya hc0_2
 clear hr0_2 hc0_2
 have HR0_3 := Ya hr0_3
 have HC0_3 := Ya hc0_3
 clear hr0_3 hc0_3
 have HR0_4 := Ya hr0_4
 have HC0_4 := Ya hc0_4
 clear hr0_4 hc0_4
 have HR0_5 := Ya hr0_5
 have HC0_5 := Ya hc0_5
 clear hr0_5 hc0_5
 have HB := Ya (Below.refl w.heap.size w)
 have H : ((impl_isSwapperSize.f (l0_4.length : Int)).bind fun t582 => (if t582 = true then ((impl_IsFocus.f k l0_0 l0_1 l0_2 l0_3).bind fun t583 => (impl_IsSwapper.j0 k (l0_4.length : Int) (!t583) l0_0 l0_1 l0_2 l0_3 l0_4 l0_5)) else (impl_IsSwapper.j0 k (l0_4.length : Int) true l0_0 l0_1 l0_2 l0_3 l0_4 l0_5))) = some r := h
 clear h
 have HC2 := Ya H
 clear H
 go_enter Try.func23, Try.ntmps23
 go_upto_region 2 with (first | ((with_reducible refine gate_dst (N := 1) rfl ?_); refine Yx 1 #[.slice A0_0 l0_0.length c0_0, .slice A0_1 l0_1.length c0_1, .slice A0_2 l0_2.length c0_2, .slice A0_3 l0_3.length c0_3, .slice A0_4 l0_4.length c0_4, .slice A0_5 l0_5.length c0_5] 35 ?_; intro gb581 hg w3 hbox hb; have BK581 := Ya hbox; have GE581 := Yg hg; replace HB := Yh hb; clear hb hbox hg; obtain ⟨hcz4_0, hcz4_1, hcz4_2, hcz4_3, hcz4_4, hcz4_5, hfz4_0, hfz4_1, hfz4_2, hfz4_3, hfz4_4, hfz4_5⟩ := Y6 BK581.out))
 (try simp only [Act.put, Z0, Z1, Z2])
 go_cut [17] (fun v17 wc => ∃ (kq : Nat) (x17_1 : Bool), v17 = .bool x17_1 ∧ Aside0 (impl_IsSwapper.j0 kq (l0_4.length : Int) x17_1 l0_0 l0_1 l0_2 l0_3 l0_4 l0_5 = some r) ∧ Aside0 (kq ≤ k) ∧ Aside0 (wc.heap[gb581]? = some (.cells #[(.slice A0_0 l0_0.length c0_0), (.slice A0_1 l0_1.length c0_1), (.slice A0_2 l0_2.length c0_2), (.slice A0_3 l0_3.length c0_3), (.slice A0_4 l0_4.length c0_4), (.slice A0_5 l0_5.length c0_5)] 35 (0, 0))) ∧ Aside0 (Below w.heap.size w wc))
 case first =>
  have H := HC2.out
  clear HC2
  replace H := Z36.mp H
  obtain ⟨t582, A50, H⟩ := H
  replace H : (if t582 = true then ((impl_IsFocus.f k l0_0 l0_1 l0_2 l0_3).bind fun t583 => (impl_IsSwapper.j0 k (l0_4.length : Int) (!t583) l0_0 l0_1 l0_2 l0_3 l0_4 l0_5)) else (impl_IsSwapper.j0 k (l0_4.length : Int) true l0_0 l0_1 l0_2 l0_3 l0_4 l0_5)) = some r := H
  have A5 := Ya A50
  clear A50
  by_cases c6 : t582 = true
  ·subst c6
   have H1 : ((impl_IsFocus.f k l0_0 l0_1 l0_2 l0_3).bind fun t583 => (impl_IsSwapper.j0 k (l0_4.length : Int) (!t583) l0_0 l0_1 l0_2 l0_3 l0_4 l0_5)) = some r := by rw [if_pos rfl] at H; exact H
   clear H
   have H := H1
   clear H1
   replace H := Z36.mp H
   obtain ⟨t583, A70, H⟩ := H
   replace H : (impl_IsSwapper.j0 k (l0_4.length : Int) (!t583) l0_0 l0_1 l0_2 l0_3 l0_4 l0_5) = some r := H
   have A7 := Ya A70
   clear A70
   have H' := Ya H
   clear H
   go_wp2_with (first | ((with_reducible refine gate_callee (f := 47) rfl ?_); refine Yz 10 Try.func47 #[.int .i64 (l0_4.length : Int)] ?_; (with_reducible refine (impl_isSwapperSize.calls (l0_4.length : Int) true _ A5.out).mono ?_); rintro e w' ⟨rfl, ⟨nd, rfl⟩⟩; refine ⟨_, rfl, ?_⟩; obtain ⟨hcz8_0, hcz8_1, hcz8_2, hcz8_3, hcz8_4, hcz8_5, hfz8_0, hfz8_1, hfz8_2, hfz8_3, hfz8_4, hfz8_5⟩ := Y6 BK581.out) | (go_at_call 34; (with_reducible refine (impl_IsFocus.calls k _ _ l0_0 _ _ l0_1 _ _ l0_2 _ _ l0_3 t583 _ ?side1 HC0_0.out ?side3 HC0_1.out ?side5 HC0_2.out ?side7 HC0_3.out A7.out).mono ?_); (case side1 => exact Yc (Z22 HR0_0.out Q0)); (case side3 => exact Yc (Z22 HR0_1.out Q0)); (case side5 => exact Yc (Z22 HR0_2.out Q0)); (case side7 => exact Yc (Z22 HR0_3.out Q0)); rintro e w9 ⟨rfl, hb⟩; replace BK581 := Yb BK581 hb; replace HB := Yh hb; (try clear hb)))
   go_meet
   case rel => exact ⟨_, (!t583), Q8, H', ⟨Q33⟩, ⟨by (with_reducible repeat (first | refine Z25 ?_ _ | refine Z26 ?_ | refine Z27 ?_ _)); exact BK581.out⟩, ⟨Q12⟩⟩
  ·replace c6 := Bool.eq_false_iff.mpr c6
   subst c6
   have H1 : (impl_IsSwapper.j0 k (l0_4.length : Int) true l0_0 l0_1 l0_2 l0_3 l0_4 l0_5) = some r := by rw [if_neg (show ¬ (false = true) by decide)] at H; exact H
   clear H
   have H := H1
   clear H1
   have H' := Ya H
   clear H
   go_wp2_with (first | ((with_reducible refine gate_callee (f := 47) rfl ?_); refine Yz 10 Try.func47 #[.int .i64 (l0_4.length : Int)] ?_; (with_reducible refine (impl_isSwapperSize.calls (l0_4.length : Int) false _ A5.out).mono ?_); rintro e w' ⟨rfl, ⟨nd, rfl⟩⟩; refine ⟨_, rfl, ?_⟩))
   go_meet
   case rel => exact ⟨_, (true), Q8, H', ⟨Q33⟩, ⟨by (with_reducible repeat (first | refine Z25 ?_ _ | refine Z26 ?_ | refine Z27 ?_ _)); exact BK581.out⟩, ⟨Q12⟩⟩
 case rest =>
  clear HC2
  try clear c2
  try clear p2
  try clear c4
  try clear c6
  try clear hcz4_0
  try clear hcz4_1
  try clear hcz4_2
  try clear hcz4_3
  try clear hcz4_4
  try clear hcz4_5
  try clear hcz8_0
  try clear hcz8_1
  try clear hcz8_2
  try clear hcz8_3
  try clear hcz8_4
  try clear hcz8_5
  try clear hfz4_0
  try clear hfz4_1
  try clear hfz4_2
  try clear hfz4_3
  try clear hfz4_4
  try clear hfz4_5
  try clear hfz8_0
  try clear hfz8_1
  try clear hfz8_2
  try clear hfz8_3
  try clear hfz8_4
  try clear hfz8_5
  obtain ⟨kq, x17_1, rfl, HA, HJ1, BK581, HB⟩ := hcut
  cases kq with
  | zero => exact absurd HA.out (by simp [impl_IsSwapper.j0])
  | succ kj1 =>
   have H := HA.out
   clear HA
   simp only [impl_IsSwapper.j0] at H
   by_cases c10 : x17_1 = true
   ·subst c10
    have H1 : (some false) = some r := by rw [if_pos rfl] at H; exact H
    clear H
    have H := H1
    clear H1
    obtain rfl := Option.some.inj H
    go_wp2
    go_ret
    exact ⟨Q2, Q12⟩
   ·replace c10 := Bool.eq_false_iff.mpr c10
    subst c10
    have H1 : ((impl_startSwapper.f kj1 (l0_4.length : Int)).bind fun bt584 => ((slices_Equal_int_int.f kj1 bt584.1 l0_0).bind fun t603 => (if t603 = true then ((impl_mixedRank.f kj1 l0_0 l0_1).bind fun t604 => ((impl_swapperAt.f kj1 (l0_4.length : Int) t604).bind fun bt605 => ((slices_Equal_int_int.f kj1 l0_4 bt605.2.2.2.2.1).bind fun t624 => (if t624 = true then ((slices_Equal_int_int.f kj1 l0_5 bt605.2.2.2.2.2).bind fun t625 => (some t625)) else (some false))))) else (some false)))) = some r := by rw [if_neg (show ¬ (false = true) by decide)] at H; exact H
    clear H
    have H := H1
    clear H1
    replace H := Z36.mp H
    obtain ⟨⟨t584, t587, t590, t593, t596, t599⟩, A110, H⟩ := H
    replace H : ((slices_Equal_int_int.f kj1 t584 l0_0).bind fun t603 => (if t603 = true then ((impl_mixedRank.f kj1 l0_0 l0_1).bind fun t604 => ((impl_swapperAt.f kj1 (l0_4.length : Int) t604).bind fun bt605 => ((slices_Equal_int_int.f kj1 l0_4 bt605.2.2.2.2.1).bind fun t624 => (if t624 = true then ((slices_Equal_int_int.f kj1 l0_5 bt605.2.2.2.2.2).bind fun t625 => (some t625)) else (some false))))) else (some false))) = some r := H
    have A11 := Ya A110
    clear A110
    replace H := Z36.mp H
    obtain ⟨t603, A120, H⟩ := H
    replace H : (if t603 = true then ((impl_mixedRank.f kj1 l0_0 l0_1).bind fun t604 => ((impl_swapperAt.f kj1 (l0_4.length : Int) t604).bind fun bt605 => ((slices_Equal_int_int.f kj1 l0_4 bt605.2.2.2.2.1).bind fun t624 => (if t624 = true then ((slices_Equal_int_int.f kj1 l0_5 bt605.2.2.2.2.2).bind fun t625 => (some t625)) else (some false))))) else (some false)) = some r := H
    have A12 := Ya A120
    clear A120
    by_cases c13 : t603 = true
    ·subst c13
     have H1 : ((impl_mixedRank.f kj1 l0_0 l0_1).bind fun t604 => ((impl_swapperAt.f kj1 (l0_4.length : Int) t604).bind fun bt605 => ((slices_Equal_int_int.f kj1 l0_4 bt605.2.2.2.2.1).bind fun t624 => (if t624 = true then ((slices_Equal_int_int.f kj1 l0_5 bt605.2.2.2.2.2).bind fun t625 => (some t625)) else (some false))))) = some r := by rw [if_pos rfl] at H; exact H
     clear H
     have H := H1
     clear H1
     replace H := Z36.mp H
     obtain ⟨t604, A140, H⟩ := H
     replace H : ((impl_swapperAt.f kj1 (l0_4.length : Int) t604).bind fun bt605 => ((slices_Equal_int_int.f kj1 l0_4 bt605.2.2.2.2.1).bind fun t624 => (if t624 = true then ((slices_Equal_int_int.f kj1 l0_5 bt605.2.2.2.2.2).bind fun t625 => (some t625)) else (some false)))) = some r := H
     have A14 := Ya A140
     clear A140
     replace H := Z36.mp H
     obtain ⟨⟨t605, t608, t611, t614, t617, t620⟩, A150, H⟩ := H
     replace H : ((slices_Equal_int_int.f kj1 l0_4 t617).bind fun t624 => (if t624 = true then ((slices_Equal_int_int.f kj1 l0_5 t620).bind fun t625 => (some t625)) else (some false))) = some r := H
     have A15 := Ya A150
     clear A150
     replace H := Z36.mp H
     obtain ⟨t624, A160, H⟩ := H
     replace H : (if t624 = true then ((slices_Equal_int_int.f kj1 l0_5 t620).bind fun t625 => (some t625)) else (some false)) = some r := H
     have A16 := Ya A160
     clear A160
     by_cases c17 : t624 = true
     ·subst c17
      have H1 : ((slices_Equal_int_int.f kj1 l0_5 t620).bind fun t625 => (some t625)) = some r := by rw [if_pos rfl] at H; exact H
      clear H
      have H := H1
      clear H1
      replace H := Z36.mp H
      obtain ⟨t625, A180, H⟩ := H
      replace H : (some t625) = some r := H
      have A18 := Ya A180
      clear A180
      obtain rfl := Option.some.inj H
      go_wp2_with (first | ((with_reducible refine gate_callee (f := 52) rfl ?_); refine Yz 19 Try.func52 #[.int .i64 (l0_4.length : Int)] ?_; (with_reducible refine (impl_startSwapper.calls kj1 (l0_4.length : Int) t584 t587 t590 t593 t596 t599 _ A11.out).mono ?_); rintro e w19 ⟨v585, v588, v591, v594, v597, v600, rfl, ho0, ho1, ho2, ho3, ho4, ho5, hb⟩; refine ⟨_, rfl, ?_⟩; have HO586 := Yl ho0; have HO589 := Yl ho1; have HO592 := Yl ho2; have HO595 := Yl ho3; have HO598 := Yl ho4; have HO601 := Yl ho5; replace BK581 := Yb BK581 hb; replace HB := Yh hb; (try clear hb ho0 ho1 ho2 ho3 ho4 ho5)) | ((with_reducible refine gate_dst (N := 4) rfl ?_); refine Yx 4 YN6 35 ?_; intro gb602 hg w20 hbox hb; replace HO586 := Yw HO586 hb; replace HO589 := Yw HO589 hb; replace HO592 := Yw HO592 hb; replace HO595 := Yw HO595 hb; replace HO598 := Yw HO598 hb; replace HO601 := Yw HO601 hb; have BK602 := Ya hbox; have GE602 := Yg hg; replace HB := Yh hb; have NB581_602 := Yn BK581 hg; have NB602_581 := Ym BK581 hg; replace BK581 := Yb BK581 hb; clear hb hbox hg; obtain ⟨Ao21, co21, rfl⟩ := Z19 HO586.out; have hnb22 := NB602_581.out; have hnc22 := NB581_602.out; have hz23 := Y6 BK602.out; obtain ⟨Ao24, co24, rfl⟩ := Z19 HO589.out; obtain ⟨Ao25, co25, rfl⟩ := Z19 HO592.out; obtain ⟨Ao26, co26, rfl⟩ := Z19 HO595.out; obtain ⟨Ao27, co27, rfl⟩ := Z19 HO598.out; obtain ⟨Ao28, co28, rfl⟩ := Z19 HO601.out; have hz29 := Y6 BK581.out) | ((with_reducible refine gate_callee (f := 53) rfl ?_); refine Yz 26 Try.func53 #[.slice Ao21 t584.length co21, .slice A0_0 l0_0.length c0_0] ?_; (with_reducible refine (slices_Equal_int_int.calls kj1 _ _ t584 _ _ l0_0 true _ ?side1 ((Kd.R_reads' HO586.out).2.1) ?side3 HC0_0.out A12.out).mono ?_); (case side1 => refine (Kd.R_reads' (e := 3) (base := w.heap.size) (ok := fun k_ => (some k_ ≠ (.slice Ao24 t587.length co24 : Value).ownBlock ∧ (some k_ ≠ (.slice Ao26 t593.length co26 : Value).ownBlock ∧ (some k_ ≠ (.slice Ao27 t596.length co27 : Value).ownBlock ∧ some k_ ≠ (.slice Ao28 t599.length co28 : Value).ownBlock)))) (n := t584.length) (c := co21) ?_).2.2; exact (Yj (Yf6 HO586.out BK602.out) (fun _ h_ => h_.1))); (case side3 => exact Z22 HR0_0.out Q0); rintro e w' ⟨rfl, ⟨nd, rfl⟩⟩; refine ⟨_, rfl, ?_⟩) | ((with_reducible refine gate_callee (f := 54) rfl ?_); refine Yz 35 Try.func54 #[.slice A0_0 l0_0.length c0_0, .slice A0_1 l0_1.length c0_1] ?_; (with_reducible refine (impl_mixedRank.calls kj1 _ _ l0_0 _ _ l0_1 t604 _ ?side1 HC0_0.out ?side3 HC0_1.out A14.out).mono ?_); (case side1 => exact Z22 HR0_0.out Q0); (case side3 => exact Z22 HR0_1.out Q0); rintro e w30 ⟨rfl, hb⟩; refine ⟨_, rfl, ?_⟩; replace HO586 := Ya (Z14 (Yj (Yf6 HO586.out BK602.out) (fun _ h_ => h_.1)) hb); replace HO589 := Ya (Z14 (Yj (Yf6 HO589.out BK602.out) (fun _ h_ => h_.1)) hb); replace HO592 := Ya (Z14 (Yj (Yf6 HO592.out BK602.out) (fun _ h_ => h_.1)) hb); replace HO595 := Ya (Z14 (Yj (Yf6 HO595.out BK602.out) (fun _ h_ => h_.1)) hb); replace HO598 := Ya (Z14 (Yj (Yf6 HO598.out BK602.out) (fun _ h_ => h_.1)) hb); replace HO601 := Ya (Z14 (Yj (Yf6 HO601.out BK602.out) (fun _ h_ => h_.1)) hb); replace BK581 := Yb ⟨Yo6 BK581.out NB581_602.out⟩ hb; replace BK602 := Yb ⟨Yv6 BK602.out⟩ hb; replace HB := Yh hb; (try clear hb)) | ((with_reducible refine gate_callee (f := 50) rfl ?_); refine Yz 36 Try.func50 #[.int .i64 (l0_4.length : Int), .int .i64 t604] ?_; (with_reducible refine (impl_swapperAt.calls kj1 (l0_4.length : Int) t604 t605 t608 t611 t614 t617 t620 _ A15.out).mono ?_); rintro e w31 ⟨v606, v609, v612, v615, v618, v621, rfl, ho0, ho1, ho2, ho3, ho4, ho5, hb⟩; refine ⟨_, rfl, ?_⟩; have HO607 := Yl (Kd.R_new' (Kd.R_new' (Kd.R_new' (Kd.R_new' (Kd.R_new' ho0 (Z18 (Yr HO586.out))) (Z18 (Yr HO589.out))) (Z18 (Yr HO595.out))) (Z18 (Yr HO598.out))) (Z18 (Yr HO601.out))); have HO610 := Yl (Kd.R_new' (Kd.R_new' (Kd.R_new' (Kd.R_new' (Kd.R_new' ho1 (Z18 (Yr HO586.out))) (Z18 (Yr HO589.out))) (Z18 (Yr HO595.out))) (Z18 (Yr HO598.out))) (Z18 (Yr HO601.out))); have HO613 := Yl (Kd.R_new' ho2 (Z18 (Yr HO592.out))); replace HO592 := Ya (Kd.R_elder' (Yr HO592.out) (Kd.R_base ho2) hb); have HO616 := Yl (Kd.R_new' (Kd.R_new' (Kd.R_new' (Kd.R_new' (Kd.R_new' ho3 (Z18 (Yr HO586.out))) (Z18 (Yr HO589.out))) (Z18 (Yr HO595.out))) (Z18 (Yr HO598.out))) (Z18 (Yr HO601.out))); have HO619 := Yl (Kd.R_new' (Kd.R_new' (Kd.R_new' (Kd.R_new' (Kd.R_new' ho4 (Z18 (Yr HO586.out))) (Z18 (Yr HO589.out))) (Z18 (Yr HO595.out))) (Z18 (Yr HO598.out))) (Z18 (Yr HO601.out))); have HO622 := Yl (Kd.R_new' (Kd.R_new' (Kd.R_new' (Kd.R_new' (Kd.R_new' ho5 (Z18 (Yr HO586.out))) (Z18 (Yr HO589.out))) (Z18 (Yr HO595.out))) (Z18 (Yr HO598.out))) (Z18 (Yr HO601.out))); replace HO586 := Ya (Z12 (Z16 (Z16 (Z16 (Z16 (Z16 (Z17 (Yr HO586.out) hb) (Kd.R_base ho0)) (Kd.R_base ho1)) (Kd.R_base ho3)) (Kd.R_base ho4)) (Kd.R_base ho5)) (fun _ h_ => h_.1)); replace HO589 := Ya (Z12 (Z16 (Z16 (Z16 (Z16 (Z16 (Z17 (Yr HO589.out) hb) (Kd.R_base ho0)) (Kd.R_base ho1)) (Kd.R_base ho3)) (Kd.R_base ho4)) (Kd.R_base ho5)) (fun _ h_ => h_.1)); replace HO595 := Ya (Z12 (Z16 (Z16 (Z16 (Z16 (Z16 (Z17 (Yr HO595.out) hb) (Kd.R_base ho0)) (Kd.R_base ho1)) (Kd.R_base ho3)) (Kd.R_base ho4)) (Kd.R_base ho5)) (fun _ h_ => h_.1)); replace HO598 := Ya (Z12 (Z16 (Z16 (Z16 (Z16 (Z16 (Z17 (Yr HO598.out) hb) (Kd.R_base ho0)) (Kd.R_base ho1)) (Kd.R_base ho3)) (Kd.R_base ho4)) (Kd.R_base ho5)) (fun _ h_ => h_.1)); replace HO601 := Ya (Z12 (Z16 (Z16 (Z16 (Z16 (Z16 (Z17 (Yr HO601.out) hb) (Kd.R_base ho0)) (Kd.R_base ho1)) (Kd.R_base ho3)) (Kd.R_base ho4)) (Kd.R_base ho5)) (fun _ h_ => h_.1)); replace BK581 := Yb BK581 hb; replace BK602 := Yb BK602 hb; replace HB := Yh hb; (try clear hb ho0 ho1 ho2 ho3 ho4 ho5)) | ((with_reducible refine gate_dst (N := 5) rfl ?_); refine Yx 5 YN6 35 ?_; intro gb623 hg w32 hbox hb; replace HO586 := Yw HO586 hb; replace HO589 := Yw HO589 hb; replace HO592 := Yw HO592 hb; replace HO595 := Yw HO595 hb; replace HO598 := Yw HO598 hb; replace HO601 := Yw HO601 hb; replace HO607 := Yw HO607 hb; replace HO610 := Yw HO610 hb; replace HO613 := Yw HO613 hb; replace HO616 := Yw HO616 hb; replace HO619 := Yw HO619 hb; replace HO622 := Yw HO622 hb; have BK623 := Ya hbox; have GE623 := Yg hg; replace HB := Yh hb; have NB581_623 := Yn BK581 hg; have NB623_581 := Ym BK581 hg; replace BK581 := Yb BK581 hb; have NB602_623 := Yn BK602 hg; have NB623_602 := Ym BK602 hg; replace BK602 := Yb BK602 hb; clear hb hbox hg; obtain ⟨Ao33, co33, rfl⟩ := Z19 HO607.out; have hnb34 := NB623_581.out; have hnc34 := NB581_623.out; have hnb35 := NB623_602.out; have hnc35 := NB602_623.out; have hz36 := Y6 BK623.out; obtain ⟨Ao37, co37, rfl⟩ := Z19 HO610.out; obtain ⟨Ao38, co38, rfl⟩ := Z19 HO613.out; obtain ⟨Ao39, co39, rfl⟩ := Z19 HO616.out; obtain ⟨Ao40, co40, rfl⟩ := Z19 HO619.out; obtain ⟨Ao41, co41, rfl⟩ := Z19 HO622.out; have hz42 := Y6 BK581.out) | ((with_reducible refine gate_callee (f := 53) rfl ?_); refine Yz 41 Try.func53 #[.slice A0_4 l0_4.length c0_4, .slice Ao40 t617.length co40] ?_; (with_reducible refine (slices_Equal_int_int.calls kj1 _ _ l0_4 _ _ t617 true _ ?side1 HC0_4.out ?side3 ((Kd.R_reads' HO619.out).2.1) A16.out).mono ?_); (case side1 => exact Z22 HR0_4.out Q0); (case side3 => refine (Kd.R_reads' (e := 3) (base := w.heap.size) (ok := fun k_ => ((((((some k_ ≠ (.slice Ao33 t605.length co33 : Value).ownBlock ∧ (some k_ ≠ (.slice Ao37 t608.length co37 : Value).ownBlock ∧ (some k_ ≠ (.slice Ao39 t614.length co39 : Value).ownBlock ∧ some k_ ≠ (.slice Ao41 t620.length co41 : Value).ownBlock))) ∧ some k_ ≠ (.slice Ao21 t584.length co21 : Value).ownBlock) ∧ some k_ ≠ (.slice Ao24 t587.length co24 : Value).ownBlock) ∧ some k_ ≠ (.slice Ao26 t593.length co26 : Value).ownBlock) ∧ some k_ ≠ (.slice Ao27 t596.length co27 : Value).ownBlock) ∧ some k_ ≠ (.slice Ao28 t599.length co28 : Value).ownBlock)) (n := t617.length) (c := co40) ?_).2.2; exact (Yj (Yf6 HO619.out BK623.out) (fun _ h_ => h_.1))); rintro e w' ⟨rfl, ⟨nd, rfl⟩⟩; refine ⟨_, rfl, ?_⟩) | (go_at_call 53; (with_reducible refine (slices_Equal_int_int.calls kj1 _ _ l0_5 _ _ t620 t625 _ ?side1 HC0_5.out ?side3 ((Kd.R_reads' HO622.out).2.1) A18.out).mono ?_); (case side1 => exact Z22 HR0_5.out Q0); (case side3 => refine (Kd.R_reads' (e := 3) (base := w.heap.size) (ok := fun k_ => ((((((some k_ ≠ (.slice Ao33 t605.length co33 : Value).ownBlock ∧ (some k_ ≠ (.slice Ao37 t608.length co37 : Value).ownBlock ∧ (some k_ ≠ (.slice Ao39 t614.length co39 : Value).ownBlock ∧ some k_ ≠ (.slice Ao40 t617.length co40 : Value).ownBlock))) ∧ some k_ ≠ (.slice Ao21 t584.length co21 : Value).ownBlock) ∧ some k_ ≠ (.slice Ao24 t587.length co24 : Value).ownBlock) ∧ some k_ ≠ (.slice Ao26 t593.length co26 : Value).ownBlock) ∧ some k_ ≠ (.slice Ao27 t596.length co27 : Value).ownBlock) ∧ some k_ ≠ (.slice Ao28 t599.length co28 : Value).ownBlock)) (n := t620.length) (c := co41) ?_).2.2; exact (Yj (Yf6 HO622.out BK623.out) (fun _ h_ => h_.1))); rintro e w' ⟨rfl, ⟨nd, rfl⟩⟩))
      go_ret
      exact ⟨Q2, Q12⟩
     ·replace c17 := Bool.eq_false_iff.mpr c17
      subst c17
      have H1 : (some false) = some r := by rw [if_neg (show ¬ (false = true) by decide)] at H; exact H
      clear H
      have H := H1
      clear H1
      obtain rfl := Option.some.inj H
      go_wp2_with (first | ((with_reducible refine gate_callee (f := 52) rfl ?_); refine Yz 19 Try.func52 #[.int .i64 (l0_4.length : Int)] ?_; (with_reducible refine (impl_startSwapper.calls kj1 (l0_4.length : Int) t584 t587 t590 t593 t596 t599 _ A11.out).mono ?_); rintro e w43 ⟨v585, v588, v591, v594, v597, v600, rfl, ho0, ho1, ho2, ho3, ho4, ho5, hb⟩; refine ⟨_, rfl, ?_⟩; have HO586 := Yl ho0; have HO589 := Yl ho1; have HO592 := Yl ho2; have HO595 := Yl ho3; have HO598 := Yl ho4; have HO601 := Yl ho5; replace BK581 := Yb BK581 hb; replace HB := Yh hb; (try clear hb ho0 ho1 ho2 ho3 ho4 ho5)) | ((with_reducible refine gate_dst (N := 4) rfl ?_); refine Yx 4 YN6 35 ?_; intro gb602 hg w44 hbox hb; replace HO586 := Yw HO586 hb; replace HO589 := Yw HO589 hb; replace HO592 := Yw HO592 hb; replace HO595 := Yw HO595 hb; replace HO598 := Yw HO598 hb; replace HO601 := Yw HO601 hb; have BK602 := Ya hbox; have GE602 := Yg hg; replace HB := Yh hb; have NB581_602 := Yn BK581 hg; have NB602_581 := Ym BK581 hg; replace BK581 := Yb BK581 hb; clear hb hbox hg; obtain ⟨Ao45, co45, rfl⟩ := Z19 HO586.out; have hnb46 := NB602_581.out; have hnc46 := NB581_602.out; have hz47 := Y6 BK602.out; obtain ⟨Ao48, co48, rfl⟩ := Z19 HO589.out; obtain ⟨Ao49, co49, rfl⟩ := Z19 HO592.out; obtain ⟨Ao50, co50, rfl⟩ := Z19 HO595.out; obtain ⟨Ao51, co51, rfl⟩ := Z19 HO598.out; obtain ⟨Ao52, co52, rfl⟩ := Z19 HO601.out; have hz53 := Y6 BK581.out) | ((with_reducible refine gate_callee (f := 53) rfl ?_); refine Yz 26 Try.func53 #[.slice Ao45 t584.length co45, .slice A0_0 l0_0.length c0_0] ?_; (with_reducible refine (slices_Equal_int_int.calls kj1 _ _ t584 _ _ l0_0 true _ ?side1 ((Kd.R_reads' HO586.out).2.1) ?side3 HC0_0.out A12.out).mono ?_); (case side1 => refine (Kd.R_reads' (e := 3) (base := w.heap.size) (ok := fun k_ => (some k_ ≠ (.slice Ao48 t587.length co48 : Value).ownBlock ∧ (some k_ ≠ (.slice Ao50 t593.length co50 : Value).ownBlock ∧ (some k_ ≠ (.slice Ao51 t596.length co51 : Value).ownBlock ∧ some k_ ≠ (.slice Ao52 t599.length co52 : Value).ownBlock)))) (n := t584.length) (c := co45) ?_).2.2; exact (Yj (Yf6 HO586.out BK602.out) (fun _ h_ => h_.1))); (case side3 => exact Z22 HR0_0.out Q0); rintro e w' ⟨rfl, ⟨nd, rfl⟩⟩; refine ⟨_, rfl, ?_⟩) | ((with_reducible refine gate_callee (f := 54) rfl ?_); refine Yz 35 Try.func54 #[.slice A0_0 l0_0.length c0_0, .slice A0_1 l0_1.length c0_1] ?_; (with_reducible refine (impl_mixedRank.calls kj1 _ _ l0_0 _ _ l0_1 t604 _ ?side1 HC0_0.out ?side3 HC0_1.out A14.out).mono ?_); (case side1 => exact Z22 HR0_0.out Q0); (case side3 => exact Z22 HR0_1.out Q0); rintro e w54 ⟨rfl, hb⟩; refine ⟨_, rfl, ?_⟩; replace HO586 := Ya (Z14 (Yj (Yf6 HO586.out BK602.out) (fun _ h_ => h_.1)) hb); replace HO589 := Ya (Z14 (Yj (Yf6 HO589.out BK602.out) (fun _ h_ => h_.1)) hb); replace HO592 := Ya (Z14 (Yj (Yf6 HO592.out BK602.out) (fun _ h_ => h_.1)) hb); replace HO595 := Ya (Z14 (Yj (Yf6 HO595.out BK602.out) (fun _ h_ => h_.1)) hb); replace HO598 := Ya (Z14 (Yj (Yf6 HO598.out BK602.out) (fun _ h_ => h_.1)) hb); replace HO601 := Ya (Z14 (Yj (Yf6 HO601.out BK602.out) (fun _ h_ => h_.1)) hb); replace BK581 := Yb ⟨Yo6 BK581.out NB581_602.out⟩ hb; replace BK602 := Yb ⟨Yv6 BK602.out⟩ hb; replace HB := Yh hb; (try clear hb)) | ((with_reducible refine gate_callee (f := 50) rfl ?_); refine Yz 36 Try.func50 #[.int .i64 (l0_4.length : Int), .int .i64 t604] ?_; (with_reducible refine (impl_swapperAt.calls kj1 (l0_4.length : Int) t604 t605 t608 t611 t614 t617 t620 _ A15.out).mono ?_); rintro e w55 ⟨v606, v609, v612, v615, v618, v621, rfl, ho0, ho1, ho2, ho3, ho4, ho5, hb⟩; refine ⟨_, rfl, ?_⟩; have HO607 := Yl (Kd.R_new' (Kd.R_new' (Kd.R_new' (Kd.R_new' (Kd.R_new' ho0 (Z18 (Yr HO586.out))) (Z18 (Yr HO589.out))) (Z18 (Yr HO595.out))) (Z18 (Yr HO598.out))) (Z18 (Yr HO601.out))); have HO610 := Yl (Kd.R_new' (Kd.R_new' (Kd.R_new' (Kd.R_new' (Kd.R_new' ho1 (Z18 (Yr HO586.out))) (Z18 (Yr HO589.out))) (Z18 (Yr HO595.out))) (Z18 (Yr HO598.out))) (Z18 (Yr HO601.out))); have HO613 := Yl (Kd.R_new' ho2 (Z18 (Yr HO592.out))); replace HO592 := Ya (Kd.R_elder' (Yr HO592.out) (Kd.R_base ho2) hb); have HO616 := Yl (Kd.R_new' (Kd.R_new' (Kd.R_new' (Kd.R_new' (Kd.R_new' ho3 (Z18 (Yr HO586.out))) (Z18 (Yr HO589.out))) (Z18 (Yr HO595.out))) (Z18 (Yr HO598.out))) (Z18 (Yr HO601.out))); have HO619 := Yl (Kd.R_new' (Kd.R_new' (Kd.R_new' (Kd.R_new' (Kd.R_new' ho4 (Z18 (Yr HO586.out))) (Z18 (Yr HO589.out))) (Z18 (Yr HO595.out))) (Z18 (Yr HO598.out))) (Z18 (Yr HO601.out))); have HO622 := Yl (Kd.R_new' (Kd.R_new' (Kd.R_new' (Kd.R_new' (Kd.R_new' ho5 (Z18 (Yr HO586.out))) (Z18 (Yr HO589.out))) (Z18 (Yr HO595.out))) (Z18 (Yr HO598.out))) (Z18 (Yr HO601.out))); replace HO586 := Ya (Z12 (Z16 (Z16 (Z16 (Z16 (Z16 (Z17 (Yr HO586.out) hb) (Kd.R_base ho0)) (Kd.R_base ho1)) (Kd.R_base ho3)) (Kd.R_base ho4)) (Kd.R_base ho5)) (fun _ h_ => h_.1)); replace HO589 := Ya (Z12 (Z16 (Z16 (Z16 (Z16 (Z16 (Z17 (Yr HO589.out) hb) (Kd.R_base ho0)) (Kd.R_base ho1)) (Kd.R_base ho3)) (Kd.R_base ho4)) (Kd.R_base ho5)) (fun _ h_ => h_.1)); replace HO595 := Ya (Z12 (Z16 (Z16 (Z16 (Z16 (Z16 (Z17 (Yr HO595.out) hb) (Kd.R_base ho0)) (Kd.R_base ho1)) (Kd.R_base ho3)) (Kd.R_base ho4)) (Kd.R_base ho5)) (fun _ h_ => h_.1)); replace HO598 := Ya (Z12 (Z16 (Z16 (Z16 (Z16 (Z16 (Z17 (Yr HO598.out) hb) (Kd.R_base ho0)) (Kd.R_base ho1)) (Kd.R_base ho3)) (Kd.R_base ho4)) (Kd.R_base ho5)) (fun _ h_ => h_.1)); replace HO601 := Ya (Z12 (Z16 (Z16 (Z16 (Z16 (Z16 (Z17 (Yr HO601.out) hb) (Kd.R_base ho0)) (Kd.R_base ho1)) (Kd.R_base ho3)) (Kd.R_base ho4)) (Kd.R_base ho5)) (fun _ h_ => h_.1)); replace BK581 := Yb BK581 hb; replace BK602 := Yb BK602 hb; replace HB := Yh hb; (try clear hb ho0 ho1 ho2 ho3 ho4 ho5)) | ((with_reducible refine gate_dst (N := 5) rfl ?_); refine Yx 5 YN6 35 ?_; intro gb623 hg w56 hbox hb; replace HO586 := Yw HO586 hb; replace HO589 := Yw HO589 hb; replace HO592 := Yw HO592 hb; replace HO595 := Yw HO595 hb; replace HO598 := Yw HO598 hb; replace HO601 := Yw HO601 hb; replace HO607 := Yw HO607 hb; replace HO610 := Yw HO610 hb; replace HO613 := Yw HO613 hb; replace HO616 := Yw HO616 hb; replace HO619 := Yw HO619 hb; replace HO622 := Yw HO622 hb; have BK623 := Ya hbox; have GE623 := Yg hg; replace HB := Yh hb; have NB581_623 := Yn BK581 hg; have NB623_581 := Ym BK581 hg; replace BK581 := Yb BK581 hb; have NB602_623 := Yn BK602 hg; have NB623_602 := Ym BK602 hg; replace BK602 := Yb BK602 hb; clear hb hbox hg; obtain ⟨Ao57, co57, rfl⟩ := Z19 HO607.out; have hnb58 := NB623_581.out; have hnc58 := NB581_623.out; have hnb59 := NB623_602.out; have hnc59 := NB602_623.out; have hz60 := Y6 BK623.out; obtain ⟨Ao61, co61, rfl⟩ := Z19 HO610.out; obtain ⟨Ao62, co62, rfl⟩ := Z19 HO613.out; obtain ⟨Ao63, co63, rfl⟩ := Z19 HO616.out; obtain ⟨Ao64, co64, rfl⟩ := Z19 HO619.out; obtain ⟨Ao65, co65, rfl⟩ := Z19 HO622.out; have hz66 := Y6 BK581.out) | ((with_reducible refine gate_callee (f := 53) rfl ?_); refine Yz 41 Try.func53 #[.slice A0_4 l0_4.length c0_4, .slice Ao64 t617.length co64] ?_; (with_reducible refine (slices_Equal_int_int.calls kj1 _ _ l0_4 _ _ t617 false _ ?side1 HC0_4.out ?side3 ((Kd.R_reads' HO619.out).2.1) A16.out).mono ?_); (case side1 => exact Z22 HR0_4.out Q0); (case side3 => refine (Kd.R_reads' (e := 3) (base := w.heap.size) (ok := fun k_ => ((((((some k_ ≠ (.slice Ao57 t605.length co57 : Value).ownBlock ∧ (some k_ ≠ (.slice Ao61 t608.length co61 : Value).ownBlock ∧ (some k_ ≠ (.slice Ao63 t614.length co63 : Value).ownBlock ∧ some k_ ≠ (.slice Ao65 t620.length co65 : Value).ownBlock))) ∧ some k_ ≠ (.slice Ao45 t584.length co45 : Value).ownBlock) ∧ some k_ ≠ (.slice Ao48 t587.length co48 : Value).ownBlock) ∧ some k_ ≠ (.slice Ao50 t593.length co50 : Value).ownBlock) ∧ some k_ ≠ (.slice Ao51 t596.length co51 : Value).ownBlock) ∧ some k_ ≠ (.slice Ao52 t599.length co52 : Value).ownBlock)) (n := t617.length) (c := co64) ?_).2.2; exact (Yj (Yf6 HO619.out BK623.out) (fun _ h_ => h_.1))); rintro e w' ⟨rfl, ⟨nd, rfl⟩⟩; refine ⟨_, rfl, ?_⟩))
      go_ret
      exact ⟨Q2, Q12⟩
    ·replace c13 := Bool.eq_false_iff.mpr c13
     subst c13
     have H1 : (some false) = some r := by rw [if_neg (show ¬ (false = true) by decide)] at H; exact H
     clear H
     have H := H1
     clear H1
     obtain rfl := Option.some.inj H
     go_wp2_with (first | ((with_reducible refine gate_callee (f := 52) rfl ?_); refine Yz 19 Try.func52 #[.int .i64 (l0_4.length : Int)] ?_; (with_reducible refine (impl_startSwapper.calls kj1 (l0_4.length : Int) t584 t587 t590 t593 t596 t599 _ A11.out).mono ?_); rintro e w67 ⟨v585, v588, v591, v594, v597, v600, rfl, ho0, ho1, ho2, ho3, ho4, ho5, hb⟩; refine ⟨_, rfl, ?_⟩; have HO586 := Yl ho0; have HO589 := Yl ho1; have HO592 := Yl ho2; have HO595 := Yl ho3; have HO598 := Yl ho4; have HO601 := Yl ho5; replace BK581 := Yb BK581 hb; replace HB := Yh hb; (try clear hb ho0 ho1 ho2 ho3 ho4 ho5)) | ((with_reducible refine gate_dst (N := 4) rfl ?_); refine Yx 4 YN6 35 ?_; intro gb602 hg w68 hbox hb; replace HO586 := Yw HO586 hb; replace HO589 := Yw HO589 hb; replace HO592 := Yw HO592 hb; replace HO595 := Yw HO595 hb; replace HO598 := Yw HO598 hb; replace HO601 := Yw HO601 hb; have BK602 := Ya hbox; have GE602 := Yg hg; replace HB := Yh hb; have NB581_602 := Yn BK581 hg; have NB602_581 := Ym BK581 hg; replace BK581 := Yb BK581 hb; clear hb hbox hg; obtain ⟨Ao69, co69, rfl⟩ := Z19 HO586.out; have hnb70 := NB602_581.out; have hnc70 := NB581_602.out; have hz71 := Y6 BK602.out; obtain ⟨Ao72, co72, rfl⟩ := Z19 HO589.out; obtain ⟨Ao73, co73, rfl⟩ := Z19 HO592.out; obtain ⟨Ao74, co74, rfl⟩ := Z19 HO595.out; obtain ⟨Ao75, co75, rfl⟩ := Z19 HO598.out; obtain ⟨Ao76, co76, rfl⟩ := Z19 HO601.out; have hz77 := Y6 BK581.out) | ((with_reducible refine gate_callee (f := 53) rfl ?_); refine Yz 26 Try.func53 #[.slice Ao69 t584.length co69, .slice A0_0 l0_0.length c0_0] ?_; (with_reducible refine (slices_Equal_int_int.calls kj1 _ _ t584 _ _ l0_0 false _ ?side1 ((Kd.R_reads' HO586.out).2.1) ?side3 HC0_0.out A12.out).mono ?_); (case side1 => refine (Kd.R_reads' (e := 3) (base := w.heap.size) (ok := fun k_ => (some k_ ≠ (.slice Ao72 t587.length co72 : Value).ownBlock ∧ (some k_ ≠ (.slice Ao74 t593.length co74 : Value).ownBlock ∧ (some k_ ≠ (.slice Ao75 t596.length co75 : Value).ownBlock ∧ some k_ ≠ (.slice Ao76 t599.length co76 : Value).ownBlock)))) (n := t584.length) (c := co69) ?_).2.2; exact (Yj (Yf6 HO586.out BK602.out) (fun _ h_ => h_.1))); (case side3 => exact Z22 HR0_0.out Q0); rintro e w' ⟨rfl, ⟨nd, rfl⟩⟩; refine ⟨_, rfl, ?_⟩))
     go_ret
     exact ⟨Q2, Q12⟩
def impl_Focus_own.f (l0_0 : List Int) (l0_1 : List Int) (l0_2 : List Bool) (l0_3 : List Int) : Option (List Int × List Int × List Bool × List Int) := (impl_copied.f l0_0).bind fun t628 => ((impl_copied.f l0_1).bind fun t631 => ((some (([] : List Bool) : List Bool)).bind fun y634 => (if y634.length + l0_2.length < 140737488355328 then ((impl_copied.f l0_3).bind fun t640 => (some (t628, t631, (y634 ++ l0_2), t640))) else (none))))
def impl_Focus_own.T1 : Bool × List (List Nat × List Nat) := (true, [([], []), ([0], [0]), ([1], [1]), ([], []), ([3], [3]), ([4, 2], [4]), ([], []), ([], []), ([7], [7]), ([6, 8, 5], [6, 8]), ([], []), ([10], [10]), ([11, 9], [11]), ([2, 5, 9, 12], [2, 5, 9, 12]), ([13, 12, 0, 1, 2, 3, 4, 5, 6, 7, 8, 9, 10, 11, 12, 13], [13])])
def impl_Focus_own.B1 : List Nat := [0, 1, 3, 0, 8, 31, 0, 0, 128, 511, 0, 1024, 4095, 8191, 16383]
theorem impl_Focus_own.tab1 : rtab .any (opsOf Try.f35 1) = impl_Focus_own.T1 := by kernel_rfl
theorem impl_Focus_own.bits1 : waitsOk impl_Focus_own.T1.2 impl_Focus_own.B1 = true := by kernel_rfl
set_option maxHeartbeats 8000000 in
set_option maxRecDepth 100000 in
theorem impl_Focus_own.calls (A0_0 : Option Addr) (c0_0 : Nat) (l0_0 : List Int) (A0_1 : Option Addr) (c0_1 : Nat) (l0_1 : List Int) (A0_2 : Option Addr) (c0_2 : Nat) (l0_2 : List Bool) (A0_3 : Option Addr) (c0_3 : Nat) (l0_3 : List Int) (r1 : List Int) (r2 : List Int) (r3 : List Bool) (r4 : List Int) (w : World) (hr0_0 : Kd.C (Kd.int .i64) w A0_0 l0_0.length l0_0) (hc0_0 : l0_0.length ≤ c0_0) (hr0_1 : Kd.C (Kd.int .i64) w A0_1 l0_1.length l0_1) (hc0_1 : l0_1.length ≤ c0_1) (hr0_2 : Kd.C Kd.bool w A0_2 l0_2.length l0_2) (hc0_2 : l0_2.length ≤ c0_2) (hr0_3 : Kd.C (Kd.int .i64) w A0_3 l0_3.length l0_3) (hc0_3 : l0_3.length ≤ c0_3) (h : impl_Focus_own.f l0_0 l0_1 l0_2 l0_3 = some (r1, r2, r3, r4)) :
  Calls Try.prog 35 #[.agg #[.slice A0_0 l0_0.length c0_0, .slice A0_1 l0_1.length c0_1, .slice A0_2 l0_2.length c0_2, .slice A0_3 l0_3.length c0_3]] w fun e w' => ∃ v0_ v1_ v2_ v3_ : Value, e = .returned (.agg #[v0_, v1_, v2_, v3_]) ∧ Kd.R (Kd.int .i64) 3 w' w.heap.size (fun k_ => some k_ ≠ (v1_ : Value).ownBlock ∧ some k_ ≠ (v3_ : Value).ownBlock) v0_ r1 ∧ Kd.R (Kd.int .i64) 3 w' w.heap.size (fun k_ => some k_ ≠ (v0_ : Value).ownBlock ∧ some k_ ≠ (v3_ : Value).ownBlock) v1_ r2 ∧ Kd.R Kd.bool 4 w' w.heap.size (fun _ => True) v2_ r3 ∧ Kd.R (Kd.int .i64) 3 w' w.heap.size (fun k_ => some k_ ≠ (v0_ : Value).ownBlock ∧ some k_ ≠ (v1_ : Value).ownBlock) v3_ r4 ∧ Below w.heap.size w w' := by
 have hu27 := Try.underlying27
 have HR0_0 := Ya hr0_0
 have HC0_0 := Ya hc0_0
 clear hr0_0 hc0_0
 have HR0_1 := Ya hr0_1
 have HC0_1 := Ya hc0_1
 clear hr0_1 hc0_1
 have HR0_2 := Ya hr0_2
 have HC0_2 := Ya hc0_2
 clear hr0_2 hc0_2
 have HR0_3 := Ya hr0_3
 have HC0_3 := Ya hc0_3
 clear hr0_3 hc0_3
 have HB := Ya (Below.refl w.heap.size w)
 have H : ((impl_copied.f l0_0).bind fun t628 => ((impl_copied.f l0_1).bind fun t631 => ((some (([] : List Bool) : List Bool)).bind fun y634 => (if y634.length + l0_2.length < 140737488355328 then ((impl_copied.f l0_3).bind fun t640 => (some (t628, t631, (y634 ++ l0_2), t640))) else (none))))) = some (r1, r2, r3, r4) := h
 clear h
 replace H := Z36.mp H
 obtain ⟨t628, A20, H⟩ := H
 replace H : ((impl_copied.f l0_1).bind fun t631 => ((some (([] : List Bool) : List Bool)).bind fun y634 => (if y634.length + l0_2.length < 140737488355328 then ((impl_copied.f l0_3).bind fun t640 => (some (t628, t631, (y634 ++ l0_2), t640))) else (none)))) = some (r1, r2, r3, r4) := H
 have A2 := Ya A20
 clear A20
 replace H := Z36.mp H
 obtain ⟨t631, A30, H⟩ := H
 replace H : ((some (([] : List Bool) : List Bool)).bind fun y634 => (if y634.length + l0_2.length < 140737488355328 then ((impl_copied.f l0_3).bind fun t640 => (some (t628, t631, (y634 ++ l0_2), t640))) else (none))) = some (r1, r2, r3, r4) := H
 have A3 := Ya A30
 clear A30
 obtain ⟨y634, hy634⟩ : ∃ y_ : List Bool, y_ = (([] : List Bool)) := ⟨_, rfl⟩
 replace H : (if y634.length + l0_2.length < 140737488355328 then ((impl_copied.f l0_3).bind fun t640 => (some (t628, t631, (y634 ++ l0_2), t640))) else (none)) = some (r1, r2, r3, r4) := by first | (rw [hy634]; with_reducible exact H) | (have H2_ := (Option.bind_some _ _).symm.trans H; rw [hy634]; with_reducible exact H2_) | (have H2_ := (Option.bind_some _ _).symm.trans H; with_reducible exact H2_) | with_reducible exact H | (rw [hy634]; exact H) | exact H
 have Ny634 := Ya hy634
 clear hy634
 by_cases c4 : y634.length + l0_2.length < 140737488355328
 ·rw [if_pos c4] at H
  have LMc4 := Ya c4
  clear c4
  obtain ⟨y637, hy637⟩ : ∃ y_ : List Bool, y_ = (y634 ++ l0_2) := ⟨_, rfl⟩
  replace H : ((impl_copied.f l0_3).bind fun t640 => (some (t628, t631, y637, t640))) = some (r1, r2, r3, r4) := by first | (rw [hy637]; with_reducible exact H) | (have H2_ := (Option.bind_some _ _).symm.trans H; rw [hy637]; with_reducible exact H2_) | (have H2_ := (Option.bind_some _ _).symm.trans H; with_reducible exact H2_) | with_reducible exact H | (rw [hy637]; exact H) | exact H
  have Ny637 := Ya hy637
  clear hy637
  replace H := Z36.mp H
  obtain ⟨t640, A50, H⟩ := H
  replace H : (some (t628, t631, y637, t640)) = some (r1, r2, r3, r4) := H
  have A5 := Ya A50
  clear A50
  simp only [Option.some.injEq, Prod.mk.injEq] at H
  obtain ⟨rfl, rfl, rfl, rfl⟩ := H
  go_enter Try.func35, Try.ntmps35
  try go_wp2_with (first | ((with_reducible refine gate_dst (N := 1) rfl ?_); refine Yx 1 #[.slice A0_0 l0_0.length c0_0, .slice A0_1 l0_1.length c0_1, .slice A0_2 l0_2.length c0_2, .slice A0_3 l0_3.length c0_3] 27 ?_; intro gb626 hg w6 hbox hb; have BK626 := Ya hbox; have GE626 := Yg hg; replace HB := Yh hb; clear hb hbox hg) | ((with_reducible refine gate_dst (N := 2) rfl ?_); refine Yx 2 YN4 27 ?_; intro gb627 hg w7 hbox hb; have BK627 := Ya hbox; have GE627 := Yg hg; replace HB := Yh hb; have NB626_627 := Yn BK626 hg; have NB627_626 := Ym BK626 hg; replace BK626 := Yb BK626 hb; clear hb hbox hg))
  replace BK626 := Ya (Z26 BK626.out)
  replace BK627 := Ya (Z26 BK627.out)
  replace HB := Ya (Z4 HB.out)
  refine start_ (n := 15) (S := fun w' => w'.cell? ⟨gb626, 0, none⟩ = some (.slice A0_0 l0_0.length c0_0) ∧ w'.cell? ⟨gb626, 1, none⟩ = some (.slice A0_1 l0_1.length c0_1) ∧ w'.cell? ⟨gb626, 2, none⟩ = some (.slice A0_2 l0_2.length c0_2) ∧ w'.cell? ⟨gb626, 3, none⟩ = some (.slice A0_3 l0_3.length c0_3)) (ds := []) (YA 15 0) (by kernel_rfl) rfl rfl (Yz4 BK626.out) (fun hHeld => ?_); refine with_tabW impl_Focus_own.tab1 impl_Focus_own.bits1 (fun HT_ HW_ => ?_)
  generalize w7.drew = w8 at BK626 BK627 HB hHeld ⊢
  refine Yp 0 (some 3) (YA 15 1) rfl HT_.out ?_
  refine Yp 3 (some 6) (YA 15 9) rfl HT_.out ?_
  refine Yp 7 (some 10) (YA 15 137) rfl HT_.out ?_
  refine Yp 10 (some 13) (YA 15 1161) rfl HT_.out ?_
  refine Yt 1 (some 4) (YA 15 1163) rfl HT_.out HW_.out hHeld Q3 ?_
  refine Yt 4 (some 7) (YA 15 1179) rfl HT_.out HW_.out hHeld Q3 ?_
  refine Yt 8 (some 11) (YA 15 1435) rfl HT_.out HW_.out hHeld Q3 ?_
  refine Yt 11 (some 14) (YA 15 3483) rfl HT_.out HW_.out hHeld Q3 ?_
  refine join_ (σ := Value × Value × Value) 4 (YA 15 3583) (fun s_ => [(5, s_.1), (8, s_.2.1), (9, s_.2.2)]) (fun s_ w' => (w'.cell? ⟨gb626, 0, none⟩ = some (.slice A0_0 l0_0.length c0_0) ∧ w'.cell? ⟨gb626, 1, none⟩ = some (.slice A0_1 l0_1.length c0_1) ∧ w'.cell? ⟨gb626, 2, none⟩ = some (.slice A0_2 l0_2.length c0_2) ∧ w'.cell? ⟨gb626, 3, none⟩ = some (.slice A0_3 l0_3.length c0_3)) ∧ (Kd.R (Kd.int .i64) 3 w' w.heap.size (fun k_ => some k_ ≠ (s_.2.1 : Value).ownBlock) s_.1 t628) ∧ (Kd.R (Kd.int .i64) 3 w' w.heap.size (fun k_ => some k_ ≠ (s_.1 : Value).ownBlock) s_.2.1 t631) ∧ (Kd.R Kd.bool 4 w' w.heap.size (fun _ => True) s_.2.2 y634) ∧ (w'.heap[gb626]? = some (.cells #[.slice A0_0 l0_0.length c0_0, .slice A0_1 l0_1.length c0_1, .slice A0_2 l0_2.length c0_2, .slice A0_3 l0_3.length c0_3] 27 (0, 0))) ∧ (w'.heap[gb627]? = some (.cells YN4 27 (0, 0))) ∧ (Below w.heap.size w w')) ?_ ?_
  rotate_left
  ·intro hCont
   refine two_ (i := 2) (j := 6) (Ni := some 5) (Nj := some 9) (YA 15 3487) (YA 15 3547) rfl rfl rfl rfl (two_of HT_.out (by kernel_rfl)) (by decide) (by decide) (fun K hK => ?_) (fun K hK => ?_)
   ·skip
    refine goes_ Try.func56 (by kernel_rfl) rfl #[.slice A0_0 l0_0.length c0_0] (by rfl) rfl rfl Q7 ?_
    with_reducible refine (impl_copied.calls _ _ l0_0 t628 _ ?side1 ?side2 A2.out).mono ?_
    (case side1 => exact Yc (Z22 HR0_0.out HB.out))
    (case side2 => exact HC0_0.out)
    rintro e w9 ⟨v629, rfl, ho0, hb⟩
    refine ⟨_, rfl, ?_⟩
    have HO630 := Yl ho0
    replace BK626 := Yb BK626 hb
    replace BK627 := Yb BK627 hb
    replace HB := Yh hb
    (try clear hb ho0)
    refine hK.out _ _ (Yz4 BK626.out) (fun hHeld => ?_)
    clear hK K
    refine norm_ (a' := ?_) ?_ ?_
    rotate_left
    ·show Act.put _ (some 5) _ = _
     simp only [Act.put, Z0, Z1, Z2, i64_w, i32_w]
     rfl
    refine two_ (i := 5) (j := 6) (Ni := some 8) (Nj := some 9) (YA 15 3519) (YA 15 3551) rfl rfl rfl rfl (two_of HT_.out (by kernel_rfl)) (by decide) (by decide) (fun K hK => ?_) (fun K hK => ?_)
    ·skip
     refine goes_ Try.func56 (by kernel_rfl) rfl #[.slice A0_1 l0_1.length c0_1] (by rfl) rfl rfl Q7 ?_
     with_reducible refine (impl_copied.calls _ _ l0_1 t631 _ ?side1 ?side2 A3.out).mono ?_
     (case side1 => exact Yc (Z22 HR0_1.out HB.out))
     (case side2 => exact HC0_1.out)
     rintro e w10 ⟨v632, rfl, ho0, hb⟩
     refine ⟨_, rfl, ?_⟩
     have HO633 := Yl (Kd.R_new' ho0 (Z18 (Yr HO630.out)))
     replace HO630 := Ya (Kd.R_elder' (Yr HO630.out) (Kd.R_base ho0) hb)
     replace BK626 := Yb BK626 hb
     replace BK627 := Yb BK627 hb
     replace HB := Yh hb
     (try clear hb ho0)
     refine hK.out _ _ (Yz4 BK626.out) (fun hHeld => ?_)
     clear hK K
     refine norm_ (a' := ?_) ?_ ?_
     rotate_left
     ·show Act.put _ (some 8) _ = _
      simp only [Act.put, Z0, Z1, Z2, i64_w, i32_w]
      rfl
     refine one_ (i := 6) (N := some 9) (YA 15 3583) rfl rfl (one_of HT_.out (by kernel_rfl)) (by decide) (fun K hK => ?_)
     refine Kd.R_lit_step Kd.bool _ 4 ?hg (N := 9) ?hd (xs := ([] : List Bool)) (inner := []) (ok := fun _ => True) (okp := fun _ => True) ?hr ?hp (fun _ hk => hk) trivial (Below.refl _ _) (Nat.le_refl _) (by simp) ?_; (case hd => rfl); (case hg => rfl); (case hr => first | (go_simp; done) | (go_simp; rfl)); (case hp => exact (Reps.none _ _))
     intro v635 w11 ho12 hb hg_ hnew_
     clear hg_ hnew_
     (first | rw [← Ny634.out] at ho12 | (simp only [Int.reduceToNat] at ho12; rw [← Ny634.out] at ho12))
     replace HO630 := Yw HO630 hb
     replace HO633 := Yw HO633 hb
     have HO636 := Yl ho12
     replace BK626 := Yb BK626 hb
     replace BK627 := Yb BK627 hb
     replace HB := Yh hb
     clear hb ho12
     refine hK.out _ _ (Yz4 BK626.out) (fun hHeld => ?_)
     clear hK K
     refine norm_ (a' := ?_) ?_ ?_
     rotate_left
     ·show Act.put _ (some 9) _ = _
      simp only [Act.put, Z0, Z1, Z2, i64_w, i32_w]
      rfl
     exact norm_ Q30 (hCont (v629, v632, v635) _ ⟨hHeld, (Yj HO630.out (fun _ hk => hk.2)), (Yj HO633.out (fun _ hk => hk.2)), (Yr HO636.out), (Yk BK626.out), (Yk BK627.out), Q0⟩)
    ·skip
     refine Kd.R_lit_step Kd.bool _ 4 ?hg (N := 9) ?hd (xs := ([] : List Bool)) (inner := []) (ok := fun _ => True) (okp := fun _ => True) ?hr ?hp (fun _ hk => hk) trivial (Below.refl _ _) (Nat.le_refl _) (by simp) ?_; (case hd => rfl); (case hg => rfl); (case hr => first | (go_simp; done) | (go_simp; rfl)); (case hp => exact (Reps.none _ _))
     intro v635 w10 ho11 hb hg_ hnew_
     clear hg_ hnew_
     (first | rw [← Ny634.out] at ho11 | (simp only [Int.reduceToNat] at ho11; rw [← Ny634.out] at ho11))
     replace HO630 := Yw HO630 hb
     have HO636 := Yl ho11
     replace BK626 := Yb BK626 hb
     replace BK627 := Yb BK627 hb
     replace HB := Yh hb
     clear hb ho11
     refine hK.out _ _ (Yz4 BK626.out) (fun hHeld => ?_)
     clear hK K
     refine norm_ (a' := ?_) ?_ ?_
     rotate_left
     ·show Act.put _ (some 9) _ = _
      simp only [Act.put, Z0, Z1, Z2, i64_w, i32_w]
      rfl
     refine one_ (i := 5) (N := some 8) (YA 15 3583) rfl rfl (one_of HT_.out (by kernel_rfl)) (by decide) (fun K hK => ?_)
     refine goes_ Try.func56 (by kernel_rfl) rfl #[.slice A0_1 l0_1.length c0_1] (by rfl) rfl rfl Q7 ?_
     with_reducible refine (impl_copied.calls _ _ l0_1 t631 _ ?side1 ?side2 A3.out).mono ?_
     (case side1 => exact Yc (Z22 HR0_1.out HB.out))
     (case side2 => exact HC0_1.out)
     rintro e w12 ⟨v632, rfl, ho0, hb⟩
     refine ⟨_, rfl, ?_⟩
     replace HO636 := Yw HO636 hb
     have HO633 := Yl (Kd.R_new' ho0 (Z18 (Yr HO630.out)))
     replace HO630 := Ya (Kd.R_elder' (Yr HO630.out) (Kd.R_base ho0) hb)
     replace BK626 := Yb BK626 hb
     replace BK627 := Yb BK627 hb
     replace HB := Yh hb
     (try clear hb ho0)
     refine hK.out _ _ (Yz4 BK626.out) (fun hHeld => ?_)
     clear hK K
     refine norm_ (a' := ?_) ?_ ?_
     rotate_left
     ·show Act.put _ (some 8) _ = _
      simp only [Act.put, Z0, Z1, Z2, i64_w, i32_w]
      rfl
     exact norm_ Q30 (hCont (v629, v632, v635) _ ⟨hHeld, (Yj HO630.out (fun _ hk => hk.2)), (Yj HO633.out (fun _ hk => hk.2)), (Yr HO636.out), (Yk BK626.out), (Yk BK627.out), Q0⟩)
   ·skip
    refine Kd.R_lit_step Kd.bool _ 4 ?hg (N := 9) ?hd (xs := ([] : List Bool)) (inner := []) (ok := fun _ => True) (okp := fun _ => True) ?hr ?hp (fun _ hk => hk) trivial (Below.refl _ _) (Nat.le_refl _) (by simp) ?_; (case hd => rfl); (case hg => rfl); (case hr => first | (go_simp; done) | (go_simp; rfl)); (case hp => exact (Reps.none _ _))
    intro v635 w9 ho10 hb hg_ hnew_
    clear hg_ hnew_
    (first | rw [← Ny634.out] at ho10 | (simp only [Int.reduceToNat] at ho10; rw [← Ny634.out] at ho10))
    have HO636 := Yl ho10
    replace BK626 := Yb BK626 hb
    replace BK627 := Yb BK627 hb
    replace HB := Yh hb
    clear hb ho10
    refine hK.out _ _ (Yz4 BK626.out) (fun hHeld => ?_)
    clear hK K
    refine norm_ (a' := ?_) ?_ ?_
    rotate_left
    ·show Act.put _ (some 9) _ = _
     simp only [Act.put, Z0, Z1, Z2, i64_w, i32_w]
     rfl
    refine one_ (i := 2) (N := some 5) (YA 15 3551) rfl rfl (one_of HT_.out (by kernel_rfl)) (by decide) (fun K hK => ?_)
    refine goes_ Try.func56 (by kernel_rfl) rfl #[.slice A0_0 l0_0.length c0_0] (by rfl) rfl rfl Q7 ?_
    with_reducible refine (impl_copied.calls _ _ l0_0 t628 _ ?side1 ?side2 A2.out).mono ?_
    (case side1 => exact Yc (Z22 HR0_0.out HB.out))
    (case side2 => exact HC0_0.out)
    rintro e w11 ⟨v629, rfl, ho0, hb⟩
    refine ⟨_, rfl, ?_⟩
    replace HO636 := Yw HO636 hb
    have HO630 := Yl ho0
    replace BK626 := Yb BK626 hb
    replace BK627 := Yb BK627 hb
    replace HB := Yh hb
    (try clear hb ho0)
    refine hK.out _ _ (Yz4 BK626.out) (fun hHeld => ?_)
    clear hK K
    refine norm_ (a' := ?_) ?_ ?_
    rotate_left
    ·show Act.put _ (some 5) _ = _
     simp only [Act.put, Z0, Z1, Z2, i64_w, i32_w]
     rfl
    refine one_ (i := 5) (N := some 8) (YA 15 3583) rfl rfl (one_of HT_.out (by kernel_rfl)) (by decide) (fun K hK => ?_)
    refine goes_ Try.func56 (by kernel_rfl) rfl #[.slice A0_1 l0_1.length c0_1] (by rfl) rfl rfl Q7 ?_
    with_reducible refine (impl_copied.calls _ _ l0_1 t631 _ ?side1 ?side2 A3.out).mono ?_
    (case side1 => exact Yc (Z22 HR0_1.out HB.out))
    (case side2 => exact HC0_1.out)
    rintro e w12 ⟨v632, rfl, ho0, hb⟩
    refine ⟨_, rfl, ?_⟩
    replace HO636 := Yw HO636 hb
    have HO633 := Yl (Kd.R_new' ho0 (Z18 (Yr HO630.out)))
    replace HO630 := Ya (Kd.R_elder' (Yr HO630.out) (Kd.R_base ho0) hb)
    replace BK626 := Yb BK626 hb
    replace BK627 := Yb BK627 hb
    replace HB := Yh hb
    (try clear hb ho0)
    refine hK.out _ _ (Yz4 BK626.out) (fun hHeld => ?_)
    clear hK K
    refine norm_ (a' := ?_) ?_ ?_
    rotate_left
    ·show Act.put _ (some 8) _ = _
     simp only [Act.put, Z0, Z1, Z2, i64_w, i32_w]
     rfl
    exact norm_ Q30 (hCont (v629, v632, v635) _ ⟨hHeld, (Yj HO630.out (fun _ hk => hk.2)), (Yj HO633.out (fun _ hk => hk.2)), (Yr HO636.out), (Yk BK626.out), (Yk BK627.out), Q0⟩)
  rintro ⟨v629, v632, v635⟩ w13 ⟨hS_, h0_, h1_, h2_, h3_, h4_, h5_⟩
  have HO630 : Aside0 (Kd.R (Kd.int .i64) 3 w13 w.heap.size (fun k_ => some k_ ≠ (v632 : Value).ownBlock) v629 t628) := ⟨h0_⟩
  have HO633 : Aside0 (Kd.R (Kd.int .i64) 3 w13 w.heap.size (fun k_ => some k_ ≠ (v629 : Value).ownBlock) v632 t631) := ⟨h1_⟩
  have HO636 : Aside0 (Kd.R Kd.bool 4 w13 w.heap.size (fun _ => True) v635 y634) := ⟨h2_⟩
  replace BK626 : Aside0 (w13.heap[gb626]? = some (.cells #[.slice A0_0 l0_0.length c0_0, .slice A0_1 l0_1.length c0_1, .slice A0_2 l0_2.length c0_2, .slice A0_3 l0_3.length c0_3] 27 (0, 0))) := ⟨h3_⟩
  replace BK627 : Aside0 (w13.heap[gb627]? = some (.cells YN4 27 (0, 0))) := ⟨h4_⟩
  replace HB : Aside0 (Below w.heap.size w w13) := ⟨h5_⟩
  clear h0_ h1_ h2_ h3_ h4_ h5_
  have hHeld : w13.cell? ⟨gb626, 0, none⟩ = some (.slice A0_0 l0_0.length c0_0) ∧ w13.cell? ⟨gb626, 1, none⟩ = some (.slice A0_1 l0_1.length c0_1) ∧ w13.cell? ⟨gb626, 2, none⟩ = some (.slice A0_2 l0_2.length c0_2) ∧ w13.cell? ⟨gb626, 3, none⟩ = some (.slice A0_3 l0_3.length c0_3) := hS_
  refine norm_ (a' := ?_) ?_ ?_
  rotate_left
  ·simp only [putAll, Act.put, Z0, Z1, Z2]
   rfl
  refine one_ (i := 9) (N := some 12) (YA 15 4095) rfl rfl (one_of HT_.out (by kernel_rfl)) (by decide) (fun K hK => ?_)
  refine Kd.R_append_rows_step Kd.bool (w0 := w) w.heap.size (by rfl) (.tmp 9) (.tmp 11) 23 4 (.bool false) 1 rfl Try.underlying23 info4 rfl (by decide) (by omega) v635 y634 l0_2 _ _ _ (fun _ => True) (fun _ => False) rfl rfl ?aO ?aR (fun _ _ h => h) (fun _ h => h.elim) ?aF ?aB ?aS ?aL ?_
  (case aR => repeat (first | exact (Z22 HR0_2.out HB.out) | (with_reducible refine Z20 ?_ _) | (with_reducible refine Z21 ?_ _) | (with_reducible refine Kd.C_drew ?_)))
  (case aB => exact Q0)
  (case aF => exact (fun _ _ => trivial))
  (case aO => exact (Yr HO636.out))
  (case aS => exact (Z7 Q0))
  (case aL => have := LMc4.out; omega)
  intro v638 w14 ho hb hg hat
  rw [← Ny637.out] at ho
  replace BK626 := Ya (blk_grown (g := gb626) (o := .cells #[.slice A0_0 l0_0.length c0_0, .slice A0_1 l0_1.length c0_1, .slice A0_2 l0_2.length c0_2, .slice A0_3 l0_3.length c0_3] 27 (0, 0)) (Yk BK626.out) hg (Kd.R_ne HO636.out BK626.out (by decide)))
  replace BK627 := Ya (blk_grown (g := gb627) (o := .cells YN4 27 (0, 0)) (Yk BK627.out) hg (Kd.R_ne HO636.out BK627.out (by decide)))
  replace HO630 := Ya (Kd.R_over' (Yr HO630.out) (Kd.R_typed (Yr HO636.out)) (by decide) hg)
  replace HO633 := Ya (Kd.R_over' (Yr HO633.out) (Kd.R_typed (Yr HO636.out)) (by decide) hg)
  replace HB := Ya hb
  have HO639 := Ya ho
  clear HO636
  clear ho hb hg hat
  refine hK.out _ _ (Yz4 BK626.out) (fun hHeld => ?_)
  clear hK K
  refine norm_ (a' := ?_) ?_ ?_
  rotate_left
  ·show Act.put _ (some 12) _ = _
   simp only [Act.put, Z0, Z1, Z2, i64_w, i32_w]
   rfl
  refine one_ (i := 12) (N := some 15) (YA 15 8191) rfl rfl (one_of HT_.out (by kernel_rfl)) (by decide) (fun K hK => ?_)
  refine goes_ Try.func56 (by kernel_rfl) rfl #[.slice A0_3 l0_3.length c0_3] (by rfl) rfl rfl Q7 ?_
  with_reducible refine (impl_copied.calls _ _ l0_3 t640 _ ?side1 ?side2 A5.out).mono ?_
  (case side1 => exact Yc (Z22 HR0_3.out HB.out))
  (case side2 => exact HC0_3.out)
  rintro e w15 ⟨v641, rfl, ho0, hb⟩
  refine ⟨_, rfl, ?_⟩
  replace HO639 := Yw HO639 hb
  have HO642 := Yl (Kd.R_new' (Kd.R_new' ho0 (Z18 (Yr HO630.out))) (Z18 (Yr HO633.out)))
  replace HO630 := Ya (Kd.R_elder' (Yr HO630.out) (Kd.R_base ho0) hb)
  replace HO633 := Ya (Kd.R_elder' (Yr HO633.out) (Kd.R_base ho0) hb)
  replace BK626 := Yb BK626 hb
  replace BK627 := Yb BK627 hb
  replace HB := Yh hb
  (try clear hb ho0)
  obtain ⟨Ao16, co16, eo16⟩ := Z19 HO642.out
  (first | subst eo16 | (injection eo16 with f1_ f2_ f3_; have f4_ := f1_.symm; have f5_ := f3_.symm; clear f1_ f2_ f3_; subst f4_; subst f5_))
  obtain ⟨Ao17, co17, eo17⟩ := Z19 HO639.out
  (first | subst eo17 | (injection eo17 with f1_ f2_ f3_; have f4_ := f1_.symm; have f5_ := f3_.symm; clear f1_ f2_ f3_; subst f4_; subst f5_))
  obtain ⟨Ao18, co18, eo18⟩ := Z19 HO633.out
  (first | subst eo18 | (injection eo18 with f1_ f2_ f3_; have f4_ := f1_.symm; have f5_ := f3_.symm; clear f1_ f2_ f3_; subst f4_; subst f5_))
  obtain ⟨Ao19, co19, eo19⟩ := Z19 HO630.out
  (first | subst eo19 | (injection eo19 with f1_ f2_ f3_; have f4_ := f1_.symm; have f5_ := f3_.symm; clear f1_ f2_ f3_; subst f4_; subst f5_))
  refine hK.out _ _ (Yz4 BK626.out) (fun hHeld => ?_)
  clear hK K
  refine norm_ (a' := ?_) ?_ ?_
  rotate_left
  ·show Act.put _ (some 15) _ = _
   simp only [Act.put, Z0, Z1, Z2, i64_w, i32_w]
   rfl
  refine Yp 13 (some 16) (YA 15 16383) rfl HT_.out ?_
  refine one_ (i := 14) (N := none) (YA 15 32767) rfl rfl (one_of HT_.out (by kernel_rfl)) (by decide) (fun K hK => ?_)
  have hs20 : w15.cell? ⟨gb627, 0, none⟩ = some (.slice none 0 0) := (Z23 BK627.out 0).trans rfl
  have hfs20 := Z24 BK627.out 0
  have hns20_0 := NB626_627.out
  have hms20_0 := NB627_626.out
  have hs21 : w15.cell? ⟨gb627, 1, none⟩ = some (.slice none 0 0) := (Z23 BK627.out 1).trans rfl
  have hfs21 := Z24 BK627.out 1
  have hns21_0 := NB626_627.out
  have hms21_0 := NB627_626.out
  have hs22 : w15.cell? ⟨gb627, 2, none⟩ = some (.slice none 0 0) := (Z23 BK627.out 2).trans rfl
  have hfs22 := Z24 BK627.out 2
  have hns22_0 := NB626_627.out
  have hms22_0 := NB627_626.out
  have hs23 : w15.cell? ⟨gb627, 3, none⟩ = some (.slice none 0 0) := (Z23 BK627.out 3).trans rfl
  have hfs23 := Z24 BK627.out 3
  have hns23_0 := NB626_627.out
  have hms23_0 := NB627_626.out
  refine skip_ (w1 := ?_) (by rfl) rfl ?_ ?_
  rotate_left
  ·go_simp
   rfl
  refine hK.out _ _ ⟨((cell_far (p := ⟨gb627, _, none⟩) NB626_627.out _).trans (((cell_far (p := ⟨gb627, _, none⟩) NB626_627.out _).trans (((cell_far (p := ⟨gb627, _, none⟩) NB626_627.out _).trans (((cell_far (p := ⟨gb627, _, none⟩) NB626_627.out _).trans (hHeld.1)))))))), ((cell_far (p := ⟨gb627, _, none⟩) NB626_627.out _).trans (((cell_far (p := ⟨gb627, _, none⟩) NB626_627.out _).trans (((cell_far (p := ⟨gb627, _, none⟩) NB626_627.out _).trans (((cell_far (p := ⟨gb627, _, none⟩) NB626_627.out _).trans (hHeld.2.1)))))))), ((cell_far (p := ⟨gb627, _, none⟩) NB626_627.out _).trans (((cell_far (p := ⟨gb627, _, none⟩) NB626_627.out _).trans (((cell_far (p := ⟨gb627, _, none⟩) NB626_627.out _).trans (((cell_far (p := ⟨gb627, _, none⟩) NB626_627.out _).trans (hHeld.2.2.1)))))))), ((cell_far (p := ⟨gb627, _, none⟩) NB626_627.out _).trans (((cell_far (p := ⟨gb627, _, none⟩) NB626_627.out _).trans (((cell_far (p := ⟨gb627, _, none⟩) NB626_627.out _).trans (((cell_far (p := ⟨gb627, _, none⟩) NB626_627.out _).trans (hHeld.2.2.2))))))))⟩ (fun hHeld => ?_)
  clear hK K
  refine done_ (done_of HT_.out (by kernel_rfl)) ?_
  try go_wp2
  refine bodyPost_ret (results_cell_row rfl _ _ gb627 27 #[.slice Ao19 t628.length co19, .slice Ao18 t631.length co18, .slice Ao17 y637.length co17, .slice Ao16 t640.length co16] (0, 0) _ rfl (Yk (Yv4 BK627.out)) Try.underlying27 rfl (by kernel_rfl)) rfl ?_
  exact ⟨_, _, _, _, Q2, Yj (Yf4 HO630.out BK627.out) (fun _ hk => ⟨hk.1.1, hk.1.2⟩), Yj (Yf4 HO633.out BK627.out) (fun _ hk => ⟨hk.1.1, hk.1.2⟩), Yj (Yf4 HO639.out BK627.out) (fun _ hk => trivial), Yj (Yf4 HO642.out BK627.out) (fun _ hk => ⟨hk.1.1.2, hk.1.2⟩), Q12⟩
 ·rw [if_neg c4] at H
  exact absurd H (by simp)
end Go.Proofs.Ytpfakdhfffehaaa.MFnExactStepSwapper
