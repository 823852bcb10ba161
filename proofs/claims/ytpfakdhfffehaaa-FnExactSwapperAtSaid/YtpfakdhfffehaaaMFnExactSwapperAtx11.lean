/- Functions of the program as Lean functions, each with the proof that its call comes to just that: laid for this claim by this session's own program. -/
import Derived.Test.YtpfakdhfffehaaaMFnExactSwapperAtx0
import Derived.Test.YtpfakdhfffehaaaMFnExactSwapperAtx10
namespace Go.Proofs.Ytpfakdhfffehaaa.MFnExactSwapperAt
open Go.RowKit Go.Proofs.YtpfakdhfffehaaaW.PrintWords Go.Proofs.YtpfakdhfffehaaaW.PrintLast Go.Proofs.YtpfakdhfffehaaaW.PrintMore
attribute [local go_sem] max2_int min2_int max_two min_two max_three min_three max_four min_four   -- for this text's walks alone
set_option linter.unusedVariables false
set_option linter.unusedSimpArgs false

/-! ### impl_Swapper_step: function 57 -/
open Go.Proofs.Ytpfakdhfffehaaa.FoW Go.Proofs.Ytpfakdhfffehaaa.SwW in
set_option maxHeartbeats 8000000 in
set_option maxRecDepth 100000 in
theorem impl_Swapper_step.calls (w0 : World) (g g0 c0 g1 c1 g2 c2 g3 c3 g4 c4 g5 c5 : Nat) (b d : List Int) (u : List Bool) (p it wh d' : List Int) (u' : List Bool) (p' it' wh' : List Int) (r : Int) (w : World)
  (hb : w.heap[g]? = some (.cells #[.slice (some ⟨g0, 0, none⟩) b.length c0, .slice (some ⟨g1, 0, none⟩) d.length c1, .slice (some ⟨g2, 0, none⟩) u.length c2, .slice (some ⟨g3, 0, none⟩) p.length c3, .slice (some ⟨g4, 0, none⟩) it.length c4, .slice (some ⟨g5, 0, none⟩) wh.length c5] 35 (0, 0))) (hS : SwR w w0.heap.size g0 c0 g1 c1 g2 c2 g3 c3 g4 c4 g5 c5 b d u p it wh) (hW : Below w0.heap.size w0 w) (h : stepS b d u p it wh = some (d', u', p', it', wh', r)) :
  Calls Try.prog 57 #[.pointer (some ⟨g, 0, none⟩)] w fun e w' => e = .returned (.int .i64 r) ∧ w'.heap[g]? = w.heap[g]? ∧ SwR w' w0.heap.size g0 c0 g1 c1 g2 c2 g3 c3 g4 c4 g5 c5 b d' u' p' it' wh' ∧ Kept w w' (Ws g1 g2 g3 g4 g5) ∧ Below w0.heap.size w0 w' := by
 have hu := Try.underlying35
 have hu2 := Try.underlying27
 have hne := FoR.apart hS.f hb (by decide) (by decide)
 have hne2 := SwR.apart hS hb (by decide)
 have HB0 := Ya hb
 have BK := Ya hb
 have HS := Ya hS
 have HW := Ya hW
 unfold stepS at h
 simp only at h
 obtain ⟨J, hJ⟩ : ∃ J, rd p 0 = J := ⟨_, rfl⟩
 rw [hJ] at h
 obtain ⟨I, hI⟩ : ∃ I, (b.length : Int) - 1 - J = I := ⟨_, rfl⟩
 rw [hI] at h
 obtain ⟨X, hX⟩ : ∃ X, (it.length : Int) - 1 - J = X := ⟨_, rfl⟩
 rw [hX] at h
 obtain ⟨a, ha⟩ : ∃ a, (if rdOf false u I = true then rd wh X - 1 else rd wh X) = a := ⟨_, rfl⟩
 rw [ha] at h
 obtain ⟨Y, hY⟩ : ∃ Y, rd it a = Y := ⟨_, rfl⟩
 rw [hY] at h
 obtain ⟨Z, hZ⟩ : ∃ Z, rd it (a + 1) = Z := ⟨_, rfl⟩
 rw [hZ] at h
 by_cases hc : it.length ≤ 1000 ∧ wh.length ≤ 1000 ∧ 0 ≤ X ∧ X < wh.length ∧ -1000 ≤ rd wh X ∧ rd wh X ≤ 1000 ∧ 0 ≤ a ∧ a + 1 < it.length ∧ 0 ≤ Y ∧ Y < wh.length ∧ 0 ≤ Z ∧ Z < wh.length
 rotate_left
 ·rw [if_neg hc] at h; cases h
 rw [if_pos hc] at h
 obtain ⟨⟨D1, U1, P1, R1⟩, hs, h⟩ := Z37.mp h
 simp only [Option.some.injEq, Prod.mk.injEq] at h
 obtain ⟨rfl, rfl, rfl, rfl, rfl, rfl⟩ := h
 obtain ⟨j0, j1, m0, l1, l2, l3⟩ := stepF_cond hs
 rw [hJ] at j0 j1
 have HST := Ya hs
 obtain ⟨q0, q1, x0, x1, v0, v1, a0, a1, y0, y1, z0, z1⟩ := hc
 have HL := Ya (show (0 ≤ I ∧ I < u.length) ∧ (0 ≤ J ∧ 0 < p.length) ∧ (0 ≤ X ∧ X < wh.length) ∧ (0 ≤ a ∧ a + 1 < it.length) ∧ (0 ≤ Y ∧ Y < wh.length) ∧ (0 ≤ Z ∧ Z < wh.length) from ⟨⟨by omega, by omega⟩, ⟨by omega, by omega⟩, ⟨x0, x1⟩, ⟨a0, a1⟩, ⟨y0, y1⟩, ⟨z0, z1⟩⟩)
 have k1 : wrap64 ((b.length : Int) - 1) = (b.length : Int) - 1 := by unfold wrap64; omega
 have k1' : IntKind.i64.wrap ((b.length : Int) - 1) = (b.length : Int) - 1 := (i64_w _).trans k1
 have k2 : wrap64 ((b.length : Int) - 1 - J) = I := by rw [← hI]; unfold wrap64; omega
 have k2' : IntKind.i64.wrap ((b.length : Int) - 1 - J) = I := (i64_w _).trans k2
 have k3 : wrap64 ((it.length : Int) - 1) = (it.length : Int) - 1 := by unfold wrap64; omega
 have k3' : IntKind.i64.wrap ((it.length : Int) - 1) = (it.length : Int) - 1 := (i64_w _).trans k3
 have k4 : wrap64 ((it.length : Int) - 1 - J) = X := by rw [← hX]; unfold wrap64; omega
 have k4' : IntKind.i64.wrap ((it.length : Int) - 1 - J) = X := (i64_w _).trans k4
 have k5 : wrap64 (a + 1) = a + 1 := by unfold wrap64; omega
 have k5' : IntKind.i64.wrap (a + 1) = a + 1 := (i64_w _).trans k5
 have b1 : (0 ≤ I) = True := eq_true (by omega)
 have b2 : (I < (u.length : Int)) = True := eq_true (by omega)
 have b3 : (0 ≤ X) = True := eq_true x0
 have b4 : (X < (wh.length : Int)) = True := eq_true x1
 have b5 : (0 < p.length) = True := eq_true (by omega)
 have b6 : ((0 : Int) < (p.length : Int)) = True := eq_true (by omega)
 have b7 : decide (I < 0) = false := Z38 (by omega)
 have b8 : (0 ≤ a) = True := eq_true a0
 have b9 : (a < (it.length : Int)) = True := eq_true (by omega)
 have b10 : (0 ≤ a + 1) = True := eq_true (by omega)
 have b11 : (a + 1 < (it.length : Int)) = True := eq_true a1
 have b12 : (0 ≤ Y) = True := eq_true y0
 have b13 : (Y < (wh.length : Int)) = True := eq_true y1
 have b14 : (0 ≤ Z) = True := eq_true z0
 have b15 : (Z < (wh.length : Int)) = True := eq_true z1
 have HY := Ya hY
 have HZ := Ya hZ
 have HV := Ya (show rd ((it.set a.toNat Z).set (a + 1).toNat Y) a = Z ∧ rd ((it.set a.toNat Z).set (a + 1).toNat Y) (a + 1) = Y from ⟨by rw [rd_set_ne _ _ _ _ (by omega), rd_set_eq _ _ _ (by omega)], by rw [rd_set_eq _ _ _ (by rw [List.length_set]; omega)]⟩)
 have e0 : w.cell? ⟨g, 0, none⟩ = some (.slice (some ⟨g0, 0, none⟩) b.length c0) := (Z24 hb 0).trans rfl
 have e2 : w.cell? ⟨g, 2, none⟩ = some (.slice (some ⟨g2, 0, none⟩) u.length c2) := (Z24 hb 2).trans rfl
 have e3 : w.cell? ⟨g, 3, none⟩ = some (.slice (some ⟨g3, 0, none⟩) p.length c3) := (Z24 hb 3).trans rfl
 have e4 : w.cell? ⟨g, 4, none⟩ = some (.slice (some ⟨g4, 0, none⟩) it.length c4) := (Z24 hb 4).trans rfl
 have e5 : w.cell? ⟨g, 5, none⟩ = some (.slice (some ⟨g5, 0, none⟩) wh.length c5) := (Z24 hb 5).trans rfl
 have f3 : w.cell? ⟨g3, 0, none⟩ = some (.int .i64 J) := by rw [← hJ]; exact (FoR.at3 hS.f 0 (by decide) (by omega)).1
 have f2 : w.cell? ⟨g2, I.toNat, none⟩ = some (.bool (rdOf false u I)) := (FoR.at2 hS.f I (by omega) (by omega)).1
 have f5 : w.cell? ⟨g5, X.toNat, none⟩ = some (.int .i64 (rd wh X)) := (SwR.at5 hS X (by omega) (by omega)).1
 have HVX := Ya (show -1000 ≤ rd wh X ∧ rd wh X ≤ 1000 from ⟨v0, v1⟩)
 clear hb hS hW hs hY hZ hJ hI hX j0 j1 m0 l1 l2 l3 q0 q1 x0 x1 v0 v1 a0 a1 y0 y1 z0 z1
 go_enter Try.func57, Try.ntmps57
 cases hU : rdOf false u I
 ·rw [hU] at f2 ha
  have hv : rd wh X = a := by simpa using ha
  rw [hv] at f5
  clear ha
  go_wp2_with fail
  refine (impl_Focus_step.callsG #[.slice (some ⟨g0, 0, none⟩) b.length c0, .slice (some ⟨g1, 0, none⟩) d.length c1, .slice (some ⟨g2, 0, none⟩) u.length c2, .slice (some ⟨g3, 0, none⟩) p.length c3, .slice (some ⟨g4, 0, none⟩) it.length c4, .slice (some ⟨g5, 0, none⟩) wh.length c5] 35 (by decide) w0 g g0 c0 g1 c1 g2 c2 g3 c3 b d u p D1 U1 P1 R1 w rfl rfl rfl rfl BK.out HS.out.f HW.out HST.out).mono ?_
  rintro e w1 ⟨rfl, hk1, hk2, hk3, hk4⟩
  have n0_ := Ya (hk1.trans BK.out)
  have n1_ := Ya (SwR.step HS.out hk2 hk3)
  have HK := Ya (show Kept w w1 (Ws g1 g2 g3 g4 g5) from hk3.mono (fun _ h_ => .inl h_))
  clear BK HS HW hk1 hk2 hk3 e0 e2 e3 e4 e5 f2 f3 f5
  have BK := n0_
  have HS := n1_
  have HW := Ya hk4
  clear n0_ n1_ hk4
  go_wp2_with fail
  replace BK := Ya (Z27 BK.out)
  replace HS := Ya (SwR.drew HS.out)
  replace HK := Ya (Kept.drew HK.out)
  replace HW := Ya (Z4 HW.out)
  refine start_ (n := 30) (S := fun w' => w'.cell? ⟨g, 4, none⟩ = some (.slice (some ⟨g4, 0, none⟩) it.length c4) ∧ w'.cell? ⟨g4, a.toNat, none⟩ = some (.int .i64 Y) ∧ w'.cell? ⟨g4, (a + 1).toNat, none⟩ = some (.int .i64 Z)) (ds := [27, 29]) (YA 30 0) (by kernel_rfl) rfl rfl ⟨(Z24 BK.out 4).trans rfl, (SwR.at4 HS.out (a) Q20 Q25).1.trans (by rw [HY.out]), (SwR.at4 HS.out (a + 1) Q20 Q25).1.trans (by rw [HZ.out])⟩ (fun hHeld => ?_)
  generalize World.drew _ = w2 at BK HS HK HW hHeld ⊢
  have hxs := (SwR.at4 HS.out (a) Q20 Q25).1
  have hzs := (SwR.at4 HS.out (a) Q20 Q25).2
  have hxt := (SwR.at4 (SwR.put4 HS.out a Z) (a + 1) Q20 Q25).1
  have hzt := (SwR.at4 (SwR.put4 HS.out a Z) (a + 1) Q20 Q25).2
  refine Yq 0 (some 54) (YA 30 1) rfl ?_
  refine Yq 1 (some 55) (YA 30 3) rfl ?_
  refine Yq 2 (some 56) (YA 30 7) rfl ?_
  refine Yq 4 (some 58) (YA 30 23) rfl ?_
  refine Yq 5 (some 59) (YA 30 55) rfl ?_
  refine Yq 6 (some 60) (YA 30 119) rfl ?_
  refine Yq 7 (some 61) (YA 30 247) rfl ?_
  refine Yq 9 (some 63) (YA 30 759) rfl ?_
  refine Yq 10 (some 64) (YA 30 1783) rfl ?_
  refine Yq 11 (some 65) (YA 30 3831) rfl ?_
  refine Yq 12 (some 66) (YA 30 7927) rfl ?_
  refine Yq 13 (some 67) (YA 30 16119) rfl ?_
  refine Yq 15 (some 69) (YA 30 48887) rfl ?_
  refine Yq 16 (some 70) (YA 30 114423) rfl ?_
  refine Yq 19 (some 73) (YA 30 638711) rfl ?_
  refine Yq 20 (some 74) (YA 30 1687287) rfl ?_
  refine Yq 21 (some 75) (YA 30 3784439) rfl ?_
  refine Yq 23 (some 77) (YA 30 12173047) rfl ?_
  refine Ys 3 (some 57) (YA 30 12173055) rfl hHeld Q22 ?_
  refine Ys 8 (some 62) (YA 30 12173311) rfl hHeld Q22 ?_
  refine Ys 14 (some 68) (YA 30 12189695) rfl hHeld Q22 ?_
  refine Yq 17 (some 71) (YA 30 12320767) rfl ?_
  refine Ys 18 (some 72) (YA 30 12582911) rfl hHeld Q22 ?_
  refine Ys 22 (some 76) (YA 30 16777215) rfl hHeld Q22 ?_
  refine Yq 24 (some 78) (YA 30 33554431) rfl ?_
  refine Ys 25 (some 79) (YA 30 67108863) rfl hHeld Q22 ?_
  refine Yq 26 (some 80) (YA 30 134217727) rfl ?_
  refine last_ (i := 27) (N := none) (YA 30 268435455) rfl rfl (by kernel_rfl) (by decide) (fun K hK => ?_)
  refine skip_ (w1 := ?_) (by rfl) rfl ?_ ?_
  rotate_left
  ·go_simp
   rfl
  refine hK.out _ _ ?_
  clear hK K
  refine Yq 28 (some 81) (YA 30 536870911) rfl ?_
  refine last_ (i := 29) (N := none) (YA 30 1073741823) rfl rfl (by kernel_rfl) (by decide) (fun K hK => ?_)
  refine skip_ (w1 := ?_) (by rfl) rfl ?_ ?_
  rotate_left
  ·go_simp
   rfl
  refine hK.out _ _ ?_
  clear hK K
  refine done_ (by kernel_rfl) ?_

  clear hxs hzs hxt hzt
  replace BK := Ya (show (World.setCell (World.setCell w2 ⟨g4, Int.toNat (a), none⟩ (.int .i64 (Z))) ⟨g4, Int.toNat (a + 1), none⟩ (.int .i64 (Y))).heap[g]? = _ from (blk_far (p := ⟨g4, Int.toNat (a + 1), none⟩) (blk_far (p := ⟨g4, Int.toNat (a), none⟩) BK.out hne2.1 (.int .i64 (Z))) hne2.1 (.int .i64 (Y))))
  replace HK := Ya (show Kept w (World.setCell (World.setCell w2 ⟨g4, Int.toNat (a), none⟩ (.int .i64 (Z))) ⟨g4, Int.toNat (a + 1), none⟩ (.int .i64 (Y))) (Ws g1 g2 g3 g4 g5) from (Kept.setCell (p := ⟨g4, Int.toNat (a + 1), none⟩) (Kept.setCell (p := ⟨g4, Int.toNat (a), none⟩) HK.out (.inl (.inr (.inl rfl))) (.int .i64 (Z))) (.inl (.inr (.inl rfl))) (.int .i64 (Y))))
  replace HW := Ya (show Below w0.heap.size w0 (World.setCell (World.setCell w2 ⟨g4, Int.toNat (a), none⟩ (.int .i64 (Z))) ⟨g4, Int.toNat (a + 1), none⟩ (.int .i64 (Y))) from (Z6 (j := Int.toNat (a + 1)) (v := .int .i64 (Y)) (Z6 (j := Int.toNat (a)) (v := .int .i64 (Z)) HW.out (SwR.ge HS.out).1) (SwR.ge HS.out).1))
  replace HS := Ya (show SwR (World.setCell (World.setCell w2 ⟨g4, Int.toNat (a), none⟩ (.int .i64 (Z))) ⟨g4, Int.toNat (a + 1), none⟩ (.int .i64 (Y))) w0.heap.size g0 c0 g1 c1 g2 c2 g3 c3 g4 c4 g5 c5 b D1 U1 P1 ((it.set a.toNat Z).set (a + 1).toNat Y) wh from (SwR.put4 (SwR.put4 HS.out (a) (Z)) (a + 1) (Y)))
  generalize World.setCell (World.setCell w2 ⟨g4, Int.toNat (a), none⟩ (.int .i64 (Z))) ⟨g4, Int.toNat (a + 1), none⟩ (.int .i64 (Y)) = w3 at BK HS HK HW ⊢
  go_wp2_with fail
  replace BK := Ya (Z27 BK.out)
  replace HS := Ya (SwR.drew HS.out)
  replace HK := Ya (Kept.drew HK.out)
  replace HW := Ya (Z4 HW.out)
  refine start_ (n := 30) (S := fun w' => w'.cell? ⟨g, 4, none⟩ = some (.slice (some ⟨g4, 0, none⟩) it.length c4) ∧ w'.cell? ⟨g, 5, none⟩ = some (.slice (some ⟨g5, 0, none⟩) wh.length c5) ∧ w'.cell? ⟨g4, a.toNat, none⟩ = some (.int .i64 Z) ∧ w'.cell? ⟨g4, (a + 1).toNat, none⟩ = some (.int .i64 Y)) (ds := [27, 29]) (YA 30 0) (by kernel_rfl) rfl rfl ⟨(Z24 BK.out 4).trans rfl, (Z24 BK.out 5).trans rfl, (SwR.at4 HS.out (a) Q20 Q25).1.trans (by rw [HV.out.1]), (SwR.at4 HS.out (a + 1) Q20 Q25).1.trans (by rw [HV.out.2])⟩ (fun hHeld => ?_)
  generalize World.drew _ = w4 at BK HS HK HW hHeld ⊢
  have hxs := (SwR.at5 HS.out (Z) Q20 Q25).1
  have hzs := (SwR.at5 HS.out (Z) Q20 Q25).2
  have hxt := (SwR.at5 (SwR.put5 HS.out Z a) (Y) Q20 Q25).1
  have hzt := (SwR.at5 (SwR.put5 HS.out Z a) (Y) Q20 Q25).2
  refine Yq 0 (some 82) (YA 30 1) rfl ?_
  refine Yq 1 (some 83) (YA 30 3) rfl ?_
  refine Yq 2 (some 84) (YA 30 7) rfl ?_
  refine Yq 4 (some 86) (YA 30 23) rfl ?_
  refine Yq 5 (some 87) (YA 30 55) rfl ?_
  refine Yq 6 (some 88) (YA 30 119) rfl ?_
  refine Yq 8 (some 90) (YA 30 375) rfl ?_
  refine Yq 11 (some 93) (YA 30 2423) rfl ?_
  refine Yq 12 (some 94) (YA 30 6519) rfl ?_
  refine Yq 13 (some 95) (YA 30 14711) rfl ?_
  refine Yq 15 (some 97) (YA 30 47479) rfl ?_
  refine Yq 16 (some 98) (YA 30 113015) rfl ?_
  refine Yq 17 (some 99) (YA 30 244087) rfl ?_
  refine Yq 19 (some 101) (YA 30 768375) rfl ?_
  refine Yq 20 (some 102) (YA 30 1816951) rfl ?_
  refine Yq 23 (some 105) (YA 30 10205559) rfl ?_
  refine Yq 24 (some 106) (YA 30 26982775) rfl ?_
  refine Yq 25 (some 107) (YA 30 60537207) rfl ?_
  refine Ys 3 (some 85) (YA 30 60537215) rfl hHeld Q10 ?_
  refine Ys 7 (some 89) (YA 30 60537343) rfl hHeld Q10 ?_
  refine Yq 9 (some 91) (YA 30 60537855) rfl ?_
  refine Ys 10 (some 92) (YA 30 60538879) rfl hHeld Q10 ?_
  refine Ys 14 (some 96) (YA 30 60555263) rfl hHeld Q10 ?_
  refine Ys 18 (some 100) (YA 30 60817407) rfl hHeld Q10 ?_
  refine Yq 21 (some 103) (YA 30 62914559) rfl ?_
  refine Ys 22 (some 104) (YA 30 67108863) rfl hHeld Q10 ?_
  refine Yq 26 (some 108) (YA 30 134217727) rfl ?_
  refine last_ (i := 27) (N := none) (YA 30 268435455) rfl rfl (by kernel_rfl) (by decide) (fun K hK => ?_)
  refine skip_ (w1 := ?_) (by rfl) rfl ?_ ?_
  rotate_left
  ·go_simp
   rfl
  refine hK.out _ _ ?_
  clear hK K
  refine Yq 28 (some 109) (YA 30 536870911) rfl ?_
  refine last_ (i := 29) (N := none) (YA 30 1073741823) rfl rfl (by kernel_rfl) (by decide) (fun K hK => ?_)
  refine skip_ (w1 := ?_) (by rfl) rfl ?_ ?_
  rotate_left
  ·go_simp
   rfl
  refine hK.out _ _ ?_
  clear hK K
  refine done_ (by kernel_rfl) ?_

  clear hxs hzs hxt hzt
  replace BK := Ya (show (World.setCell (World.setCell w4 ⟨g5, Int.toNat (Z), none⟩ (.int .i64 (a))) ⟨g5, Int.toNat (Y), none⟩ (.int .i64 (a + 1))).heap[g]? = _ from (blk_far (p := ⟨g5, Int.toNat (Y), none⟩) (blk_far (p := ⟨g5, Int.toNat (Z), none⟩) BK.out hne2.2 (.int .i64 (a))) hne2.2 (.int .i64 (a + 1))))
  replace HK := Ya (show Kept w (World.setCell (World.setCell w4 ⟨g5, Int.toNat (Z), none⟩ (.int .i64 (a))) ⟨g5, Int.toNat (Y), none⟩ (.int .i64 (a + 1))) (Ws g1 g2 g3 g4 g5) from (Kept.setCell (p := ⟨g5, Int.toNat (Y), none⟩) (Kept.setCell (p := ⟨g5, Int.toNat (Z), none⟩) HK.out (.inl (.inr (.inr rfl))) (.int .i64 (a))) (.inl (.inr (.inr rfl))) (.int .i64 (a + 1))))
  replace HW := Ya (show Below w0.heap.size w0 (World.setCell (World.setCell w4 ⟨g5, Int.toNat (Z), none⟩ (.int .i64 (a))) ⟨g5, Int.toNat (Y), none⟩ (.int .i64 (a + 1))) from (Z6 (j := Int.toNat (Y)) (v := .int .i64 (a + 1)) (Z6 (j := Int.toNat (Z)) (v := .int .i64 (a)) HW.out (SwR.ge HS.out).2) (SwR.ge HS.out).2))
  replace HS := Ya (show SwR (World.setCell (World.setCell w4 ⟨g5, Int.toNat (Z), none⟩ (.int .i64 (a))) ⟨g5, Int.toNat (Y), none⟩ (.int .i64 (a + 1))) w0.heap.size g0 c0 g1 c1 g2 c2 g3 c3 g4 c4 g5 c5 b D1 U1 P1 ((it.set a.toNat Z).set (a + 1).toNat Y) ((wh.set Z.toNat a).set Y.toNat (a + 1)) from (SwR.put5 (SwR.put5 HS.out (Z) (a)) (Y) (a + 1)))
  generalize World.setCell (World.setCell w4 ⟨g5, Int.toNat (Z), none⟩ (.int .i64 (a))) ⟨g5, Int.toNat (Y), none⟩ (.int .i64 (a + 1)) = w5 at BK HS HK HW ⊢
  go_wp2
  go_ret
  exact ⟨rfl, BK.out.trans HB0.out.symm, HS.out, HK.out, HW.out⟩
 ·rw [hU] at f2 ha
  have hv : rd wh X - 1 = a := by simpa using ha
  have hw : wrap64 (rd wh X - 1) = a := by rw [← hv]; have := HVX.out; unfold wrap64; omega
  have hw' : IntKind.i64.wrap (rd wh X - 1) = a := (i64_w _).trans hw
  clear hv ha
  go_wp2_with fail
  refine (impl_Focus_step.callsG #[.slice (some ⟨g0, 0, none⟩) b.length c0, .slice (some ⟨g1, 0, none⟩) d.length c1, .slice (some ⟨g2, 0, none⟩) u.length c2, .slice (some ⟨g3, 0, none⟩) p.length c3, .slice (some ⟨g4, 0, none⟩) it.length c4, .slice (some ⟨g5, 0, none⟩) wh.length c5] 35 (by decide) w0 g g0 c0 g1 c1 g2 c2 g3 c3 b d u p D1 U1 P1 R1 w rfl rfl rfl rfl BK.out HS.out.f HW.out HST.out).mono ?_
  rintro e w1 ⟨rfl, hk1, hk2, hk3, hk4⟩
  have n0_ := Ya (hk1.trans BK.out)
  have n1_ := Ya (SwR.step HS.out hk2 hk3)
  have HK := Ya (show Kept w w1 (Ws g1 g2 g3 g4 g5) from hk3.mono (fun _ h_ => .inl h_))
  clear BK HS HW hk1 hk2 hk3 e0 e2 e3 e4 e5 f2 f3 f5
  have BK := n0_
  have HS := n1_
  have HW := Ya hk4
  clear n0_ n1_ hk4
  go_wp2_with fail
  replace BK := Ya (Z27 BK.out)
  replace HS := Ya (SwR.drew HS.out)
  replace HK := Ya (Kept.drew HK.out)
  replace HW := Ya (Z4 HW.out)
  refine start_ (n := 30) (S := fun w' => w'.cell? ⟨g, 4, none⟩ = some (.slice (some ⟨g4, 0, none⟩) it.length c4) ∧ w'.cell? ⟨g4, a.toNat, none⟩ = some (.int .i64 Y) ∧ w'.cell? ⟨g4, (a + 1).toNat, none⟩ = some (.int .i64 Z)) (ds := [27, 29]) (YA 30 0) (by kernel_rfl) rfl rfl ⟨(Z24 BK.out 4).trans rfl, (SwR.at4 HS.out (a) Q20 Q25).1.trans (by rw [HY.out]), (SwR.at4 HS.out (a + 1) Q20 Q25).1.trans (by rw [HZ.out])⟩ (fun hHeld => ?_)
  generalize World.drew _ = w2 at BK HS HK HW hHeld ⊢
  have hxs := (SwR.at4 HS.out (a) Q20 Q25).1
  have hzs := (SwR.at4 HS.out (a) Q20 Q25).2
  have hxt := (SwR.at4 (SwR.put4 HS.out a Z) (a + 1) Q20 Q25).1
  have hzt := (SwR.at4 (SwR.put4 HS.out a Z) (a + 1) Q20 Q25).2
  refine Yq 0 (some 54) (YA 30 1) rfl ?_
  refine Yq 1 (some 55) (YA 30 3) rfl ?_
  refine Yq 2 (some 56) (YA 30 7) rfl ?_
  refine Yq 4 (some 58) (YA 30 23) rfl ?_
  refine Yq 5 (some 59) (YA 30 55) rfl ?_
  refine Yq 6 (some 60) (YA 30 119) rfl ?_
  refine Yq 7 (some 61) (YA 30 247) rfl ?_
  refine Yq 9 (some 63) (YA 30 759) rfl ?_
  refine Yq 10 (some 64) (YA 30 1783) rfl ?_
  refine Yq 11 (some 65) (YA 30 3831) rfl ?_
  refine Yq 12 (some 66) (YA 30 7927) rfl ?_
  refine Yq 13 (some 67) (YA 30 16119) rfl ?_
  refine Yq 15 (some 69) (YA 30 48887) rfl ?_
  refine Yq 16 (some 70) (YA 30 114423) rfl ?_
  refine Yq 19 (some 73) (YA 30 638711) rfl ?_
  refine Yq 20 (some 74) (YA 30 1687287) rfl ?_
  refine Yq 21 (some 75) (YA 30 3784439) rfl ?_
  refine Yq 23 (some 77) (YA 30 12173047) rfl ?_
  refine Ys 3 (some 57) (YA 30 12173055) rfl hHeld Q22 ?_
  refine Ys 8 (some 62) (YA 30 12173311) rfl hHeld Q22 ?_
  refine Ys 14 (some 68) (YA 30 12189695) rfl hHeld Q22 ?_
  refine Yq 17 (some 71) (YA 30 12320767) rfl ?_
  refine Ys 18 (some 72) (YA 30 12582911) rfl hHeld Q22 ?_
  refine Ys 22 (some 76) (YA 30 16777215) rfl hHeld Q22 ?_
  refine Yq 24 (some 78) (YA 30 33554431) rfl ?_
  refine Ys 25 (some 79) (YA 30 67108863) rfl hHeld Q22 ?_
  refine Yq 26 (some 80) (YA 30 134217727) rfl ?_
  refine last_ (i := 27) (N := none) (YA 30 268435455) rfl rfl (by kernel_rfl) (by decide) (fun K hK => ?_)
  refine skip_ (w1 := ?_) (by rfl) rfl ?_ ?_
  rotate_left
  ·go_simp
   rfl
  refine hK.out _ _ ?_
  clear hK K
  refine Yq 28 (some 81) (YA 30 536870911) rfl ?_
  refine last_ (i := 29) (N := none) (YA 30 1073741823) rfl rfl (by kernel_rfl) (by decide) (fun K hK => ?_)
  refine skip_ (w1 := ?_) (by rfl) rfl ?_ ?_
  rotate_left
  ·go_simp
   rfl
  refine hK.out _ _ ?_
  clear hK K
  refine done_ (by kernel_rfl) ?_

  clear hxs hzs hxt hzt
  replace BK := Ya (show (World.setCell (World.setCell w2 ⟨g4, Int.toNat (a), none⟩ (.int .i64 (Z))) ⟨g4, Int.toNat (a + 1), none⟩ (.int .i64 (Y))).heap[g]? = _ from (blk_far (p := ⟨g4, Int.toNat (a + 1), none⟩) (blk_far (p := ⟨g4, Int.toNat (a), none⟩) BK.out hne2.1 (.int .i64 (Z))) hne2.1 (.int .i64 (Y))))
  replace HK := Ya (show Kept w (World.setCell (World.setCell w2 ⟨g4, Int.toNat (a), none⟩ (.int .i64 (Z))) ⟨g4, Int.toNat (a + 1), none⟩ (.int .i64 (Y))) (Ws g1 g2 g3 g4 g5) from (Kept.setCell (p := ⟨g4, Int.toNat (a + 1), none⟩) (Kept.setCell (p := ⟨g4, Int.toNat (a), none⟩) HK.out (.inl (.inr (.inl rfl))) (.int .i64 (Z))) (.inl (.inr (.inl rfl))) (.int .i64 (Y))))
  replace HW := Ya (show Below w0.heap.size w0 (World.setCell (World.setCell w2 ⟨g4, Int.toNat (a), none⟩ (.int .i64 (Z))) ⟨g4, Int.toNat (a + 1), none⟩ (.int .i64 (Y))) from (Z6 (j := Int.toNat (a + 1)) (v := .int .i64 (Y)) (Z6 (j := Int.toNat (a)) (v := .int .i64 (Z)) HW.out (SwR.ge HS.out).1) (SwR.ge HS.out).1))
  replace HS := Ya (show SwR (World.setCell (World.setCell w2 ⟨g4, Int.toNat (a), none⟩ (.int .i64 (Z))) ⟨g4, Int.toNat (a + 1), none⟩ (.int .i64 (Y))) w0.heap.size g0 c0 g1 c1 g2 c2 g3 c3 g4 c4 g5 c5 b D1 U1 P1 ((it.set a.toNat Z).set (a + 1).toNat Y) wh from (SwR.put4 (SwR.put4 HS.out (a) (Z)) (a + 1) (Y)))
  generalize World.setCell (World.setCell w2 ⟨g4, Int.toNat (a), none⟩ (.int .i64 (Z))) ⟨g4, Int.toNat (a + 1), none⟩ (.int .i64 (Y)) = w3 at BK HS HK HW ⊢
  go_wp2_with fail
  replace BK := Ya (Z27 BK.out)
  replace HS := Ya (SwR.drew HS.out)
  replace HK := Ya (Kept.drew HK.out)
  replace HW := Ya (Z4 HW.out)
  refine start_ (n := 30) (S := fun w' => w'.cell? ⟨g, 4, none⟩ = some (.slice (some ⟨g4, 0, none⟩) it.length c4) ∧ w'.cell? ⟨g, 5, none⟩ = some (.slice (some ⟨g5, 0, none⟩) wh.length c5) ∧ w'.cell? ⟨g4, a.toNat, none⟩ = some (.int .i64 Z) ∧ w'.cell? ⟨g4, (a + 1).toNat, none⟩ = some (.int .i64 Y)) (ds := [27, 29]) (YA 30 0) (by kernel_rfl) rfl rfl ⟨(Z24 BK.out 4).trans rfl, (Z24 BK.out 5).trans rfl, (SwR.at4 HS.out (a) Q20 Q25).1.trans (by rw [HV.out.1]), (SwR.at4 HS.out (a + 1) Q20 Q25).1.trans (by rw [HV.out.2])⟩ (fun hHeld => ?_)
  generalize World.drew _ = w4 at BK HS HK HW hHeld ⊢
  have hxs := (SwR.at5 HS.out (Z) Q20 Q25).1
  have hzs := (SwR.at5 HS.out (Z) Q20 Q25).2
  have hxt := (SwR.at5 (SwR.put5 HS.out Z a) (Y) Q20 Q25).1
  have hzt := (SwR.at5 (SwR.put5 HS.out Z a) (Y) Q20 Q25).2
  refine Yq 0 (some 82) (YA 30 1) rfl ?_
  refine Yq 1 (some 83) (YA 30 3) rfl ?_
  refine Yq 2 (some 84) (YA 30 7) rfl ?_
  refine Yq 4 (some 86) (YA 30 23) rfl ?_
  refine Yq 5 (some 87) (YA 30 55) rfl ?_
  refine Yq 6 (some 88) (YA 30 119) rfl ?_
  refine Yq 8 (some 90) (YA 30 375) rfl ?_
  refine Yq 11 (some 93) (YA 30 2423) rfl ?_
  refine Yq 12 (some 94) (YA 30 6519) rfl ?_
  refine Yq 13 (some 95) (YA 30 14711) rfl ?_
  refine Yq 15 (some 97) (YA 30 47479) rfl ?_
  refine Yq 16 (some 98) (YA 30 113015) rfl ?_
  refine Yq 17 (some 99) (YA 30 244087) rfl ?_
  refine Yq 19 (some 101) (YA 30 768375) rfl ?_
  refine Yq 20 (some 102) (YA 30 1816951) rfl ?_
  refine Yq 23 (some 105) (YA 30 10205559) rfl ?_
  refine Yq 24 (some 106) (YA 30 26982775) rfl ?_
  refine Yq 25 (some 107) (YA 30 60537207) rfl ?_
  refine Ys 3 (some 85) (YA 30 60537215) rfl hHeld Q10 ?_
  refine Ys 7 (some 89) (YA 30 60537343) rfl hHeld Q10 ?_
  refine Yq 9 (some 91) (YA 30 60537855) rfl ?_
  refine Ys 10 (some 92) (YA 30 60538879) rfl hHeld Q10 ?_
  refine Ys 14 (some 96) (YA 30 60555263) rfl hHeld Q10 ?_
  refine Ys 18 (some 100) (YA 30 60817407) rfl hHeld Q10 ?_
  refine Yq 21 (some 103) (YA 30 62914559) rfl ?_
  refine Ys 22 (some 104) (YA 30 67108863) rfl hHeld Q10 ?_
  refine Yq 26 (some 108) (YA 30 134217727) rfl ?_
  refine last_ (i := 27) (N := none) (YA 30 268435455) rfl rfl (by kernel_rfl) (by decide) (fun K hK => ?_)
  refine skip_ (w1 := ?_) (by rfl) rfl ?_ ?_
  rotate_left
  ·go_simp
   rfl
  refine hK.out _ _ ?_
  clear hK K
  refine Yq 28 (some 109) (YA 30 536870911) rfl ?_
  refine last_ (i := 29) (N := none) (YA 30 1073741823) rfl rfl (by kernel_rfl) (by decide) (fun K hK => ?_)
  refine skip_ (w1 := ?_) (by rfl) rfl ?_ ?_
  rotate_left
  ·go_simp
   rfl
  refine hK.out _ _ ?_
  clear hK K
  refine done_ (by kernel_rfl) ?_

  clear hxs hzs hxt hzt
  replace BK := Ya (show (World.setCell (World.setCell w4 ⟨g5, Int.toNat (Z), none⟩ (.int .i64 (a))) ⟨g5, Int.toNat (Y), none⟩ (.int .i64 (a + 1))).heap[g]? = _ from (blk_far (p := ⟨g5, Int.toNat (Y), none⟩) (blk_far (p := ⟨g5, Int.toNat (Z), none⟩) BK.out hne2.2 (.int .i64 (a))) hne2.2 (.int .i64 (a + 1))))
  replace HK := Ya (show Kept w (World.setCell (World.setCell w4 ⟨g5, Int.toNat (Z), none⟩ (.int .i64 (a))) ⟨g5, Int.toNat (Y), none⟩ (.int .i64 (a + 1))) (Ws g1 g2 g3 g4 g5) from (Kept.setCell (p := ⟨g5, Int.toNat (Y), none⟩) (Kept.setCell (p := ⟨g5, Int.toNat (Z), none⟩) HK.out (.inl (.inr (.inr rfl))) (.int .i64 (a))) (.inl (.inr (.inr rfl))) (.int .i64 (a + 1))))
  replace HW := Ya (show Below w0.heap.size w0 (World.setCell (World.setCell w4 ⟨g5, Int.toNat (Z), none⟩ (.int .i64 (a))) ⟨g5, Int.toNat (Y), none⟩ (.int .i64 (a + 1))) from (Z6 (j := Int.toNat (Y)) (v := .int .i64 (a + 1)) (Z6 (j := Int.toNat (Z)) (v := .int .i64 (a)) HW.out (SwR.ge HS.out).2) (SwR.ge HS.out).2))
  replace HS := Ya (show SwR (World.setCell (World.setCell w4 ⟨g5, Int.toNat (Z), none⟩ (.int .i64 (a))) ⟨g5, Int.toNat (Y), none⟩ (.int .i64 (a + 1))) w0.heap.size g0 c0 g1 c1 g2 c2 g3 c3 g4 c4 g5 c5 b D1 U1 P1 ((it.set a.toNat Z).set (a + 1).toNat Y) ((wh.set Z.toNat a).set Y.toNat (a + 1)) from (SwR.put5 (SwR.put5 HS.out (Z) (a)) (Y) (a + 1)))
  generalize World.setCell (World.setCell w4 ⟨g5, Int.toNat (Z), none⟩ (.int .i64 (a))) ⟨g5, Int.toNat (Y), none⟩ (.int .i64 (a + 1)) = w5 at BK HS HK HW ⊢
  go_wp2
  go_ret
  exact ⟨rfl, BK.out.trans HB0.out.symm, HS.out, HK.out, HW.out⟩

end Go.Proofs.Ytpfakdhfffehaaa.MFnExactSwapperAt
