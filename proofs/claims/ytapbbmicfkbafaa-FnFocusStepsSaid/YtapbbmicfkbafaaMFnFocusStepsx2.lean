import Derived.Test.YtapbbmicfkbafaaMFnFocusStepsx0
import Derived.Test.YtapbbmicfkbafaaMFnFocusStepsx1
namespace Go.Proofs.Ytapbbmicfkbafaa.MFnFocusSteps
open Go.RowKit Go.Proofs.YtapbbmicfkbafaaW.PrintWords Go.Proofs.YtapbbmicfkbafaaW.PrintLast Go.Proofs.YtapbbmicfkbafaaW.PrintMore
attribute [local go_sem] max2_int min2_int max_two min_two max_three min_three max_four min_four   
set_option linter.unusedVariables false
set_option linter.unusedSimpArgs false
open Go.Proofs.Ytapbbmicfkbafaa.FoW in
set_option maxHeartbeats 8000000 in
set_option maxRecDepth 100000 in
theorem impl_Focus_step.callsG (CS : Array Value) (T : TypeId) (hT : T ≠ 3 ∧ T ≠ 4) (w0 : World) (g g0 c0 g1 c1 g2 c2 g3 c3 : Nat) (b d : List Int) (u : List Bool) (p d' : List Int) (u' : List Bool) (p' : List Int) (r : Int) (w : World)
  (hs0 : CS[0]? = some (.slice (some ⟨g0, 0, none⟩) b.length c0)) (hs1 : CS[1]? = some (.slice (some ⟨g1, 0, none⟩) d.length c1)) (hs2 : CS[2]? = some (.slice (some ⟨g2, 0, none⟩) u.length c2)) (hs3 : CS[3]? = some (.slice (some ⟨g3, 0, none⟩) p.length c3))
  (hb : w.heap[g]? = some (.cells CS T (0, 0))) (hF : FoR w w0.heap.size g0 c0 g1 c1 g2 c2 g3 c3 b d u p) (hW : Below w0.heap.size w0 w) (h : stepF b d u p = some (d', u', p', r)) :
  Calls Try.prog 38 #[.pointer (some ⟨g, 0, none⟩)] w fun e w' => e = .returned (.int .i64 r) ∧ w'.heap[g]? = w.heap[g]? ∧ FoR w' w0.heap.size g0 c0 g1 c1 g2 c2 g3 c3 b d' u' p' ∧ Kept w w' (Wr g1 g2 g3) ∧ Below w0.heap.size w0 w' := by
 have hne := FoR.apart hF hb hT.1 hT.2
 have BK := Ya hb
 have HS0 := Ya hs0
 have HS1 := Ya hs1
 have HS2 := Ya hs2
 have HS3 := Ya hs3
 clear hs0 hs1 hs2 hs3
 have HB0 := Ya hb
 have HF := Ya hF
 have HK := Ya (Kept.refl w (Wr g1 g2 g3))
 have HW := Ya hW
 unfold stepF at h
 simp only at h
 by_cases hc : 0 ≤ rd p 0 ∧ rd p 0 < b.length ∧ b.length ≤ 1000 ∧ d.length = b.length ∧ u.length = b.length ∧ p.length = b.length + 1 ∧ -1000 ≤ rd d ((b.length : Int) - 1 - rd p 0) ∧ rd d ((b.length : Int) - 1 - rd p 0) ≤ 1000 ∧ -1000 ≤ rd b ((b.length : Int) - 1 - rd p 0) ∧ rd b ((b.length : Int) - 1 - rd p 0) ≤ 1000
 rotate_left
 ·rw [if_neg hc] at h; cases h
 rw [if_pos hc] at h
 obtain ⟨J, hJ⟩ : ∃ J, rd p 0 = J := ⟨_, rfl⟩
 rw [hJ] at h hc
 obtain ⟨I, hI⟩ : ∃ I, (b.length : Int) - 1 - J = I := ⟨_, rfl⟩
 rw [hI] at h hc
 obtain ⟨j0, j1, m0, l1, l2, l3, x0, x1, y0, y1⟩ := hc
 have HL := Ya (show (0 ≤ I ∧ I < b.length) ∧ I < d.length ∧ I < u.length ∧ J + 1 < p.length ∧ J < p.length ∧ 0 < p.length ∧ 0 ≤ J from ⟨⟨by omega, by omega⟩, by omega, by omega, by omega, by omega, by omega, by omega⟩)
 have HX := Ya (show (-1000 ≤ rd d I ∧ rd d I ≤ 1000) ∧ -1000 ≤ rd b I ∧ rd b I ≤ 1000 from ⟨⟨x0, x1⟩, y0, y1⟩)
 have k1 : wrap64 ((b.length : Int) - 1) = (b.length : Int) - 1 := by unfold wrap64; omega
 have k2 : wrap64 (J + 1) = J + 1 := by unfold wrap64; omega
 have k1' : IntKind.i64.wrap ((b.length : Int) - 1) = (b.length : Int) - 1 := (i64_w _).trans k1
 have k2' : IntKind.i64.wrap (J + 1) = J + 1 := (i64_w _).trans k2
 have k3 : wrap64 ((b.length : Int) - 1 - J) = I := by rw [← hI]; unfold wrap64; omega
 have k3' : IntKind.i64.wrap ((b.length : Int) - 1 - J) = I := (i64_w _).trans k3
 have b1 : (J == (b.length : Int)) = false := beq_eq_false_iff_ne.mpr (by omega)
 have b2 : (0 ≤ I) = True := eq_true (by omega)
 have b3 : (I < (u.length : Int)) = True := eq_true (by omega)
 have b4 : (I < (d.length : Int)) = True := eq_true (by omega)
 have b5 : (I < (b.length : Int)) = True := eq_true (by omega)
 have b6 : (0 ≤ J) = True := eq_true (by omega)
 have b7 : (J < (p.length : Int)) = True := eq_true (by omega)
 have b8 : (J + 1 < (p.length : Int)) = True := eq_true (by omega)
 have b9 : (0 ≤ J + 1) = True := eq_true (by omega)
 have b10 : (0 < p.length) = True := eq_true (by omega)
 have b11 : ((0 : Int) < (p.length : Int)) = True := eq_true (by omega)
 have HJ := Ya hJ
 obtain ⟨X, hX⟩ : ∃ X, (if rdOf false u I = true then rd d I + 1 else rd d I - 1) = X := ⟨_, rfl⟩
 rw [hX] at h
 have HH := Ya h
 have HXX := Ya hX
 clear hF hb hW h hJ hI hX j0 j1 m0 l1 l2 l3 x0 x1 y0 y1
 go_enter Try.func38, Try.ntmps38
 go_wp2_with fail
 replace BK := Ya (Z27 BK.out)
 replace HF := Ya (FoR.drew HF.out)
 replace HK := Ya (Kept.drew HK.out)
 replace HW := Ya (Z4 HW.out)
 refine start_ (n := 13) (S := fun w' => w'.cell? ⟨g, 0, none⟩ = some (.slice (some ⟨g0, 0, none⟩) b.length c0) ∧ w'.cell? ⟨g, 3, none⟩ = some (.slice (some ⟨g3, 0, none⟩) p.length c3) ∧ w'.cell? ⟨g3, 0, none⟩ = some (.int .i64 J)) (ds := []) (YA 13 0) (by kernel_rfl) rfl rfl ⟨(Z24 BK.out 0).trans HS0.out, (Z24 BK.out 3).trans HS3.out, (by rw [← HJ.out]; exact (FoR.at3 HF.out 0 (by decide) Q23).1)⟩ (fun hHeld => ?_)
 generalize World.drew _ = w1 at BK HF HK HW hHeld ⊢
 refine Yq 0 (some 6) (YA 13 1) rfl ?_
 refine Yq 1 (some 7) (YA 13 3) rfl ?_
 refine Yq 2 (some 8) (YA 13 7) rfl ?_
 refine Yq 5 (some 11) (YA 13 39) rfl ?_
 refine Yq 6 (some 12) (YA 13 103) rfl ?_
 refine Yq 7 (some 13) (YA 13 231) rfl ?_
 refine Ys 3 (some 9) (YA 13 239) rfl hHeld Q33 ?_
 refine Yq 4 (some 10) (YA 13 255) rfl ?_
 refine Yq 11 (some 3) (YA 13 2303) rfl ?_
 refine Ys 8 (some 14) (YA 13 2559) rfl hHeld Q33 ?_
 refine Yq 9 (some 15) (YA 13 3071) rfl ?_
 refine Ys 10 (some 16) (YA 13 4095) rfl hHeld Q33 ?_
 refine Yq 12 (some 4) (YA 13 8191) rfl ?_
 refine done_ (by kernel_rfl) ?_
 have hc0 := (Z24 BK.out 0).trans HS0.out
 have hc1 := (Z24 BK.out 1).trans HS1.out
 have hc2 := (Z24 BK.out 2).trans HS2.out
 have hc3 := (Z24 BK.out 3).trans HS3.out
 have hx := (FoR.at3 HF.out 0 (by decide) Q23).1
 have hz : World.frozen? _ ⟨g3, 0, none⟩ = false := (FoR.at3 HF.out 0 (by decide) Q23).2
 rw [show (0 : Int).toNat = 0 from rfl] at hx
 go_upto_region 6 with fail
 clear hx hz hc0 hc1 hc2 hc3
 replace BK := Ya (show (World.setCell w1 ⟨g3, 0, none⟩ (.int .i64 0)).heap[g]? = _ from blk_far (p := ⟨g3, 0, none⟩) BK.out hne.2.2.2 (.int .i64 0))
 replace HK := Ya (Kept.setCell HK.out (p := ⟨g3, 0, none⟩) (.inl (.inr (.inr rfl))) (.int .i64 0))
 replace HW := Ya (show Below w0.heap.size w0 (World.setCell w1 ⟨g3, 0, none⟩ (.int .i64 0)) from Z6 HW.out (FoR.ge HF.out).2.2.2)
 replace HF := Ya (show FoR (World.setCell w1 ⟨g3, 0, none⟩ (.int .i64 0)) w0.heap.size g0 c0 g1 c1 g2 c2 g3 c3 b d u (p.set 0 0) from FoR.put3 HF.out 0 0)
 generalize World.setCell w1 ⟨g3, 0, none⟩ (.int .i64 0) = w2 at BK HF HK HW ⊢
 have hc0 := (Z24 BK.out 0).trans HS0.out
 have hc1 := (Z24 BK.out 1).trans HS1.out
 have hc2 := (Z24 BK.out 2).trans HS2.out
 have hc3 := (Z24 BK.out 3).trans HS3.out
 have hx2 := (FoR.at2 HF.out I Q23 Q23).1
 go_upto_if 35 with fail
 go_cut [] (fun wc => Aside0 (wc.heap[g]? = some (.cells CS T (0, 0))) ∧ Aside0 (FoR wc w0.heap.size g0 c0 g1 c1 g2 c2 g3 c3 b (d.set I.toNat X) u (p.set 0 0)) ∧ Aside0 (Kept w wc (Wr g1 g2 g3)) ∧ Aside0 (Below w0.heap.size w0 wc))
 case first =>
  have hx1 := (FoR.at1 HF.out I Q23 Q23).1
  have hz1 := (FoR.at1 HF.out I Q23 Q23).2
  have n0_ := Ya (blk_far (p := ⟨g1, I.toNat, none⟩) BK.out hne.2.1 (.int .i64 X))
  have n1_ := Ya (FoR.put1 HF.out I X)
  have n2_ := Ya (Kept.setCell HK.out (p := ⟨g1, I.toNat, none⟩) (.inl (.inl rfl)) (.int .i64 X))
  have n3_ := Ya (Z6 (j := I.toNat) (v := .int .i64 X) HW.out (FoR.ge HF.out).2.1)
  cases hU : rdOf false u I
  ·have hv : rd d I - 1 = X := by have := HXX.out; rw [hU] at this; simpa using this
   have hw : wrap64 (rd d I - 1) = X := by rw [← hv]; have := HX.out; unfold wrap64; omega
   have hw' : IntKind.i64.wrap (rd d I - 1) = X := (i64_w _).trans hw
   clear hv
   rw [hU] at hx2
   go_wp2
   go_meet
   case rel => exact ⟨n0_, n1_, n2_, n3_⟩
  ·have hv : rd d I + 1 = X := by have := HXX.out; rw [hU] at this; simpa using this
   have hw : wrap64 (rd d I + 1) = X := by rw [← hv]; have := HX.out; unfold wrap64; omega
   have hw' : IntKind.i64.wrap (rd d I + 1) = X := (i64_w _).trans hw
   clear hv
   rw [hU] at hx2
   go_wp2
   go_meet
   case rel => exact ⟨n0_, n1_, n2_, n3_⟩
 case rest =>
  clear hx2 hc0 hc1 hc2 hc3 BK HF HK HW
  obtain ⟨BK, HF, HK, HW⟩ := hcut
  have HRD := Ya (show rd (d.set I.toNat X) I = X from by
   have := HL.out
   unfold rd
   rw [List.getD_eq_getElem?_getD, List.getElem?_set_self (by omega)]; rfl)
  go_upto_region 9 with fail
  go_cut [79] (fun v79 wc => ∃ t : Bool, v79 = .bool t ∧ Aside0 (t = decide (X = 0 ∨ X = rd b I - 1)) ∧ Aside0 (wc.heap[g]? = some (.cells CS T (0, 0))) ∧ Aside0 (FoR wc w0.heap.size g0 c0 g1 c1 g2 c2 g3 c3 b (d.set I.toNat X) u (p.set 0 0)) ∧ Aside0 (Kept w wc (Wr g1 g2 g3)) ∧ Aside0 (Below w0.heap.size w0 wc))
  case first =>
   have hw : wrap64 (rd b I - 1) = rd b I - 1 := by have := HX.out; unfold wrap64; omega
   have hw' : IntKind.i64.wrap (rd b I - 1) = rd b I - 1 := (i64_w _).trans hw
   by_cases z : X = 0
   ·have zb : (X == 0) = true := beq_iff_eq.mpr z
    have HT := Ya (Z39 (p := X = 0 ∨ X = rd b I - 1) (Or.inl z))
    clear z
    go_wp2_with fail
    replace BK := Ya (Z27 BK.out)
    replace HF := Ya (FoR.drew HF.out)
    replace HK := Ya (Kept.drew HK.out)
    replace HW := Ya (Z4 HW.out)
    refine start_ (n := 26) (S := fun w' => w'.cell? ⟨g, 0, none⟩ = some (.slice (some ⟨g0, 0, none⟩) b.length c0) ∧ w'.cell? ⟨g, 1, none⟩ = some (.slice (some ⟨g1, 0, none⟩) d.length c1) ∧ w'.cell? ⟨g1, I.toNat, none⟩ = some (.int .i64 X) ∧ w'.cell? ⟨g0, I.toNat, none⟩ = some (.int .i64 (rd b I))) (ds := []) (YA 26 0) (by kernel_rfl) rfl rfl ⟨(Z24 BK.out 0).trans HS0.out, (Z24 BK.out 1).trans HS1.out, ((FoR.at1 HF.out I Q23 Q47).1.trans (by rw [HRD.out])), (FoR.at0 HF.out I Q23 Q23).1⟩ (fun hHeld => ?_)
    generalize World.drew _ = w3 at BK HF HK HW hHeld ⊢
    refine Yq 0 (some 54) (YA 26 1) rfl ?_
    refine Yq 1 (some 55) (YA 26 3) rfl ?_
    refine Yq 2 (some 56) (YA 26 7) rfl ?_
    refine Yq 4 (some 58) (YA 26 23) rfl ?_
    refine Ys 3 (some 57) (YA 26 31) rfl hHeld Q8 ?_
    refine Yq 5 (some 59) (YA 26 63) rfl ?_
    refine Ys 6 (some 60) (YA 26 127) rfl hHeld Q8 ?_
    refine Yq 7 (some 61) (YA 26 255) rfl ?_
    refine Yq 8 (some 62) (YA 26 511) rfl ?_
    refine Yu 9 (some 63) (YA 26 1023) rfl ?_
    refine Yu 10 (some 64) (YA 26 2047) rfl ?_
    refine Yu 11 (some 65) (YA 26 4095) rfl ?_
    refine Yu 12 (some 66) (YA 26 8191) rfl ?_
    refine Yu 13 (some 67) (YA 26 16383) rfl ?_
    refine Yu 14 (some 68) (YA 26 32767) rfl ?_
    refine Yu 15 (some 69) (YA 26 65535) rfl ?_
    refine Yu 16 (some 70) (YA 26 131071) rfl ?_
    refine Yu 17 (some 71) (YA 26 262143) rfl ?_
    refine Yu 18 (some 72) (YA 26 524287) rfl ?_
    refine Yu 19 (some 73) (YA 26 1048575) rfl ?_
    refine Yu 20 (some 74) (YA 26 2097151) rfl ?_
    refine Yu 21 (some 75) (YA 26 4194303) rfl ?_
    refine Yu 22 (some 76) (YA 26 8388607) rfl ?_
    refine Yu 23 (some 77) (YA 26 16777215) rfl ?_
    refine Yu 24 (some 78) (YA 26 33554431) rfl ?_
    refine Yq 25 (some 79) (YA 26 67108863) rfl ?_
    refine done_ (by kernel_rfl) ?_
    go_step
    go_step
    go_meet
    case rel => exact ⟨true, rfl, ⟨HT.out.symm⟩, BK, HF, HK, HW⟩
   ·have zb : (X == 0) = false := beq_eq_false_iff_ne.mpr z
    have HT := Ya (show (X == rd b I - 1) = decide (X = 0 ∨ X = rd b I - 1) from by rw [Bool.eq_iff_iff]; simp [z])
    clear z
    go_wp2_with fail
    replace BK := Ya (Z27 BK.out)
    replace HF := Ya (FoR.drew HF.out)
    replace HK := Ya (Kept.drew HK.out)
    replace HW := Ya (Z4 HW.out)
    refine start_ (n := 26) (S := fun w' => w'.cell? ⟨g, 0, none⟩ = some (.slice (some ⟨g0, 0, none⟩) b.length c0) ∧ w'.cell? ⟨g, 1, none⟩ = some (.slice (some ⟨g1, 0, none⟩) d.length c1) ∧ w'.cell? ⟨g1, I.toNat, none⟩ = some (.int .i64 X) ∧ w'.cell? ⟨g0, I.toNat, none⟩ = some (.int .i64 (rd b I))) (ds := []) (YA 26 0) (by kernel_rfl) rfl rfl ⟨(Z24 BK.out 0).trans HS0.out, (Z24 BK.out 1).trans HS1.out, ((FoR.at1 HF.out I Q23 Q47).1.trans (by rw [HRD.out])), (FoR.at0 HF.out I Q23 Q23).1⟩ (fun hHeld => ?_)
    generalize World.drew _ = w3 at BK HF HK HW hHeld ⊢
    refine Yq 0 (some 54) (YA 26 1) rfl ?_
    refine Yq 1 (some 55) (YA 26 3) rfl ?_
    refine Yq 2 (some 56) (YA 26 7) rfl ?_
    refine Yq 4 (some 58) (YA 26 23) rfl ?_
    refine Ys 3 (some 57) (YA 26 31) rfl hHeld Q8 ?_
    refine Yq 5 (some 59) (YA 26 63) rfl ?_
    refine Ys 6 (some 60) (YA 26 127) rfl hHeld Q8 ?_
    refine Yq 7 (some 61) (YA 26 255) rfl ?_
    refine Yq 8 (some 62) (YA 26 511) rfl ?_
    refine Yq 9 (some 63) (YA 26 1023) rfl ?_
    refine Yq 10 (some 64) (YA 26 2047) rfl ?_
    refine Yq 11 (some 65) (YA 26 4095) rfl ?_
    refine Yq 13 (some 67) (YA 26 12287) rfl ?_
    refine Yq 16 (some 70) (YA 26 77823) rfl ?_
    refine Yq 17 (some 71) (YA 26 208895) rfl ?_
    refine Yq 18 (some 72) (YA 26 471039) rfl ?_
    refine Yq 20 (some 74) (YA 26 1519615) rfl ?_
    refine Ys 12 (some 66) (YA 26 1523711) rfl hHeld Q8 ?_
    refine Yq 14 (some 68) (YA 26 1540095) rfl ?_
    refine Ys 15 (some 69) (YA 26 1572863) rfl hHeld Q8 ?_
    refine Ys 19 (some 73) (YA 26 2097151) rfl hHeld Q8 ?_
    refine Yq 21 (some 75) (YA 26 4194303) rfl ?_
    refine Ys 22 (some 76) (YA 26 8388607) rfl hHeld Q8 ?_
    refine Yq 23 (some 77) (YA 26 16777215) rfl ?_
    refine Yq 24 (some 78) (YA 26 33554431) rfl ?_
    refine Yq 25 (some 79) (YA 26 67108863) rfl ?_
    refine done_ (by kernel_rfl) ?_
    go_step
    go_step
    go_meet
    case rel => exact ⟨_, rfl, HT, BK, HF, HK, HW⟩
  case rest =>
   clear BK HF HK HW
   obtain ⟨t, rfl, HT, BK, HF, HK, HW⟩ := hcut
   cases t
   ·have h := HH.out
    rw [if_neg (fun e => by have h_ := HT.out; rw [Z39 e] at h_; cases h_)] at h
    simp only [Option.some.injEq, Prod.mk.injEq] at h
    obtain ⟨rfl, rfl, rfl, rfl⟩ := h
    go_wp2
    go_ret
    exact ⟨rfl, BK.out.trans HB0.out.symm, HF.out, HK.out, HW.out⟩
   ·have h := HH.out
    rw [if_pos (Z31 HT.out.symm)] at h
    simp only [Option.some.injEq, Prod.mk.injEq] at h
    obtain ⟨rfl, rfl, rfl, rfl⟩ := h
    go_wp2_with fail
    replace BK := Ya (Z27 BK.out)
    replace HF := Ya (FoR.drew HF.out)
    replace HK := Ya (Kept.drew HK.out)
    replace HW := Ya (Z4 HW.out)
    refine start_ (n := 15) (S := fun w' => w'.cell? ⟨g, 2, none⟩ = some (.slice (some ⟨g2, 0, none⟩) u.length c2) ∧ w'.cell? ⟨g2, I.toNat, none⟩ = some (.bool (rdOf false u I))) (ds := [14]) (YA 15 0) (by kernel_rfl) rfl rfl ⟨(Z24 BK.out 2).trans HS2.out, (FoR.at2 HF.out I Q23 Q23).1⟩ (fun hHeld => ?_)
    generalize World.drew _ = w4 at BK HF HK HW hHeld ⊢
    have hxs := (FoR.at2 HF.out I Q23 Q23).1
    have hzs := (FoR.at2 HF.out I Q23 Q23).2
    refine Yq 0 (some 80) (YA 15 1) rfl ?_
    refine Yq 1 (some 81) (YA 15 3) rfl ?_
    refine Yq 2 (some 82) (YA 15 7) rfl ?_
    refine Yq 4 (some 84) (YA 15 23) rfl ?_
    refine Yq 5 (some 85) (YA 15 55) rfl ?_
    refine Yq 6 (some 86) (YA 15 119) rfl ?_
    refine Yq 7 (some 87) (YA 15 247) rfl ?_
    refine Yq 9 (some 89) (YA 15 759) rfl ?_
    refine Ys 3 (some 83) (YA 15 767) rfl hHeld Q34 ?_
    refine Ys 8 (some 88) (YA 15 1023) rfl hHeld Q34 ?_
    refine Yq 10 (some 90) (YA 15 2047) rfl ?_
    refine Ys 11 (some 91) (YA 15 4095) rfl hHeld Q34 ?_
    refine Yq 12 (some 92) (YA 15 8191) rfl ?_
    refine Yq 13 (some 93) (YA 15 16383) rfl ?_
    refine last_ (i := 14) (N := none) (YA 15 32767) rfl rfl (by kernel_rfl) (by decide) (fun K hK => ?_)
    refine skip_ (w1 := ?_) (by rfl) rfl ?_ ?_
    rotate_left
    ·go_simp
     rfl
    refine hK.out _ _ ?_
    clear hK K
    refine done_ (by kernel_rfl) ?_
    clear hxs hzs
    replace BK := Ya (show (World.setCell w4 ⟨g2, I.toNat, none⟩ (.bool (!rdOf false u I))).heap[g]? = _ from blk_far (p := ⟨g2, I.toNat, none⟩) BK.out hne.2.2.1 (.bool (!rdOf false u I)))
    replace HK := Ya (Kept.setCell HK.out (p := ⟨g2, I.toNat, none⟩) (.inl (.inr (.inl rfl))) (.bool (!rdOf false u I)))
    replace HW := Ya (show Below w0.heap.size w0 (World.setCell w4 ⟨g2, I.toNat, none⟩ (.bool (!rdOf false u I))) from Z6 HW.out (FoR.ge HF.out).2.2.1)
    replace HF := Ya (show FoR (World.setCell w4 ⟨g2, I.toNat, none⟩ (.bool (!rdOf false u I))) w0.heap.size g0 c0 g1 c1 g2 c2 g3 c3 b (d.set I.toNat X) (u.set I.toNat (!rdOf false u I)) (p.set 0 0) from FoR.put2 HF.out I _)
    generalize World.setCell w4 ⟨g2, I.toNat, none⟩ (.bool (!rdOf false u I)) = w5 at BK HF HK HW ⊢
    go_wp2_with fail
    replace BK := Ya (Z27 BK.out)
    replace HF := Ya (FoR.drew HF.out)
    replace HK := Ya (Kept.drew HK.out)
    replace HW := Ya (Z4 HW.out)
    refine start_ (n := 15) (S := fun w' => w'.cell? ⟨g, 3, none⟩ = some (.slice (some ⟨g3, 0, none⟩) p.length c3) ∧ w'.cell? ⟨g3, (J + 1).toNat, none⟩ = some (.int .i64 (rd (p.set 0 0) (J + 1)))) (ds := [14]) (YA 15 0) (by kernel_rfl) rfl rfl ⟨(Z24 BK.out 3).trans HS3.out, (FoR.at3 HF.out (J + 1) Q23 Q47).1⟩ (fun hHeld => ?_)
    generalize World.drew _ = w6 at BK HF HK HW hHeld ⊢
    have hxs := (FoR.at3 HF.out J Q23 Q47).1
    have hzs := (FoR.at3 HF.out J Q23 Q47).2
    refine Yq 0 (some 94) (YA 15 1) rfl ?_
    refine Yq 1 (some 95) (YA 15 3) rfl ?_
    refine Yq 2 (some 96) (YA 15 7) rfl ?_
    refine Yq 4 (some 98) (YA 15 23) rfl ?_
    refine Yq 5 (some 99) (YA 15 55) rfl ?_
    refine Yq 6 (some 100) (YA 15 119) rfl ?_
    refine Yq 7 (some 101) (YA 15 247) rfl ?_
    refine Yq 9 (some 103) (YA 15 759) rfl ?_
    refine Yq 10 (some 104) (YA 15 1783) rfl ?_
    refine Ys 3 (some 97) (YA 15 1791) rfl hHeld Q34 ?_
    refine Ys 8 (some 102) (YA 15 2047) rfl hHeld Q34 ?_
    refine Yq 11 (some 105) (YA 15 4095) rfl ?_
    refine Ys 12 (some 106) (YA 15 8191) rfl hHeld Q34 ?_
    refine Yq 13 (some 107) (YA 15 16383) rfl ?_
    refine last_ (i := 14) (N := none) (YA 15 32767) rfl rfl (by kernel_rfl) (by decide) (fun K hK => ?_)
    refine skip_ (w1 := ?_) (by rfl) rfl ?_ ?_
    rotate_left
    ·go_simp
     rfl
    refine hK.out _ _ ?_
    clear hK K
    refine done_ (by kernel_rfl) ?_
    clear hxs hzs
    replace BK := Ya (show (World.setCell w6 ⟨g3, J.toNat, none⟩ (.int .i64 (rd (p.set 0 0) (J + 1)))).heap[g]? = _ from blk_far (p := ⟨g3, J.toNat, none⟩) BK.out hne.2.2.2 (.int .i64 (rd (p.set 0 0) (J + 1))))
    replace HK := Ya (Kept.setCell HK.out (p := ⟨g3, J.toNat, none⟩) (.inl (.inr (.inr rfl))) (.int .i64 (rd (p.set 0 0) (J + 1))))
    replace HW := Ya (show Below w0.heap.size w0 (World.setCell w6 ⟨g3, J.toNat, none⟩ (.int .i64 (rd (p.set 0 0) (J + 1)))) from Z6 HW.out (FoR.ge HF.out).2.2.2)
    replace HF := Ya (show FoR (World.setCell w6 ⟨g3, J.toNat, none⟩ (.int .i64 (rd (p.set 0 0) (J + 1)))) w0.heap.size g0 c0 g1 c1 g2 c2 g3 c3 b (d.set I.toNat X) (u.set I.toNat (!rdOf false u I)) ((p.set 0 0).set J.toNat (rd (p.set 0 0) (J + 1))) from FoR.put3 HF.out J _)
    generalize World.setCell w6 ⟨g3, J.toNat, none⟩ (.int .i64 (rd (p.set 0 0) (J + 1))) = w7 at BK HF HK HW ⊢
    have hc0 := (Z24 BK.out 0).trans HS0.out
    have hc1 := (Z24 BK.out 1).trans HS1.out
    have hc2 := (Z24 BK.out 2).trans HS2.out
    have hc3 := (Z24 BK.out 3).trans HS3.out
    have hxs := (FoR.at3 HF.out (J + 1) Q23 Q68).1
    have hzs := (FoR.at3 HF.out (J + 1) Q23 Q68).2
    go_upto_region 13 with fail
    clear hc0 hc1 hc2 hc3
    clear hxs hzs
    replace BK := Ya (show (World.setCell w7 ⟨g3, (J + 1).toNat, none⟩ (.int .i64 (J + 1))).heap[g]? = _ from blk_far (p := ⟨g3, (J + 1).toNat, none⟩) BK.out hne.2.2.2 (.int .i64 (J + 1)))
    replace HK := Ya (Kept.setCell HK.out (p := ⟨g3, (J + 1).toNat, none⟩) (.inl (.inr (.inr rfl))) (.int .i64 (J + 1)))
    replace HW := Ya (show Below w0.heap.size w0 (World.setCell w7 ⟨g3, (J + 1).toNat, none⟩ (.int .i64 (J + 1))) from Z6 HW.out (FoR.ge HF.out).2.2.2)
    replace HF := Ya (show FoR (World.setCell w7 ⟨g3, (J + 1).toNat, none⟩ (.int .i64 (J + 1))) w0.heap.size g0 c0 g1 c1 g2 c2 g3 c3 b (d.set I.toNat X) (u.set I.toNat (!rdOf false u I)) (((p.set 0 0).set J.toNat (rd (p.set 0 0) (J + 1))).set (J + 1).toNat (J + 1)) from FoR.put3 HF.out (J + 1) _)
    generalize World.setCell w7 ⟨g3, (J + 1).toNat, none⟩ (.int .i64 (J + 1)) = w8 at BK HF HK HW ⊢
    go_wp2
    go_ret
    exact ⟨rfl, BK.out.trans HB0.out.symm, HF.out, HK.out, HW.out⟩
open Go.Proofs.Ytapbbmicfkbafaa.FoW in
theorem impl_Focus_step.calls (w0 : World) (g g0 c0 g1 c1 g2 c2 g3 c3 : Nat) (b d : List Int) (u : List Bool) (p d' : List Int) (u' : List Bool) (p' : List Int) (r : Int) (w : World)
  (hb : w.heap[g]? = some (.cells #[.slice (some ⟨g0, 0, none⟩) b.length c0, .slice (some ⟨g1, 0, none⟩) d.length c1, .slice (some ⟨g2, 0, none⟩) u.length c2, .slice (some ⟨g3, 0, none⟩) p.length c3] 33 (0, 0))) (hF : FoR w w0.heap.size g0 c0 g1 c1 g2 c2 g3 c3 b d u p) (hW : Below w0.heap.size w0 w) (h : stepF b d u p = some (d', u', p', r)) :
  Calls Try.prog 38 #[.pointer (some ⟨g, 0, none⟩)] w fun e w' => e = .returned (.int .i64 r) ∧ w'.heap[g]? = w.heap[g]? ∧ FoR w' w0.heap.size g0 c0 g1 c1 g2 c2 g3 c3 b d' u' p' ∧ Kept w w' (Wr g1 g2 g3) ∧ Below w0.heap.size w0 w' :=
 impl_Focus_step.callsG _ _ (by decide) w0 g g0 c0 g1 c1 g2 c2 g3 c3 b d u p d' u' p' r w rfl rfl rfl rfl hb hF hW h
set_option maxHeartbeats 8000000 in
set_option maxRecDepth 100000 in
theorem impl_Focus_step.callsEnd (CS : Array Value) (T : TypeId) (g g3 n c0 lp c3 : Nat) (A0 : Option Addr) (w : World)
  (hs0 : CS[0]? = some (.slice A0 n c0)) (hs3 : CS[3]? = some (.slice (some ⟨g3, 0, none⟩) lp c3)) (hl : 0 < lp) (hm : n ≤ 1000)
  (hb : w.heap[g]? = some (.cells CS T (0, 0))) (hp : w.cell? ⟨g3, 0, none⟩ = some (.int .i64 (n : Int))) :
  Calls Try.prog 38 #[.pointer (some ⟨g, 0, none⟩)] w fun e w' => e = .returned (.int .i64 (-1)) ∧ Below w.heap.size w w' := by
 have BK := Ya hb
 have HP := Ya hp
 have HW := Ya (Below.refl w.heap.size w)
 have b10 : (0 < lp) = True := eq_true hl
 have b11 : ((0 : Int) < (lp : Int)) = True := eq_true (by omega)
 clear hb hp
 go_enter Try.func38, Try.ntmps38
 go_wp2_with fail
 replace BK := Ya (Z27 BK.out)
 replace HP := Ya (show w.drew.cell? ⟨g3, 0, none⟩ = some (.int .i64 (n : Int)) from HP.out)
 replace HW := Ya (Z4 HW.out)
 refine start_ (n := 13) (S := fun w' => w'.cell? ⟨g, 0, none⟩ = some (.slice A0 n c0) ∧ w'.cell? ⟨g, 3, none⟩ = some (.slice (some ⟨g3, 0, none⟩) lp c3) ∧ w'.cell? ⟨g3, 0, none⟩ = some (.int .i64 (n : Int))) (ds := []) (YA 13 0) (by kernel_rfl) rfl rfl ⟨(Z24 BK.out 0).trans hs0, (Z24 BK.out 3).trans hs3, HP.out⟩ (fun hHeld => ?_)
 generalize World.drew _ = w1 at BK HP HW hHeld ⊢
 refine Yq 0 (some 6) (YA 13 1) rfl ?_
 refine Yq 1 (some 7) (YA 13 3) rfl ?_
 refine Yq 2 (some 8) (YA 13 7) rfl ?_
 refine Yq 5 (some 11) (YA 13 39) rfl ?_
 refine Yq 6 (some 12) (YA 13 103) rfl ?_
 refine Yq 7 (some 13) (YA 13 231) rfl ?_
 refine Ys 3 (some 9) (YA 13 239) rfl hHeld Q33 ?_
 refine Yq 4 (some 10) (YA 13 255) rfl ?_
 refine Yq 11 (some 3) (YA 13 2303) rfl ?_
 refine Ys 8 (some 14) (YA 13 2559) rfl hHeld Q33 ?_
 refine Yq 9 (some 15) (YA 13 3071) rfl ?_
 refine Ys 10 (some 16) (YA 13 4095) rfl hHeld Q33 ?_
 refine Yq 12 (some 4) (YA 13 8191) rfl ?_
 refine done_ (by kernel_rfl) ?_
 go_wp2
 go_ret
 exact ⟨rfl, HW.out⟩
mutual
def impl_focusAt.l0 : Nat → Int → Int → List Int → List Int → List Bool → List Int → Option (List Int × List Int × List Bool × List Int)
 | 0, _, _, _, _, _, _ => none
 | k + 1, n, i, b, d, u, p => if i < n then ((Go.Proofs.Ytapbbmicfkbafaa.FoW.stepF b d u p).bind fun r => (impl_focusAt.l0 k n (wrap64 (i + 1)) b r.1 r.2.1 r.2.2.1)) else (some (b, d, u, p))
end
def impl_focusAt.f (k : Nat) (l0 : List Int) (a1 : Int) : Option (List Int × List Int × List Bool × List Int) := (impl_startFocus.f k l0).bind fun t => (impl_focusAt.l0 k a1 0 t.1 t.2.1 t.2.2.1 t.2.2.2)
theorem impl_focusAt.mono_l : ∀ k, (∀ y0 y1 y2 y3 y4 y5, LeO (impl_focusAt.l0 k y0 y1 y2 y3 y4 y5) (impl_focusAt.l0 (k + 1) y0 y1 y2 y3 y4 y5))
 | 0 => fun _ _ _ _ _ _ r h => by simp [impl_focusAt.l0] at h
 | k + 1 => by
  have ih0 := impl_focusAt.mono_l k
  ·intro y0 y1 y2 y3 y4 y5
   unfold impl_focusAt.l0
   repeat' first
   | (with_reducible exact ih0 _ _ _ _ _ _)
   | (with_reducible exact impl_startFocus.mono _ _)
   | (with_reducible exact LeO.refl _)
   | (with_reducible exact LeO.none _)
   | (with_reducible refine LeO.ite ?_ ?_)
   | (with_reducible refine LeO.bind ?_ (fun _ => ?_))
   | exact ih0 _ _ _ _ _ _
   | exact impl_startFocus.mono _ _
   | exact LeO.none _
   | refine LeO.ite ?_ ?_
   | refine LeO.bind ?_ (fun _ => ?_)
theorem impl_focusAt.mono : ∀ a0 a1 k, LeO (impl_focusAt.f k a0 a1) (impl_focusAt.f (k + 1) a0 a1) := by
 intro a0 a1 k
 have ih0 := impl_focusAt.mono_l k
 unfold impl_focusAt.f
 repeat' first
   | (with_reducible exact ih0 _ _ _ _ _ _)
   | (with_reducible exact impl_startFocus.mono _ _)
   | (with_reducible exact LeO.refl _)
   | (with_reducible exact LeO.none _)
   | (with_reducible refine LeO.ite ?_ ?_)
   | (with_reducible refine LeO.bind ?_ (fun _ => ?_))
   | exact ih0 _ _ _ _ _ _
   | exact impl_startFocus.mono _ _
   | exact LeO.none _
   | refine LeO.ite ?_ ?_
   | refine LeO.bind ?_ (fun _ => ?_)
open Go.Proofs.Ytapbbmicfkbafaa.FoW in
set_option maxHeartbeats 8000000 in
set_option maxRecDepth 100000 in
theorem impl_focusAt.calls (k : Nat) (A0_ : Option Addr) (c0_ : Nat) (l0 : List Int) (a1 : Int) (r1 : List Int) (r2 : List Int) (r3 : List Bool) (r4 : List Int) (w : World) (hr0 : Kd.C (Kd.int .i64) w A0_ l0.length l0) (hc0 : l0.length ≤ c0_) (h : impl_focusAt.f k l0 a1 = some (r1, r2, r3, r4)) :
  Calls Try.prog 42 #[.slice A0_ l0.length c0_, .int .i64 a1] w fun e w' => ∃ v0_ v1_ v2_ v3_ : Value, e = .returned (.agg #[v0_, v1_, v2_, v3_]) ∧ Kd.R (Kd.int .i64) 3 w' w.heap.size (fun k_ => some k_ ≠ (v1_ : Value).ownBlock ∧ some k_ ≠ (v3_ : Value).ownBlock) v0_ r1 ∧ Kd.R (Kd.int .i64) 3 w' w.heap.size (fun k_ => some k_ ≠ (v0_ : Value).ownBlock ∧ some k_ ≠ (v3_ : Value).ownBlock) v1_ r2 ∧ Kd.R Kd.bool 4 w' w.heap.size (fun _ => True) v2_ r3 ∧ Kd.R (Kd.int .i64) 3 w' w.heap.size (fun k_ => some k_ ≠ (v0_ : Value).ownBlock ∧ some k_ ≠ (v1_ : Value).ownBlock) v3_ r4 ∧ Below w.heap.size w w' := by
 have hu := Try.underlying33
 unfold impl_focusAt.f at h
 obtain ⟨⟨b, D1, U1, P1⟩, h1, h⟩ := Z37.mp h
 have A1_ := Ya h1
 have H' := Ya h
 have HR0 := Ya hr0
 have HC0 := Ya hc0
 have HB := Ya (Below.refl w.heap.size w)
 clear h h1 hr0 hc0
 go_enter Try.func42, Try.ntmps42
 go_upto_region 3 with (first | ((with_reducible refine gate_dst (N := 4) rfl ?_); refine Yx 4 #[.slice none 0 0, .slice none 0 0, .slice none 0 0, .slice none 0 0] 33 ?_; intro gb4 hg w34 hbox hb; have n0_ := Yh hb; have BK4 := Ya hbox; have GE4 := Ya (by rw [hg]; exact Z7 Q0 : w.heap.size ≤ gb4); clear HB; have HB := n0_; clear n0_; clear hb hbox hg) | ((with_reducible refine gate_callee (f := 36) rfl ?_); refine Yz 7 Try.func36 #[.slice A0_ l0.length c0_] ?_ (hargs := Q49); (with_reducible refine (impl_startFocus.calls k _ _ l0 b D1 U1 P1 _ ?s1 ?s2 A1_.out).mono ?_); (case s1 => exact Q69); (case s2 => exact HC0.out); rintro e w2 ⟨v0, v1, v2, v3, rfl, ho0, ho1, ho2, ho3, hb⟩; refine ⟨_, rfl, ?_⟩; have hFV : FoV w2 w.heap.size v0 v1 v2 v3 b D1 U1 P1 := ⟨Kd.R_lower ho0 (Z7 Q0), Kd.R_lower ho1 (Z7 Q0), Kd.R_lower ho2 (Z7 Q0), Kd.R_lower ho3 (Z7 Q0)⟩; obtain ⟨A0, c0, rfl⟩ := Z19 ho0; obtain ⟨A1, c1', rfl⟩ := Z19 ho1; obtain ⟨A2, c2, rfl⟩ := Z19 ho2; obtain ⟨A3, c3, rfl⟩ := Z19 ho3; have n0_ := Yh hb; have n1_ := Ya (Z29 (by first | exact BK4.out | (exact Z27 BK4.out)) hb); have HV := Ya hFV; clear HB BK4 ho0 ho1 ho2 ho3 hb hFV; have HB := n0_; have BK4 := n1_; clear n0_ n1_) | ((with_reducible refine gate_dst (N := 5) rfl ?_); refine Yx 5 #[.slice none 0 0, .slice none 0 0, .slice none 0 0, .slice none 0 0] 33 ?_; intro gb5 hg w35 hbox hb; have n0_ := Yh hb; have BK := Ya hbox; have GE5 := Ya (by rw [hg]; exact Z7 Q0 : w.heap.size ≤ gb5); have NE := Ya (by rw [hg]; exact Nat.ne_of_lt (blk_lt BK4.out) : gb4 ≠ gb5); have n1_ := Ya (FoV.below (by (with_reducible repeat (first | apply FoV.drewN | apply FoV.drew)); exact HV.out) hb); have n2_ := Ya (Z29 BK4.out hb); clear HV BK4; have HV := n1_; have BK4 := n2_; clear n1_ n2_; clear HB; have HB := n0_; clear n0_; have hd0 := (Z24 BK.out 0).trans rfl; have hd1 := (Z24 BK.out 1).trans rfl; have hd2 := (Z24 BK.out 2).trans rfl; have hd3 := (Z24 BK.out 3).trans rfl; have hf0 := Z25 BK.out 0; have hf1 := Z25 BK.out 1; have hf2 := Z25 BK.out 2; have hf3 := Z25 BK.out 3; clear hb hbox hg))
 replace HV := Ya (FoV.set4 HV.out BK.out (by decide) (by decide) (.slice A0 b.length c0) (.slice A1 D1.length c1') (.slice A2 U1.length c2) (.slice A3 P1.length c3))
 replace BK := Ya (set4_at BK.out (.slice A0 b.length c0) (.slice A1 D1.length c1') (.slice A2 U1.length c2) (.slice A3 P1.length c3))
 replace BK4 := Ya ((set4_far _ gb5 (.slice A0 b.length c0) (.slice A1 D1.length c1') (.slice A2 U1.length c2) (.slice A3 P1.length c3) gb4 NE.out).trans BK4.out)
 replace HB := Ya (set4_below HB.out GE5.out (.slice A0 b.length c0) (.slice A1 D1.length c1') (.slice A2 U1.length c2) (.slice A3 P1.length c3))
 clear hd0 hd1 hd2 hd3 hf0 hf1 hf2 hf3
 unfold set4 at BK HV BK4 HB
 generalize ((((w35.setCell ⟨gb5, 0, none⟩ (.slice A0 b.length c0)).setCell ⟨gb5, 1, none⟩ (.slice A1 D1.length c1')).setCell ⟨gb5, 2, none⟩ (.slice A2 U1.length c2)).setCell ⟨gb5, 3, none⟩ (.slice A3 P1.length c3)) = w4 at BK HV BK4 HB ⊢
 go_loopg [9] k (fun kq v9 w' => ∃ (i : Int) (d : List Int) (u : List Bool) (p : List Int), v9 = .int .i64 i ∧ Aside0 (impl_focusAt.l0 kq a1 i b d u p = some (r1, r2, r3, r4)) ∧ Aside0 (kq ≤ k) ∧ Aside0 (d.length = D1.length ∧ u.length = U1.length ∧ p.length = P1.length) ∧ Aside0 (w'.heap[gb5]? = some (.cells #[.slice A0 b.length c0, .slice A1 D1.length c1', .slice A2 U1.length c2, .slice A3 P1.length c3] 33 (0, 0))) ∧ Aside0 (w'.heap[gb4]? = some (.cells #[.slice none 0 0, .slice none 0 0, .slice none 0 0, .slice none 0 0] 33 (0, 0))) ∧ Aside0 (FoV w' w.heap.size (.slice A0 b.length c0) (.slice A1 D1.length c1') (.slice A2 U1.length c2) (.slice A3 P1.length c3) b d u p) ∧ Aside0 (Below w.heap.size w w'))
 case atStart => exact ⟨0, D1, U1, P1, by first | rfl | (simp; done), H', ⟨Nat.le_refl _⟩, ⟨rfl, rfl, rfl⟩, BK, BK4, HV, HB⟩
 case round =>
  clear H' BK HV BK4 HB
  obtain ⟨i, d, u, p, rfl, HA, HK1, HL, BK, BK4, HV, HB⟩ := hrel
  cases gk with
  | zero => exact absurd HA.out (by simp [impl_focusAt.l0])
  | succ k1 =>
   have H := HA.out
   clear HA
   simp only [impl_focusAt.l0] at H
   by_cases c1 : i < a1
   rotate_left
   ·rw [if_neg c1] at H
    have b1 : decide (i < a1) = false := Z38 c1
    clear c1
    simp only [Option.some.injEq, Prod.mk.injEq] at H
    obtain ⟨rfl, rfl, rfl, rfl⟩ := H
    have hc0 := (Z24 BK.out 0).trans rfl
    have hc1 := (Z24 BK.out 1).trans rfl
    have hc2 := (Z24 BK.out 2).trans rfl
    have hc3 := (Z24 BK.out 3).trans rfl
    have hf0 := Z25 BK.out 0
    have hf1 := Z25 BK.out 1
    have hf2 := Z25 BK.out 2
    have hf3 := Z25 BK.out 3
    have hd0 := (Z24 BK4.out 0).trans rfl
    have hd1 := (Z24 BK4.out 1).trans rfl
    have hd2 := (Z24 BK4.out 2).trans rfl
    have hd3 := (Z24 BK4.out 3).trans rfl
    have he0 := Z25 BK4.out 0
    have he1 := Z25 BK4.out 1
    have he2 := Z25 BK4.out 2
    have he3 := Z25 BK4.out 3
    have hne := NE.out
    have hne' := NE.out.symm
    go_wp2
    refine bodyPost_ret (results_cell_row rfl _ _ gb4 33 #[.slice A0 b.length c0, .slice A1 D1.length c1', .slice A2 U1.length c2, .slice A3 P1.length c3] (0, 0) _ rfl (by have h_ := set4_at BK4.out (.slice A0 b.length c0) (.slice A1 D1.length c1') (.slice A2 U1.length c2) (.slice A3 P1.length c3); unfold set4 at h_; exact h_) hu rfl (by kernel_rfl)) rfl ?_
    have hv := FoV.set4 HV.out BK4.out (by decide) (by decide) (.slice A0 b.length c0) (.slice A1 D1.length c1') (.slice A2 U1.length c2) (.slice A3 P1.length c3)
    have hbb := set4_below HB.out GE4.out (.slice A0 b.length c0) (.slice A1 D1.length c1') (.slice A2 U1.length c2) (.slice A3 P1.length c3)
    unfold set4 at hv hbb
    exact ⟨_, _, _, _, rfl, hv.r0, hv.r1, hv.r2, hv.r3, hbb⟩
   rw [if_pos c1] at H
   have b1 : decide (i < a1) = true := Z39 c1
   obtain ⟨⟨d', u', p', r⟩, hs, H⟩ := Z37.mp H
   obtain ⟨hd, hu', hp⟩ := HL.out
   have hbk := BK.out
   rw [← hd, ← hu', ← hp] at hbk
   have HBK := Ya hbk
   clear hbk c1
   have HV2 : Aside0 (FoV _ w.heap.size (.slice A0 b.length c0) (.slice A1 d.length c1') (.slice A2 u.length c2) (.slice A3 p.length c3) b d u p) := ⟨by have := HV.out; rw [← hd, ← hu', ← hp] at this; exact this⟩
   have H' := Ya H
   have HS := Ya hs
   obtain ⟨hl, hl0, hl1, hl2, hl3⟩ := stepF_len hs
   have HL2 := Ya hl
   obtain ⟨g0, q0, g1, q1, g2, q2, g3, q3, e0, e1, e2, e3, hF⟩ := FoR.of HV2.out.r0 HV2.out.r1 HV2.out.r2 HV2.out.r3 hl0 hl1 hl2 hl3
   injection e0 with x0 _ z0
   injection e1 with x1 _ z1
   injection e2 with x2 _ z2
   injection e3 with x3 _ z3
   subst x0 z0 x1 z1 x2 z2 x3 z3
   have HF := Ya hF
   clear H hs hl hl0 hl1 hl2 hl3 hF hd hu' hp HV HV2
   go_wp2_with (first | ((with_reducible refine gate_callee (f := 38) rfl ?_); refine Yz 11 Try.func38 #[.pointer (some ⟨gb5, 0, none⟩)] ?_ (hargs := Q49); (with_reducible refine (impl_Focus_step.calls w gb5 g0 c0 g1 c1' g2 c2 g3 c3 b d u p d' u' p' r _ HBK.out HF.out HB.out HS.out).mono ?_); rintro e w7 ⟨rfl, hk1, hk2, hk3, hk4⟩; refine ⟨_, rfl, ?_⟩; have ap_ := FoR.apart HF.out BK4.out (by decide) (by decide); have n1_ := Ya (blk_kept BK4.out hk3 (fun hs_ => by rcases hs_ with e | e | e; exact ap_.2.1 e; exact ap_.2.2.1 e; exact ap_.2.2.2 e)); have n0_ := Ya (hk1.trans BK.out); clear HBK BK HF BK4 HB ap_; have BK := n0_; have HF := Ya hk2; have BK4 := n1_; have HB := Ya hk4; clear n0_ n1_ hk1 hk2 hk3 hk4; have hv := FoR.back HF.out; have hV7 : FoV w7 w.heap.size (.slice (some ⟨g0, 0, none⟩) b.length c0) (.slice (some ⟨g1, 0, none⟩) d'.length c1') (.slice (some ⟨g2, 0, none⟩) u'.length c2) (.slice (some ⟨g3, 0, none⟩) p'.length c3) b d' u' p' := ⟨hv.1, hv.2.1, hv.2.2.1, hv.2.2.2⟩; rw [HL2.out.1, HL2.out.2.1, HL2.out.2.2, HL.out.1, HL.out.2.1, HL.out.2.2] at hV7; have HV := Ya hV7; clear hv hV7))
   go_roundg k1
   case measure => have := HK1.out; omega
   case rel => exact ⟨_, d', u', p', by first | rfl | (simp; done), H', ⟨Q45⟩, ⟨by obtain ⟨a_, b_, c_⟩ := HL2.out; obtain ⟨x_, y_, z_⟩ := HL.out; exact ⟨a_.trans x_, b_.trans y_, c_.trans z_⟩⟩, BK, BK4, HV, HB⟩
def impl_mixedRank.f : Nat → List Int → List Int → Option (Int)
 | 0, _, _ => none
 | k + 1, l0, l1 => if (l1.length : Int) = 0 then (some 0) else (if 1 ≤ (l0.length : Int) then ((impl_size.f k (l0.drop 1)).bind fun t137 => (if 1 ≤ (l1.length : Int) then ((impl_mixedRank.f k (l0.drop 1) (l1.drop 1)).bind fun t140 => (if 0 < (l1.length : Int) then (if (Int.tmod (rd l1 0) 2) = 1 then (some (wrap64 ((wrap64 ((rd l1 0) * t137)) + (wrap64 ((wrap64 (t137 - 1)) - t140))))) else (some (wrap64 ((wrap64 ((rd l1 0) * t137)) + t140)))) else (none))) else (none))) else (none))
theorem impl_mixedRank.mono_l : ∀ k, (∀ y0 y1, LeO (impl_mixedRank.f k y0 y1) (impl_mixedRank.f (k + 1) y0 y1))
 | 0 => fun _ _ r h => by simp [impl_mixedRank.f] at h
 | k + 1 => by
  have ih0 := impl_mixedRank.mono_l k
  ·intro y0 y1
   unfold impl_mixedRank.f
   repeat' first
   | (with_reducible exact ih0 _ _)
   | (with_reducible exact impl_size.mono _ _)
   | (with_reducible exact LeO.refl _)
   | (with_reducible exact LeO.none _)
   | (with_reducible refine LeO.ite ?_ ?_)
   | (with_reducible refine LeO.bind ?_ (fun _ => ?_))
   | exact ih0 _ _
   | exact impl_size.mono _ _
   | exact LeO.none _
   | refine LeO.ite ?_ ?_
   | refine LeO.bind ?_ (fun _ => ?_)
theorem impl_mixedRank.mono : ∀ a0 a1 k, LeO (impl_mixedRank.f k a0 a1) (impl_mixedRank.f (k + 1) a0 a1) := by
 intro a0 a1 k
 have ih0 := impl_mixedRank.mono_l k
 exact ih0 a0 a1
def impl_mixedRank.T3 : Bool × List (List Nat × List Nat) := (true, [([], []), ([0], [0]), ([1], [1]), ([], []), ([3], [3]), ([], []), ([5], [5]), ([4, 6, 2], [4, 6]), ([2, 7, 0, 1, 2], [2]), ([7, 8, 0, 1, 2, 3, 4, 5, 6, 7, 8], [7])])
def impl_mixedRank.B3 : List Nat := [0, 1, 3, 0, 8, 0, 32, 127, 255, 511]
theorem impl_mixedRank.tab3 : rtab .any (opsOf Try.f47 3) = impl_mixedRank.T3 := by kernel_rfl
theorem impl_mixedRank.bits3 : waitsOk impl_mixedRank.T3.2 impl_mixedRank.B3 = true := by kernel_rfl
set_option maxHeartbeats 8000000 in
set_option maxRecDepth 100000 in
theorem impl_mixedRank.calls (k : Nat) : ∀ (A0 : Option Addr) (c0 : Nat) (l0 : List Int) (A1 : Option Addr) (c1 : Nat) (l1 : List Int) (r : Int) (w : World) (hr0 : Kd.C (Kd.int .i64) w A0 l0.length l0) (hc0 : l0.length ≤ c0) (hr1 : Kd.C (Kd.int .i64) w A1 l1.length l1) (hc1 : l1.length ≤ c1) (h : impl_mixedRank.f k l0 l1 = some r),
  Calls Try.prog 47 #[.slice A0 l0.length c0, .slice A1 l1.length c1] w fun e w' => e = .returned (.int .i64 r) ∧ Below w.heap.size w w' := by
 induction k using Nat.strongRecOn with
 | _ k ih =>
 intro A0 c0 l0 A1 c1 l1 r w hr0 hc0 hr1 hc1 h
 cases k with
 | zero => exact absurd h (by simp [impl_mixedRank.f])
 | succ k =>
 simp only [impl_mixedRank.f] at h
 have HR0 := Ya hr0
 have HC0 := Ya hc0
 clear hr0 hc0
 have HR1 := Ya hr1
 have HC1 := Ya hc1
 clear hr1 hc1
 have HB := Ya (Below.refl w.heap.size w)
 have H : (if (l1.length : Int) = 0 then (some 0) else (if 1 ≤ (l0.length : Int) then ((impl_size.f k (l0.drop 1)).bind fun t137 => (if 1 ≤ (l1.length : Int) then ((impl_mixedRank.f k (l0.drop 1) (l1.drop 1)).bind fun t140 => (if 0 < (l1.length : Int) then (if (Int.tmod (rd l1 0) 2) = 1 then (some (wrap64 ((wrap64 ((rd l1 0) * t137)) + (wrap64 ((wrap64 (t137 - 1)) - t140))))) else (some (wrap64 ((wrap64 ((rd l1 0) * t137)) + t140)))) else (none))) else (none))) else (none))) = some r := h
 clear h
 by_cases c3 : (l1.length : Int) = 0
 ·rw [if_pos c3] at H
  have c3b0 : ((l1.length : Int) == 0) = true := beq_iff_eq.mpr c3
  have c3b1 : ((l1.length : Int) != 0) = false := bne_eq_false_iff_eq.mpr c3
  clear c3
  obtain rfl := Option.some.inj H
  go_enter Try.func47, Try.ntmps47
  go_wp2
  go_ret
  exact ⟨Q1, Q12⟩
 ·rw [if_neg c3] at H
  have c3b0 : ((l1.length : Int) == 0) = false := beq_eq_false_iff_ne.mpr c3
  have c3b1 : ((l1.length : Int) != 0) = true := bne_iff_ne.mpr c3
  have c3b2 : ¬ (l1 = []) := fun h_ => c3 (by rw [h_]; rfl)
  by_cases c4 : 1 ≤ (l0.length : Int)
  ·rw [if_pos c4] at H
   have c4b0 := eq_true c4
   have c4b1 := Z39 c4
   have HLEc4 := Ya c4
   clear c4
   replace H := Z37.mp H
   obtain ⟨t137, A50, H⟩ := H
   replace H : (if 1 ≤ (l1.length : Int) then ((impl_mixedRank.f k (l0.drop 1) (l1.drop 1)).bind fun t140 => (if 0 < (l1.length : Int) then (if (Int.tmod (rd l1 0) 2) = 1 then (some (wrap64 ((wrap64 ((rd l1 0) * t137)) + (wrap64 ((wrap64 (t137 - 1)) - t140))))) else (some (wrap64 ((wrap64 ((rd l1 0) * t137)) + t140)))) else (none))) else (none)) = some r := H
   have A5 := Ya A50
   clear A50
   have c6b0 := eq_true (Z31 Q2 : 1 ≤ (l0.length : Int))
   by_cases c7 : 1 ≤ (l1.length : Int)
   ·rw [if_pos c7] at H
    have c7b0 := eq_true c7
    have c7b1 := Z39 c7
    have HLEc7 := Ya c7
    clear c7
    replace H := Z37.mp H
    obtain ⟨t140, A80, H⟩ := H
    replace H : (if 0 < (l1.length : Int) then (if (Int.tmod (rd l1 0) 2) = 1 then (some (wrap64 ((wrap64 ((rd l1 0) * t137)) + (wrap64 ((wrap64 (t137 - 1)) - t140))))) else (some (wrap64 ((wrap64 ((rd l1 0) * t137)) + t140)))) else (none)) = some r := H
    have A8 := Ya A80
    clear A80
    by_cases c9 : 0 < (l1.length : Int)
    ·rw [if_pos c9] at H
     have c9b0 := Z39 c9
     have c9b1 : decide (0 < l1.length) = true := Z39 (by omega)
     clear c9
     by_cases c10 : (Int.tmod (rd l1 0) 2) = 1
     ·rw [if_pos c10] at H
      have c10b0 : ((Int.tmod (rd l1 0) 2) == 1) = true := beq_iff_eq.mpr c10
      have c10b1 : ((Int.tmod (rd l1 0) 2) != 1) = false := bne_eq_false_iff_eq.mpr c10
      clear c10
      obtain rfl := Option.some.inj H
      go_enter Try.func47, Try.ntmps47
      try go_wp2
      replace HB := Ya (Z4 HB.out)
      obtain ⟨i012, hi012, _, hsz12, _⟩ := info_parts info3
      obtain ⟨A12, hcut12, hA12, hC12⟩ := print_drop_of (P := Try.prog) (Value.int .i64) 0 24 3 .i64 Try.underlying24 hi012 hsz12 A0 c0 l0 1 (by omega) (Z31 Q2) HC0.out
      have HR136 := Ya (Kd.C_of_reads (h1 := fun _ => rfl) (hA12 _ (Kd.reads_of_C HR0.out)))
      have HC136 := Ya hC12
      clear hA12 hC12 hi012 hsz12
      have HR138 := HR136
      have HC138 := HC136
      obtain ⟨i014, hi014, _, hsz14, _⟩ := info_parts info3
      obtain ⟨A14, hcut14, hA14, hC14⟩ := print_drop_of (P := Try.prog) (Value.int .i64) 0 24 3 .i64 Try.underlying24 hi014 hsz14 A1 c1 l1 1 (by omega) (Z31 Q2) HC1.out
      have HR139 := Ya (Kd.C_of_reads (h1 := fun _ => rfl) (hA14 _ (Kd.reads_of_C HR1.out)))
      have HC139 := Ya hC14
      clear hA14 hC14 hi014 hsz14
      refine start_ (n := 10) (S := fun w' => True) (ds := []) (YA 10 0) (by kernel_rfl) rfl rfl trivial (fun hHeld => ?_); refine with_tabW impl_mixedRank.tab3 impl_mixedRank.bits3 (fun HT_ HW_ => ?_)
      generalize w.drew = w11 at HB HR136 HR138 HR139 hHeld ⊢
      refine Yp 0 (some 10) (YA 10 1) rfl HT_.out ?_
      refine Yp 1 (some 11) (YA 10 3) rfl HT_.out ?_
      refine Yp 3 (some 13) (YA 10 11) rfl HT_.out ?_
      refine Yp 4 (some 14) (YA 10 27) rfl HT_.out ?_
      refine Yp 5 (some 15) (YA 10 59) rfl HT_.out ?_
      refine Yp 6 (some 16) (YA 10 123) rfl HT_.out ?_
      refine one_ (i := 2) (N := some 12) (YA 10 127) rfl rfl (one_of HT_.out (by kernel_rfl)) (by decide) (fun K hK => ?_)
      refine goes_ Try.func41 (by kernel_rfl) rfl #[.slice A12 (l0.drop 1).length (c0 - 1)] (by rfl) rfl rfl Q44 ?_
      with_reducible refine (impl_size.calls k _ _ (l0.drop 1) t137 _ ?side1 ?side2 A5.out).mono ?_
      (case side1 => exact Yc (Z23 HR136.out HB.out))
      (case side2 => exact HC136.out)
      rintro e w15 ⟨rfl, hb⟩
      refine ⟨_, rfl, ?_⟩
      replace HB := Yh hb
      (try clear hb)
      refine hK.out _ _ trivial (fun hHeld => ?_)
      clear hK K
      refine norm_ (a' := ?_) ?_ ?_
      rotate_left
      ·show Act.put _ (some 12) _ = _
       simp only [Act.put, Z0, Z1, Z2, i64_w, i32_w]
       rfl
      refine one_ (i := 7) (N := some 17) (YA 10 255) rfl rfl (one_of HT_.out (by kernel_rfl)) (by decide) (fun K hK => ?_)
      refine goes_ Try.func47 (by kernel_rfl) rfl #[.slice A12 (l0.drop 1).length (c0 - 1), .slice A14 (l1.drop 1).length (c1 - 1)] (by rfl) rfl rfl Q35 ?_
      with_reducible refine (ih k (by omega) _ _ (l0.drop 1) _ _ (l1.drop 1) t140 _ ?side1 ?side2 ?side3 ?side4 A8.out).mono ?_
      (case side1 => exact Yc (Z23 HR138.out HB.out))
      (case side2 => exact HC138.out)
      (case side3 => exact Yc (Z23 HR139.out HB.out))
      (case side4 => exact HC139.out)
      rintro e w16 ⟨rfl, hb⟩
      refine ⟨_, rfl, ?_⟩
      replace HB := Yh hb
      (try clear hb)
      refine hK.out _ _ trivial (fun hHeld => ?_)
      clear hK K
      refine norm_ (a' := ?_) ?_ ?_
      rotate_left
      ·show Act.put _ (some 17) _ = _
       simp only [Act.put, Z0, Z1, Z2, i64_w, i32_w]
       rfl
      refine Yp 8 (some 5) (YA 10 511) rfl HT_.out ?_
      refine Yp 9 (some 6) (YA 10 1023) rfl HT_.out ?_
      refine done_ (done_of HT_.out (by kernel_rfl)) ?_
      have p141 : 0 ≤ (0 : Int) := (by omega)
      have q141 : 0 < (l1.length : Int) := Z31 Q2
      obtain ⟨ad141, e141, hx141_0⟩ := Kd.at_int HR1.out 0 p141 q141
      cases e141
      have qi141 : (0 < l1.length) = True := eq_true (by omega)
      (try rw [show ((0 : Int)).toNat = 0 from rfl] at hx141_0)
      (try rw [Addr.add_zero'] at hx141_0)
      try replace hx141_0 := (HB.out.cell (World.block_lt_of_cell? w _ hx141_0)).trans hx141_0
      replace p141 := eq_true p141
      replace q141 := eq_true q141
      have p142 : 0 ≤ (0 : Int) := (by omega)
      have q142 : 0 < (l1.length : Int) := Z31 Q2
      obtain ⟨ad142, e142, hx142_0⟩ := Kd.at_int HR1.out 0 p142 q142
      obtain rfl : ad141 = ad142 := (by injection e142)
      have qi142 : (0 < l1.length) = True := eq_true (by omega)
      (try rw [show ((0 : Int)).toNat = 0 from rfl] at hx142_0)
      (try rw [Addr.add_zero'] at hx142_0)
      try replace hx142_0 := (HB.out.cell (World.block_lt_of_cell? w _ hx142_0)).trans hx142_0
      replace p142 := eq_true p142
      replace q142 := eq_true q142
      try go_wp2
      go_ret
      exact ⟨Q1, Q12⟩
     ·rw [if_neg c10] at H
      have c10b0 : ((Int.tmod (rd l1 0) 2) == 1) = false := beq_eq_false_iff_ne.mpr c10
      have c10b1 : ((Int.tmod (rd l1 0) 2) != 1) = true := bne_iff_ne.mpr c10
      obtain rfl := Option.some.inj H
      go_enter Try.func47, Try.ntmps47
      try go_wp2
      replace HB := Ya (Z4 HB.out)
      obtain ⟨i018, hi018, _, hsz18, _⟩ := info_parts info3
      obtain ⟨A18, hcut18, hA18, hC18⟩ := print_drop_of (P := Try.prog) (Value.int .i64) 0 24 3 .i64 Try.underlying24 hi018 hsz18 A0 c0 l0 1 (by omega) (Z31 Q2) HC0.out
      have HR136 := Ya (Kd.C_of_reads (h1 := fun _ => rfl) (hA18 _ (Kd.reads_of_C HR0.out)))
      have HC136 := Ya hC18
      clear hA18 hC18 hi018 hsz18
      have HR138 := HR136
      have HC138 := HC136
      obtain ⟨i020, hi020, _, hsz20, _⟩ := info_parts info3
      obtain ⟨A20, hcut20, hA20, hC20⟩ := print_drop_of (P := Try.prog) (Value.int .i64) 0 24 3 .i64 Try.underlying24 hi020 hsz20 A1 c1 l1 1 (by omega) (Z31 Q2) HC1.out
      have HR139 := Ya (Kd.C_of_reads (h1 := fun _ => rfl) (hA20 _ (Kd.reads_of_C HR1.out)))
      have HC139 := Ya hC20
      clear hA20 hC20 hi020 hsz20
      refine start_ (n := 10) (S := fun w' => True) (ds := []) (YA 10 0) (by kernel_rfl) rfl rfl trivial (fun hHeld => ?_); refine with_tabW impl_mixedRank.tab3 impl_mixedRank.bits3 (fun HT_ HW_ => ?_)
      generalize w.drew = w17 at HB HR136 HR138 HR139 hHeld ⊢
      refine Yp 0 (some 10) (YA 10 1) rfl HT_.out ?_
      refine Yp 1 (some 11) (YA 10 3) rfl HT_.out ?_
      refine Yp 3 (some 13) (YA 10 11) rfl HT_.out ?_
      refine Yp 4 (some 14) (YA 10 27) rfl HT_.out ?_
      refine Yp 5 (some 15) (YA 10 59) rfl HT_.out ?_
      refine Yp 6 (some 16) (YA 10 123) rfl HT_.out ?_
      refine one_ (i := 2) (N := some 12) (YA 10 127) rfl rfl (one_of HT_.out (by kernel_rfl)) (by decide) (fun K hK => ?_)
      refine goes_ Try.func41 (by kernel_rfl) rfl #[.slice A18 (l0.drop 1).length (c0 - 1)] (by rfl) rfl rfl Q44 ?_
      with_reducible refine (impl_size.calls k _ _ (l0.drop 1) t137 _ ?side1 ?side2 A5.out).mono ?_
      (case side1 => exact Yc (Z23 HR136.out HB.out))
      (case side2 => exact HC136.out)
      rintro e w21 ⟨rfl, hb⟩
      refine ⟨_, rfl, ?_⟩
      replace HB := Yh hb
      (try clear hb)
      refine hK.out _ _ trivial (fun hHeld => ?_)
      clear hK K
      refine norm_ (a' := ?_) ?_ ?_
      rotate_left
      ·show Act.put _ (some 12) _ = _
       simp only [Act.put, Z0, Z1, Z2, i64_w, i32_w]
       rfl
      refine one_ (i := 7) (N := some 17) (YA 10 255) rfl rfl (one_of HT_.out (by kernel_rfl)) (by decide) (fun K hK => ?_)
      refine goes_ Try.func47 (by kernel_rfl) rfl #[.slice A18 (l0.drop 1).length (c0 - 1), .slice A20 (l1.drop 1).length (c1 - 1)] (by rfl) rfl rfl Q35 ?_
      with_reducible refine (ih k (by omega) _ _ (l0.drop 1) _ _ (l1.drop 1) t140 _ ?side1 ?side2 ?side3 ?side4 A8.out).mono ?_
      (case side1 => exact Yc (Z23 HR138.out HB.out))
      (case side2 => exact HC138.out)
      (case side3 => exact Yc (Z23 HR139.out HB.out))
      (case side4 => exact HC139.out)
      rintro e w22 ⟨rfl, hb⟩
      refine ⟨_, rfl, ?_⟩
      replace HB := Yh hb
      (try clear hb)
      refine hK.out _ _ trivial (fun hHeld => ?_)
      clear hK K
      refine norm_ (a' := ?_) ?_ ?_
      rotate_left
      ·show Act.put _ (some 17) _ = _
       simp only [Act.put, Z0, Z1, Z2, i64_w, i32_w]
       rfl
      refine Yp 8 (some 5) (YA 10 511) rfl HT_.out ?_
      refine Yp 9 (some 6) (YA 10 1023) rfl HT_.out ?_
      refine done_ (done_of HT_.out (by kernel_rfl)) ?_
      have p141 : 0 ≤ (0 : Int) := (by omega)
      have q141 : 0 < (l1.length : Int) := Z31 Q2
      obtain ⟨ad141, e141, hx141_0⟩ := Kd.at_int HR1.out 0 p141 q141
      cases e141
      have qi141 : (0 < l1.length) = True := eq_true (by omega)
      (try rw [show ((0 : Int)).toNat = 0 from rfl] at hx141_0)
      (try rw [Addr.add_zero'] at hx141_0)
      try replace hx141_0 := (HB.out.cell (World.block_lt_of_cell? w _ hx141_0)).trans hx141_0
      replace p141 := eq_true p141
      replace q141 := eq_true q141
      have p143 : 0 ≤ (0 : Int) := (by omega)
      have q143 : 0 < (l1.length : Int) := Z31 Q2
      obtain ⟨ad143, e143, hx143_0⟩ := Kd.at_int HR1.out 0 p143 q143
      obtain rfl : ad141 = ad143 := (by injection e143)
      have qi143 : (0 < l1.length) = True := eq_true (by omega)
      (try rw [show ((0 : Int)).toNat = 0 from rfl] at hx143_0)
      (try rw [Addr.add_zero'] at hx143_0)
      try replace hx143_0 := (HB.out.cell (World.block_lt_of_cell? w _ hx143_0)).trans hx143_0
      replace p143 := eq_true p143
      replace q143 := eq_true q143
      try go_wp2
      go_ret
      exact ⟨Q1, Q12⟩
    ·rw [if_neg c9] at H
     exact absurd H (by simp)
   ·rw [if_neg c7] at H
    exact absurd H (by simp)
  ·rw [if_neg c4] at H
   exact absurd H (by simp)
def impl_areDigits.l0 : Nat → List Int → List Int → List Int → Int → Int → Option (Bool)
 | 0, _, _, _, _, _ => none
 | k + 1, x0, x1, x7, x8, x9 => if x9 < x8 then (if 0 ≤ x9 then (if x9 < (x7.length : Int) then (if x9 ≥ (x0.length : Int) then (some false) else (if x9 < (x0.length : Int) then ((impl_within.f (rd x7 x9) 0 (wrap64 ((rd x0 x9) - 1))).bind fun t146 => (if t146 = true then (impl_areDigits.l0 k x0 x1 x7 x8 (wrap64 (x9 + 1))) else (some false))) else (none))) else (none)) else (none)) else (some ((x1.length : Int) == (x0.length : Int)))
def impl_areDigits.f (k : Nat) (l0 : List Int) (l1 : List Int) : Option (Bool) := impl_areDigits.l0 k l0 l1 l1 (l1.length : Int) 0
theorem impl_areDigits.mono_l : ∀ k, (∀ y0 y1 y2 y3 y4, LeO (impl_areDigits.l0 k y0 y1 y2 y3 y4) (impl_areDigits.l0 (k + 1) y0 y1 y2 y3 y4))
 | 0 => fun _ _ _ _ _ r h => by simp [impl_areDigits.l0] at h
 | k + 1 => by
  have ih0 := impl_areDigits.mono_l k
  ·intro y0 y1 y2 y3 y4
   unfold impl_areDigits.l0
   repeat' first
   | (with_reducible exact ih0 _ _ _ _ _)
   | (with_reducible exact LeO.refl _)
   | (with_reducible exact LeO.none _)
   | (with_reducible refine LeO.ite ?_ ?_)
   | (with_reducible refine LeO.bind ?_ (fun _ => ?_))
   | exact ih0 _ _ _ _ _
   | exact LeO.none _
   | refine LeO.ite ?_ ?_
   | refine LeO.bind ?_ (fun _ => ?_)
theorem impl_areDigits.mono : ∀ a0 a1 k, LeO (impl_areDigits.f k a0 a1) (impl_areDigits.f (k + 1) a0 a1) := by
 intro a0 a1 k
 have ih0 := impl_areDigits.mono_l k
 unfold impl_areDigits.f
 repeat' first
   | (with_reducible exact ih0 _ _ _ _ _)
   | (with_reducible exact LeO.refl _)
   | (with_reducible exact LeO.none _)
   | (with_reducible refine LeO.ite ?_ ?_)
   | (with_reducible refine LeO.bind ?_ (fun _ => ?_))
   | exact ih0 _ _ _ _ _
   | exact LeO.none _
   | refine LeO.ite ?_ ?_
   | refine LeO.bind ?_ (fun _ => ?_)
set_option maxHeartbeats 8000000 in
set_option maxRecDepth 100000 in
theorem impl_areDigits.calls (k : Nat) (A0 : Option Addr) (c0 : Nat) (l0 : List Int) (A1 : Option Addr) (c1 : Nat) (l1 : List Int) (r : Bool) (w : World) (hr0 : Kd.C (Kd.int .i64) w A0 l0.length l0) (hc0 : l0.length ≤ c0) (hr1 : Kd.C (Kd.int .i64) w A1 l1.length l1) (hc1 : l1.length ≤ c1) (h : impl_areDigits.f k l0 l1 = some r) :
  Calls Try.prog 52 #[.slice A0 l0.length c0, .slice A1 l1.length c1] w fun e w' => e = .returned (.bool r) ∧ Drawn0 w w' := by
 have HR0 := Ya hr0
 have HC0 := Ya hc0
 clear hr0 hc0
 have HR1 := Ya hr1
 have HC1 := Ya hc1
 clear hr1 hc1
 have H : (impl_areDigits.l0 k l0 l1 l1 (l1.length : Int) 0) = some r := h
 clear h
 have H' := Ya H
 clear H
 go_enter Try.func52, Try.ntmps52
 go_wp2
 go_loopg [9] k (fun kq v9 w' => ∃ (x9_1 : Int), v9 = .int .i64 x9_1 ∧ Aside0 (impl_areDigits.l0 kq l0 l1 l1 (l1.length : Int) x9_1 = some r) ∧ Aside0 (kq ≤ k) ∧ Drawn0 w w')
 case atStart => exact ⟨(0), Q9, H', ⟨Nat.le_refl _⟩, Q10⟩
 case round =>
  clear H'
  try clear c1
  try clear p2
  obtain ⟨x9_1, rfl, HA, HK1, ⟨m1, rfl⟩⟩ := hrel
  cases gk with
  | zero => exact absurd HA.out (by simp [impl_areDigits.l0])
  | succ k1 =>
   have H := HA.out
   clear HA
   simp only [impl_areDigits.l0] at H
   by_cases c3 : x9_1 < (l1.length : Int)
   ·rw [if_pos c3] at H
    have c3b0 := Z39 c3
    clear c3
    by_cases c4 : 0 ≤ x9_1
    ·rw [if_pos c4] at H
     have c4b0 := Z39 c4
     clear c4
     by_cases c5 : x9_1 < (l1.length : Int)
     ·rw [if_pos c5] at H
      have c5b0 := Z39 c5
      clear c5
      by_cases c6 : x9_1 ≥ (l0.length : Int)
      ·rw [if_pos c6] at H
       have c6b0 : decide ((l0.length : Int) ≤ x9_1) = true := Z39 c6
       clear c6
       obtain rfl := Option.some.inj H
       have p144 : 0 ≤ (x9_1 : Int) := Z31 Q2
       have q144 : x9_1 < (l1.length : Int) := Z31 Q2
       obtain ⟨ad144, e144, hx144_0⟩ := Kd.at_int HR1.out x9_1 p144 q144
       cases e144
       replace p144 := eq_true p144
       replace q144 := eq_true q144
       go_wp2
       go_ret
       exact ⟨Q19, Q10⟩
      ·rw [if_neg c6] at H
       have c6b0 : decide ((l0.length : Int) ≤ x9_1) = false := Z38 c6
       clear c6
       by_cases c7 : x9_1 < (l0.length : Int)
       ·rw [if_pos c7] at H
        have c7b0 := Z39 c7
        clear c7
        replace H := Z37.mp H
        obtain ⟨t146, A80, H⟩ := H
        replace H : (if t146 = true then (impl_areDigits.l0 k1 l0 l1 l1 (l1.length : Int) (wrap64 (x9_1 + 1))) else (some false)) = some r := H
        have A8 := Ya A80
        clear A80
        by_cases c9 : t146 = true
        ·subst c9
         have H1 : (impl_areDigits.l0 k1 l0 l1 l1 (l1.length : Int) (wrap64 (x9_1 + 1))) = some r := by rw [if_pos rfl] at H; exact H
         clear H
         have H := H1
         clear H1
         have H' := Ya H
         clear H
         have p144 : 0 ≤ (x9_1 : Int) := Z31 Q2
         have q144 : x9_1 < (l1.length : Int) := Z31 Q2
         obtain ⟨ad144, e144, hx144_0⟩ := Kd.at_int HR1.out x9_1 p144 q144
         cases e144
         replace p144 := eq_true p144
         replace q144 := eq_true q144
         have p145 : 0 ≤ (x9_1 : Int) := Z31 Q2
         have q145 : x9_1 < (l0.length : Int) := Z31 Q2
         obtain ⟨ad145, e145, hx145_0⟩ := Kd.at_int HR0.out x9_1 p145 q145
         cases e145
         replace p145 := eq_true p145
         replace q145 := eq_true q145
         go_wp2_with (first | (go_at_call 30; (with_reducible refine (impl_within.calls (rd l1 x9_1) 0 (wrap64 ((rd l0 x9_1) - 1)) true _ A8.out).mono ?_); rintro e w' ⟨rfl, ⟨nd, rfl⟩⟩))
         go_roundg k1
         case measure => have := HK1.out; omega
         case rel => exact ⟨(wrap64 (x9_1 + 1)), Q9, H', ⟨Q45⟩, Q10⟩
        ·replace c9 := Bool.eq_false_iff.mpr c9
         subst c9
         have H1 : (some false) = some r := by rw [if_neg (show ¬ (false = true) by decide)] at H; exact H
         clear H
         have H := H1
         clear H1
         obtain rfl := Option.some.inj H
         have p144 : 0 ≤ (x9_1 : Int) := Z31 Q2
         have q144 : x9_1 < (l1.length : Int) := Z31 Q2
         obtain ⟨ad144, e144, hx144_0⟩ := Kd.at_int HR1.out x9_1 p144 q144
         cases e144
         replace p144 := eq_true p144
         replace q144 := eq_true q144
         have p145 : 0 ≤ (x9_1 : Int) := Z31 Q2
         have q145 : x9_1 < (l0.length : Int) := Z31 Q2
         obtain ⟨ad145, e145, hx145_0⟩ := Kd.at_int HR0.out x9_1 p145 q145
         cases e145
         replace p145 := eq_true p145
         replace q145 := eq_true q145
         go_wp2_with (first | (go_at_call 30; (with_reducible refine (impl_within.calls (rd l1 x9_1) 0 (wrap64 ((rd l0 x9_1) - 1)) false _ A8.out).mono ?_); rintro e w' ⟨rfl, ⟨nd, rfl⟩⟩))
         go_ret
         exact ⟨Q19, Q10⟩
       ·rw [if_neg c7] at H
        exact absurd H (by simp)
     ·rw [if_neg c5] at H
      exact absurd H (by simp)
    ·rw [if_neg c4] at H
     exact absurd H (by simp)
   ·rw [if_neg c3] at H
    have c3b0 := Z38 c3
    clear c3
    obtain rfl := Option.some.inj H
    go_wp2
    go_ret
    exact ⟨Q19, Q10⟩
def slices_Equal_int_int.l0 : Nat → List Int → List Int → Int → Int → Option (Bool)
 | 0, _, _, _, _ => none
 | k + 1, x0, x1, x12, x13 => if x13 < x12 then (if 0 ≤ x13 then (if x13 < (x0.length : Int) then (if x13 < (x1.length : Int) then (if (rd x0 x13) = (rd x1 x13) then (slices_Equal_int_int.l0 k x0 x1 x12 (wrap64 (x13 + 1))) else (some false)) else (none)) else (none)) else (none)) else (some true)
def slices_Equal_int_int.f (k : Nat) (l0 : List Int) (l1 : List Int) : Option (Bool) := if (l0.length : Int) = (l1.length : Int) then (slices_Equal_int_int.l0 k l0 l1 (l0.length : Int) 0) else (some false)
theorem slices_Equal_int_int.mono_l : ∀ k, (∀ y0 y1 y2 y3, LeO (slices_Equal_int_int.l0 k y0 y1 y2 y3) (slices_Equal_int_int.l0 (k + 1) y0 y1 y2 y3))
 | 0 => fun _ _ _ _ r h => by simp [slices_Equal_int_int.l0] at h
 | k + 1 => by
  have ih0 := slices_Equal_int_int.mono_l k
  ·intro y0 y1 y2 y3
   unfold slices_Equal_int_int.l0
   repeat' first
   | (with_reducible exact ih0 _ _ _ _)
   | (with_reducible exact LeO.refl _)
   | (with_reducible exact LeO.none _)
   | (with_reducible refine LeO.ite ?_ ?_)
   | (with_reducible refine LeO.bind ?_ (fun _ => ?_))
   | exact ih0 _ _ _ _
   | exact LeO.none _
   | refine LeO.ite ?_ ?_
   | refine LeO.bind ?_ (fun _ => ?_)
theorem slices_Equal_int_int.mono : ∀ a0 a1 k, LeO (slices_Equal_int_int.f k a0 a1) (slices_Equal_int_int.f (k + 1) a0 a1) := by
 intro a0 a1 k
 have ih0 := slices_Equal_int_int.mono_l k
 unfold slices_Equal_int_int.f
 repeat' first
   | (with_reducible exact ih0 _ _ _ _)
   | (with_reducible exact LeO.refl _)
   | (with_reducible exact LeO.none _)
   | (with_reducible refine LeO.ite ?_ ?_)
   | (with_reducible refine LeO.bind ?_ (fun _ => ?_))
   | exact ih0 _ _ _ _
   | exact LeO.none _
   | refine LeO.ite ?_ ?_
   | refine LeO.bind ?_ (fun _ => ?_)
set_option maxHeartbeats 8000000 in
set_option maxRecDepth 100000 in
theorem slices_Equal_int_int.calls (k : Nat) (A0 : Option Addr) (c0 : Nat) (l0 : List Int) (A1 : Option Addr) (c1 : Nat) (l1 : List Int) (r : Bool) (w : World) (hr0 : Kd.C (Kd.int .i64) w A0 l0.length l0) (hc0 : l0.length ≤ c0) (hr1 : Kd.C (Kd.int .i64) w A1 l1.length l1) (hc1 : l1.length ≤ c1) (h : slices_Equal_int_int.f k l0 l1 = some r) :
  Calls Try.prog 67 #[.slice A0 l0.length c0, .slice A1 l1.length c1] w fun e w' => e = .returned (.bool r) ∧ Drawn0 w w' := by
 have HR0 := Ya hr0
 have HC0 := Ya hc0
 clear hr0 hc0
 have HR1 := Ya hr1
 have HC1 := Ya hc1
 clear hr1 hc1
 have H : (if (l0.length : Int) = (l1.length : Int) then (slices_Equal_int_int.l0 k l0 l1 (l0.length : Int) 0) else (some false)) = some r := h
 clear h
 by_cases c3 : (l0.length : Int) = (l1.length : Int)
 ·rw [if_pos c3] at H
  have c3b0 : ((l0.length : Int) == (l1.length : Int)) = true := beq_iff_eq.mpr c3
  have c3b1 : ((l0.length : Int) != (l1.length : Int)) = false := bne_eq_false_iff_eq.mpr c3
  have c3b2 : (l0.length == l1.length) = true := by first | simpa using c3 | (simp at c3 ⊢; omega)
  clear c3
  have H' := Ya H
  clear H
  go_enter Try.func67, Try.ntmps67
  go_wp2
  repeat (go_quiet (fail); try go_wp2)
  go_loopg [13] k (fun kq v13 w' => ∃ (x13_1 : Int), v13 = .int .i64 x13_1 ∧ Aside0 (slices_Equal_int_int.l0 kq l0 l1 (l0.length : Int) x13_1 = some r) ∧ Aside0 (kq ≤ k) ∧ Drawn0 w w')
  case atStart => exact ⟨(0), Q9, H', ⟨Nat.le_refl _⟩, Q10⟩
  case round =>
   clear H'
   try clear c1
   try clear p2
   try clear c3
   try clear c3b0
   try clear c3b1
   try clear c3b2
   obtain ⟨x13_1, rfl, HA, HK1, ⟨m1, rfl⟩⟩ := hrel
   cases gk with
   | zero => exact absurd HA.out (by simp [slices_Equal_int_int.l0])
   | succ k1 =>
    have H := HA.out
    clear HA
    simp only [slices_Equal_int_int.l0] at H
    by_cases c4 : x13_1 < (l0.length : Int)
    ·rw [if_pos c4] at H
     have c4b0 := Z39 c4
     clear c4
     by_cases c5 : 0 ≤ x13_1
     ·rw [if_pos c5] at H
      have c5b0 := Z39 c5
      clear c5
      by_cases c6 : x13_1 < (l0.length : Int)
      ·rw [if_pos c6] at H
       have c6b0 := Z39 c6
       clear c6
       by_cases c7 : x13_1 < (l1.length : Int)
       ·rw [if_pos c7] at H
        have c7b0 := Z39 c7
        clear c7
        by_cases c8 : (rd l0 x13_1) = (rd l1 x13_1)
        ·rw [if_pos c8] at H
         have c8b0 : ((rd l0 x13_1) == (rd l1 x13_1)) = true := beq_iff_eq.mpr c8
         have c8b1 : ((rd l0 x13_1) != (rd l1 x13_1)) = false := bne_eq_false_iff_eq.mpr c8
         clear c8
         have H' := Ya H
         clear H
         have p147 : 0 ≤ (x13_1 : Int) := Z31 Q2
         have q147 : x13_1 < (l0.length : Int) := Z31 Q2
         obtain ⟨ad147, e147, hx147_0⟩ := Kd.at_int HR0.out x13_1 p147 q147
         cases e147
         replace p147 := eq_true p147
         replace q147 := eq_true q147
         have p148 : 0 ≤ (x13_1 : Int) := Z31 Q2
         have q148 : x13_1 < (l1.length : Int) := Z31 Q2
         obtain ⟨ad148, e148, hx148_0⟩ := Kd.at_int HR1.out x13_1 p148 q148
         cases e148
         replace p148 := eq_true p148
         replace q148 := eq_true q148
         go_wp2
         repeat (go_quiet (fail); try go_wp2)
         go_roundg k1
         case measure => have := HK1.out; omega
         case rel => exact ⟨(wrap64 (x13_1 + 1)), Q9, H', ⟨Q45⟩, Q10⟩
        ·rw [if_neg c8] at H
         have c8b0 : ((rd l0 x13_1) == (rd l1 x13_1)) = false := beq_eq_false_iff_ne.mpr c8
         have c8b1 : ((rd l0 x13_1) != (rd l1 x13_1)) = true := bne_iff_ne.mpr c8
         obtain rfl := Option.some.inj H
         have p147 : 0 ≤ (x13_1 : Int) := Z31 Q2
         have q147 : x13_1 < (l0.length : Int) := Z31 Q2
         obtain ⟨ad147, e147, hx147_0⟩ := Kd.at_int HR0.out x13_1 p147 q147
         cases e147
         replace p147 := eq_true p147
         replace q147 := eq_true q147
         have p148 : 0 ≤ (x13_1 : Int) := Z31 Q2
         have q148 : x13_1 < (l1.length : Int) := Z31 Q2
         obtain ⟨ad148, e148, hx148_0⟩ := Kd.at_int HR1.out x13_1 p148 q148
         cases e148
         replace p148 := eq_true p148
         replace q148 := eq_true q148
         go_wp2
         repeat (go_quiet (fail); try go_wp2)
         go_ret
         exact ⟨Q19, Q10⟩
       ·rw [if_neg c7] at H
        exact absurd H (by simp)
      ·rw [if_neg c6] at H
       exact absurd H (by simp)
     ·rw [if_neg c5] at H
      exact absurd H (by simp)
    ·rw [if_neg c4] at H
     have c4b0 := Z38 c4
     clear c4
     obtain rfl := Option.some.inj H
     go_wp2
     repeat (go_quiet (fail); try go_wp2)
     go_ret
     exact ⟨Q19, Q10⟩
 ·rw [if_neg c3] at H
  have c3b0 : ((l0.length : Int) == (l1.length : Int)) = false := beq_eq_false_iff_ne.mpr c3
  have c3b1 : ((l0.length : Int) != (l1.length : Int)) = true := bne_iff_ne.mpr c3
  have c3b2 : (l0.length == l1.length) = false := by first | simpa using c3 | (simp at c3 ⊢; omega)
  obtain rfl := Option.some.inj H
  go_enter Try.func67, Try.ntmps67
  go_wp2
  repeat (go_quiet (fail); try go_wp2)
  go_ret
  exact ⟨Q19, Q10⟩
def slices_Equal_bool_bool.l0 : Nat → List Bool → List Bool → Int → Int → Option (Bool)
 | 0, _, _, _, _ => none
 | k + 1, x0, x1, x12, x13 => if x13 < x12 then (if 0 ≤ x13 then (if x13 < (x0.length : Int) then (if x13 < (x1.length : Int) then (if ((rdOf false x0 x13) != (rdOf false x1 x13)) = true then (some false) else (slices_Equal_bool_bool.l0 k x0 x1 x12 (wrap64 (x13 + 1)))) else (none)) else (none)) else (none)) else (some true)
def slices_Equal_bool_bool.f (k : Nat) (l0 : List Bool) (l1 : List Bool) : Option (Bool) := if (l0.length : Int) = (l1.length : Int) then (slices_Equal_bool_bool.l0 k l0 l1 (l0.length : Int) 0) else (some false)
theorem slices_Equal_bool_bool.mono_l : ∀ k, (∀ y0 y1 y2 y3, LeO (slices_Equal_bool_bool.l0 k y0 y1 y2 y3) (slices_Equal_bool_bool.l0 (k + 1) y0 y1 y2 y3))
 | 0 => fun _ _ _ _ r h => by simp [slices_Equal_bool_bool.l0] at h
 | k + 1 => by
  have ih0 := slices_Equal_bool_bool.mono_l k
  ·intro y0 y1 y2 y3
   unfold slices_Equal_bool_bool.l0
   repeat' first
   | (with_reducible exact ih0 _ _ _ _)
   | (with_reducible exact LeO.refl _)
   | (with_reducible exact LeO.none _)
   | (with_reducible refine LeO.ite ?_ ?_)
   | (with_reducible refine LeO.bind ?_ (fun _ => ?_))
   | exact ih0 _ _ _ _
   | exact LeO.none _
   | refine LeO.ite ?_ ?_
   | refine LeO.bind ?_ (fun _ => ?_)
theorem slices_Equal_bool_bool.mono : ∀ a0 a1 k, LeO (slices_Equal_bool_bool.f k a0 a1) (slices_Equal_bool_bool.f (k + 1) a0 a1) := by
 intro a0 a1 k
 have ih0 := slices_Equal_bool_bool.mono_l k
 unfold slices_Equal_bool_bool.f
 repeat' first
   | (with_reducible exact ih0 _ _ _ _)
   | (with_reducible exact LeO.refl _)
   | (with_reducible exact LeO.none _)
   | (with_reducible refine LeO.ite ?_ ?_)
   | (with_reducible refine LeO.bind ?_ (fun _ => ?_))
   | exact ih0 _ _ _ _
   | exact LeO.none _
   | refine LeO.ite ?_ ?_
   | refine LeO.bind ?_ (fun _ => ?_)
set_option maxHeartbeats 8000000 in
set_option maxRecDepth 100000 in
theorem slices_Equal_bool_bool.calls (k : Nat) (A0 : Option Addr) (c0 : Nat) (l0 : List Bool) (A1 : Option Addr) (c1 : Nat) (l1 : List Bool) (r : Bool) (w : World) (hr0 : Kd.C Kd.bool w A0 l0.length l0) (hc0 : l0.length ≤ c0) (hr1 : Kd.C Kd.bool w A1 l1.length l1) (hc1 : l1.length ≤ c1) (h : slices_Equal_bool_bool.f k l0 l1 = some r) :
  Calls Try.prog 68 #[.slice A0 l0.length c0, .slice A1 l1.length c1] w fun e w' => e = .returned (.bool r) ∧ Drawn0 w w' := by
 have HR0 := Ya hr0
 have HC0 := Ya hc0
 clear hr0 hc0
 have HR1 := Ya hr1
 have HC1 := Ya hc1
 clear hr1 hc1
 have H : (if (l0.length : Int) = (l1.length : Int) then (slices_Equal_bool_bool.l0 k l0 l1 (l0.length : Int) 0) else (some false)) = some r := h
 clear h
 by_cases c3 : (l0.length : Int) = (l1.length : Int)
 ·rw [if_pos c3] at H
  have c3b0 : ((l0.length : Int) == (l1.length : Int)) = true := beq_iff_eq.mpr c3
  have c3b1 : ((l0.length : Int) != (l1.length : Int)) = false := bne_eq_false_iff_eq.mpr c3
  have c3b2 : (l0.length == l1.length) = true := by first | simpa using c3 | (simp at c3 ⊢; omega)
  clear c3
  have H' := Ya H
  clear H
  go_enter Try.func68, Try.ntmps68
  go_wp2
  repeat (go_quiet (fail); try go_wp2)
  go_loopg [13] k (fun kq v13 w' => ∃ (x13_1 : Int), v13 = .int .i64 x13_1 ∧ Aside0 (slices_Equal_bool_bool.l0 kq l0 l1 (l0.length : Int) x13_1 = some r) ∧ Aside0 (kq ≤ k) ∧ Drawn0 w w')
  case atStart => exact ⟨(0), Q9, H', ⟨Nat.le_refl _⟩, Q10⟩
  case round =>
   clear H'
   try clear c1
   try clear p2
   try clear c3
   try clear c3b0
   try clear c3b1
   try clear c3b2
   obtain ⟨x13_1, rfl, HA, HK1, ⟨m1, rfl⟩⟩ := hrel
   cases gk with
   | zero => exact absurd HA.out (by simp [slices_Equal_bool_bool.l0])
   | succ k1 =>
    have H := HA.out
    clear HA
    simp only [slices_Equal_bool_bool.l0] at H
    by_cases c4 : x13_1 < (l0.length : Int)
    ·rw [if_pos c4] at H
     have c4b0 := Z39 c4
     clear c4
     by_cases c5 : 0 ≤ x13_1
     ·rw [if_pos c5] at H
      have c5b0 := Z39 c5
      clear c5
      by_cases c6 : x13_1 < (l0.length : Int)
      ·rw [if_pos c6] at H
       have c6b0 := Z39 c6
       clear c6
       by_cases c7 : x13_1 < (l1.length : Int)
       ·rw [if_pos c7] at H
        have c7b0 := Z39 c7
        clear c7
        by_cases c8 : ((rdOf false l0 x13_1) != (rdOf false l1 x13_1)) = true
        ·rw [if_pos c8] at H
         have c8b0 : ((rdOf false l0 x13_1) != (rdOf false l1 x13_1)) = true := c8
         (try (have c8b1 : decide ((rdOf false l0 x13_1) = (rdOf false l1 x13_1)) = false := by simpa using c8))
         (try (have c8b2 : ((rdOf false l0 x13_1) == (rdOf false l1 x13_1)) = false := by simpa using c8))
         (try (have c8b3 : ¬ ((rdOf false l0 x13_1) = (rdOf false l1 x13_1)) := by simpa using c8))
         clear c8
         obtain rfl := Option.some.inj H
         have p149 : 0 ≤ (x13_1 : Int) := Z31 Q2
         have q149 : x13_1 < (l0.length : Int) := Z31 Q2
         obtain ⟨ad149, e149, hx149_0⟩ := Kd.at_bool HR0.out x13_1 p149 q149
         cases e149
         replace p149 := eq_true p149
         replace q149 := eq_true q149
         have p150 : 0 ≤ (x13_1 : Int) := Z31 Q2
         have q150 : x13_1 < (l1.length : Int) := Z31 Q2
         obtain ⟨ad150, e150, hx150_0⟩ := Kd.at_bool HR1.out x13_1 p150 q150
         cases e150
         replace p150 := eq_true p150
         replace q150 := eq_true q150
         go_wp2
         repeat (go_quiet (fail); try go_wp2)
         go_ret
         exact ⟨Q19, Q10⟩
        ·rw [if_neg c8] at H
         have c8b0 : ((rdOf false l0 x13_1) != (rdOf false l1 x13_1)) = false := by simpa using c8
         (try (have c8b1 : decide ((rdOf false l0 x13_1) = (rdOf false l1 x13_1)) = true := by simpa using c8))
         (try (have c8b2 : ((rdOf false l0 x13_1) == (rdOf false l1 x13_1)) = true := by simpa using c8))
         clear c8
         have H' := Ya H
         clear H
         have p149 : 0 ≤ (x13_1 : Int) := Z31 Q2
         have q149 : x13_1 < (l0.length : Int) := Z31 Q2
         obtain ⟨ad149, e149, hx149_0⟩ := Kd.at_bool HR0.out x13_1 p149 q149
         cases e149
         replace p149 := eq_true p149
         replace q149 := eq_true q149
         have p150 : 0 ≤ (x13_1 : Int) := Z31 Q2
         have q150 : x13_1 < (l1.length : Int) := Z31 Q2
         obtain ⟨ad150, e150, hx150_0⟩ := Kd.at_bool HR1.out x13_1 p150 q150
         cases e150
         replace p150 := eq_true p150
         replace q150 := eq_true q150
         go_wp2
         repeat (go_quiet (fail); try go_wp2)
         go_roundg k1
         case measure => have := HK1.out; omega
         case rel => exact ⟨(wrap64 (x13_1 + 1)), Q9, H', ⟨Q45⟩, Q10⟩
       ·rw [if_neg c7] at H
        exact absurd H (by simp)
      ·rw [if_neg c6] at H
       exact absurd H (by simp)
     ·rw [if_neg c5] at H
      exact absurd H (by simp)
    ·rw [if_neg c4] at H
     have c4b0 := Z38 c4
     clear c4
     obtain rfl := Option.some.inj H
     go_wp2
     repeat (go_quiet (fail); try go_wp2)
     go_ret
     exact ⟨Q19, Q10⟩
 ·rw [if_neg c3] at H
  have c3b0 : ((l0.length : Int) == (l1.length : Int)) = false := beq_eq_false_iff_ne.mpr c3
  have c3b1 : ((l0.length : Int) != (l1.length : Int)) = true := bne_iff_ne.mpr c3
  have c3b2 : (l0.length == l1.length) = false := by first | simpa using c3 | (simp at c3 ⊢; omega)
  obtain rfl := Option.some.inj H
  go_enter Try.func68, Try.ntmps68
  go_wp2
  repeat (go_quiet (fail); try go_wp2)
  go_ret
  exact ⟨Q19, Q10⟩
def impl_Focus_same.f (k : Nat) (l0_0 : List Int) (l0_1 : List Int) (l0_2 : List Bool) (l0_3 : List Int) (l1_0 : List Int) (l1_1 : List Int) (l1_2 : List Bool) (l1_3 : List Int) : Option (Bool) := (slices_Equal_int_int.f k l0_0 l1_0).bind fun t153 => (if t153 = true then ((slices_Equal_int_int.f k l0_1 l1_1).bind fun t154 => (if t154 = true then ((slices_Equal_bool_bool.f k l0_2 l1_2).bind fun t155 => (if t155 = true then ((slices_Equal_int_int.f k l0_3 l1_3).bind fun t156 => (some t156)) else (some false))) else (some false))) else (some false))
theorem impl_Focus_same.mono : ∀ a0 a1 a2 a3 a4 a5 a6 a7 k, LeO (impl_Focus_same.f k a0 a1 a2 a3 a4 a5 a6 a7) (impl_Focus_same.f (k + 1) a0 a1 a2 a3 a4 a5 a6 a7) := by
 intro a0 a1 a2 a3 a4 a5 a6 a7 k
 unfold impl_Focus_same.f
 repeat' first
   | (with_reducible exact slices_Equal_bool_bool.mono _ _ _)
   | (with_reducible exact slices_Equal_int_int.mono _ _ _)
   | (with_reducible exact LeO.refl _)
   | (with_reducible exact LeO.none _)
   | (with_reducible refine LeO.ite ?_ ?_)
   | (with_reducible refine LeO.bind ?_ (fun _ => ?_))
   | exact slices_Equal_bool_bool.mono _ _ _
   | exact slices_Equal_int_int.mono _ _ _
   | exact LeO.none _
   | refine LeO.ite ?_ ?_
   | refine LeO.bind ?_ (fun _ => ?_)
set_option maxHeartbeats 8000000 in
set_option maxRecDepth 100000 in
theorem impl_Focus_same.calls (k : Nat) (A0_0 : Option Addr) (c0_0 : Nat) (l0_0 : List Int) (A0_1 : Option Addr) (c0_1 : Nat) (l0_1 : List Int) (A0_2 : Option Addr) (c0_2 : Nat) (l0_2 : List Bool) (A0_3 : Option Addr) (c0_3 : Nat) (l0_3 : List Int) (A1_0 : Option Addr) (c1_0 : Nat) (l1_0 : List Int) (A1_1 : Option Addr) (c1_1 : Nat) (l1_1 : List Int) (A1_2 : Option Addr) (c1_2 : Nat) (l1_2 : List Bool) (A1_3 : Option Addr) (c1_3 : Nat) (l1_3 : List Int) (r : Bool) (w : World) (hr0_0 : Kd.C (Kd.int .i64) w A0_0 l0_0.length l0_0) (hc0_0 : l0_0.length ≤ c0_0) (hr0_1 : Kd.C (Kd.int .i64) w A0_1 l0_1.length l0_1) (hc0_1 : l0_1.length ≤ c0_1) (hr0_2 : Kd.C Kd.bool w A0_2 l0_2.length l0_2) (hc0_2 : l0_2.length ≤ c0_2) (hr0_3 : Kd.C (Kd.int .i64) w A0_3 l0_3.length l0_3) (hc0_3 : l0_3.length ≤ c0_3) (hr1_0 : Kd.C (Kd.int .i64) w A1_0 l1_0.length l1_0) (hc1_0 : l1_0.length ≤ c1_0) (hr1_1 : Kd.C (Kd.int .i64) w A1_1 l1_1.length l1_1) (hc1_1 : l1_1.length ≤ c1_1) (hr1_2 : Kd.C Kd.bool w A1_2 l1_2.length l1_2) (hc1_2 : l1_2.length ≤ c1_2) (hr1_3 : Kd.C (Kd.int .i64) w A1_3 l1_3.length l1_3) (hc1_3 : l1_3.length ≤ c1_3) (h : impl_Focus_same.f k l0_0 l0_1 l0_2 l0_3 l1_0 l1_1 l1_2 l1_3 = some r) :
  Calls Try.prog 53 #[.agg #[.slice A0_0 l0_0.length c0_0, .slice A0_1 l0_1.length c0_1, .slice A0_2 l0_2.length c0_2, .slice A0_3 l0_3.length c0_3], .agg #[.slice A1_0 l1_0.length c1_0, .slice A1_1 l1_1.length c1_1, .slice A1_2 l1_2.length c1_2, .slice A1_3 l1_3.length c1_3]] w fun e w' => e = .returned (.bool r) ∧ Below w.heap.size w w' := by
 have hu33 := Try.underlying33
 have HR0_0 := Ya hr0_0
 have HC0_0 := Ya hc0_0
 clear hr0_0 hc0_0
 have HR0_1 := Ya hr0_1
 have HC0_1 := Ya hc0_1
 clear hr0_1 hc0_1
 have HR0_2 := Ya hr0_2
 have HC0_2 := Ya hc0_2
 clear hr0_2 hc0_2
 have HR0_3 := Ya hr0_3
 have HC0_3 := Ya hc0_3
 clear hr0_3 hc0_3
 have HR1_0 := Ya hr1_0
 have HC1_0 := Ya hc1_0
 clear hr1_0 hc1_0
 have HR1_1 := Ya hr1_1
 have HC1_1 := Ya hc1_1
 clear hr1_1 hc1_1
 have HR1_2 := Ya hr1_2
 have HC1_2 := Ya hc1_2
 clear hr1_2 hc1_2
 have HR1_3 := Ya hr1_3
 have HC1_3 := Ya hc1_3
 clear hr1_3 hc1_3
 have HB := Ya (Below.refl w.heap.size w)
 have H : ((slices_Equal_int_int.f k l0_0 l1_0).bind fun t153 => (if t153 = true then ((slices_Equal_int_int.f k l0_1 l1_1).bind fun t154 => (if t154 = true then ((slices_Equal_bool_bool.f k l0_2 l1_2).bind fun t155 => (if t155 = true then ((slices_Equal_int_int.f k l0_3 l1_3).bind fun t156 => (some t156)) else (some false))) else (some false))) else (some false))) = some r := h
 clear h
 replace H := Z37.mp H
 obtain ⟨t153, A30, H⟩ := H
 replace H : (if t153 = true then ((slices_Equal_int_int.f k l0_1 l1_1).bind fun t154 => (if t154 = true then ((slices_Equal_bool_bool.f k l0_2 l1_2).bind fun t155 => (if t155 = true then ((slices_Equal_int_int.f k l0_3 l1_3).bind fun t156 => (some t156)) else (some false))) else (some false))) else (some false)) = some r := H
 have A3 := Ya A30
 clear A30
 by_cases c4 : t153 = true
 ·subst c4
  have H1 : ((slices_Equal_int_int.f k l0_1 l1_1).bind fun t154 => (if t154 = true then ((slices_Equal_bool_bool.f k l0_2 l1_2).bind fun t155 => (if t155 = true then ((slices_Equal_int_int.f k l0_3 l1_3).bind fun t156 => (some t156)) else (some false))) else (some false))) = some r := by rw [if_pos rfl] at H; exact H
  clear H
  have H := H1
  clear H1
  replace H := Z37.mp H
  obtain ⟨t154, A50, H⟩ := H
  replace H : (if t154 = true then ((slices_Equal_bool_bool.f k l0_2 l1_2).bind fun t155 => (if t155 = true then ((slices_Equal_int_int.f k l0_3 l1_3).bind fun t156 => (some t156)) else (some false))) else (some false)) = some r := H
  have A5 := Ya A50
  clear A50
  by_cases c6 : t154 = true
  ·subst c6
   have H1 : ((slices_Equal_bool_bool.f k l0_2 l1_2).bind fun t155 => (if t155 = true then ((slices_Equal_int_int.f k l0_3 l1_3).bind fun t156 => (some t156)) else (some false))) = some r := by rw [if_pos rfl] at H; exact H
   clear H
   have H := H1
   clear H1
   replace H := Z37.mp H
   obtain ⟨t155, A70, H⟩ := H
   replace H : (if t155 = true then ((slices_Equal_int_int.f k l0_3 l1_3).bind fun t156 => (some t156)) else (some false)) = some r := H
   have A7 := Ya A70
   clear A70
   by_cases c8 : t155 = true
   ·subst c8
    have H1 : ((slices_Equal_int_int.f k l0_3 l1_3).bind fun t156 => (some t156)) = some r := by rw [if_pos rfl] at H; exact H
    clear H
    have H := H1
    clear H1
    replace H := Z37.mp H
    obtain ⟨t156, A90, H⟩ := H
    replace H : (some t156) = some r := H
    have A9 := Ya A90
    clear A90
    obtain rfl := Option.some.inj H
    go_enter Try.func53, Try.ntmps53
    go_wp2_with (first | ((with_reducible refine gate_dst (N := 2) rfl ?_); refine Yx 2 #[.slice A0_0 l0_0.length c0_0, .slice A0_1 l0_1.length c0_1, .slice A0_2 l0_2.length c0_2, .slice A0_3 l0_3.length c0_3] 33 ?_; intro gb151 hg w10 hbox hb; have BK151 := Ya hbox; have GE151 := Yg hg; replace HB := Yh hb; clear hb hbox hg) | ((with_reducible refine gate_dst (N := 3) rfl ?_); refine Yx 3 #[.slice A1_0 l1_0.length c1_0, .slice A1_1 l1_1.length c1_1, .slice A1_2 l1_2.length c1_2, .slice A1_3 l1_3.length c1_3] 33 ?_; intro gb152 hg w11 hbox hb; have BK152 := Ya hbox; have GE152 := Yg hg; replace HB := Yh hb; have NB151_152 := Yn BK151 hg; have NB152_151 := Ym BK151 hg; replace BK151 := Yb BK151 hb; clear hb hbox hg; have hnb12 := NB151_152.out; have hnc12 := NB152_151.out; have hz13 := Y4 BK151.out; have hz14 := Y4 BK152.out) | ((with_reducible refine gate_callee (f := 67) rfl ?_); refine Yz 9 Try.func67 #[.slice A0_0 l0_0.length c0_0, .slice A1_0 l1_0.length c1_0] ?_; (with_reducible refine (slices_Equal_int_int.calls k _ _ l0_0 _ _ l1_0 true _ (Yc (Z23 HR0_0.out HB.out)) HC0_0.out (Yc (Z23 HR1_0.out HB.out)) HC1_0.out A3.out).mono ?_); rintro e w' ⟨rfl, ⟨nd, rfl⟩⟩; refine ⟨_, rfl, ?_⟩) | (go_at_call 67; (with_reducible refine (slices_Equal_int_int.calls k _ _ l0_1 _ _ l1_1 true _ ?side1 HC0_1.out ?side3 HC1_1.out A5.out).mono ?_); (case side1 => exact Yc (Z23 HR0_1.out Q0)); (case side3 => exact Yc (Z23 HR1_1.out Q0)); rintro e w' ⟨rfl, ⟨nd, rfl⟩⟩) | (go_at_call 68; (with_reducible refine (slices_Equal_bool_bool.calls k _ _ l0_2 _ _ l1_2 true _ ?side1 HC0_2.out ?side3 HC1_2.out A7.out).mono ?_); (case side1 => exact Yc (Z23 HR0_2.out Q0)); (case side3 => exact Yc (Z23 HR1_2.out Q0)); rintro e w' ⟨rfl, ⟨nd, rfl⟩⟩) | (go_at_call 67; (with_reducible refine (slices_Equal_int_int.calls k _ _ l0_3 _ _ l1_3 t156 _ ?side1 HC0_3.out ?side3 HC1_3.out A9.out).mono ?_); (case side1 => exact Yc (Z23 HR0_3.out Q0)); (case side3 => exact Yc (Z23 HR1_3.out Q0)); rintro e w' ⟨rfl, ⟨nd, rfl⟩⟩))
    go_ret
    exact ⟨Q1, Q12⟩
   ·replace c8 := Bool.eq_false_iff.mpr c8
    subst c8
    have H1 : (some false) = some r := by rw [if_neg (show ¬ (false = true) by decide)] at H; exact H
    clear H
    have H := H1
    clear H1
    obtain rfl := Option.some.inj H
    go_enter Try.func53, Try.ntmps53
    go_wp2_with (first | ((with_reducible refine gate_dst (N := 2) rfl ?_); refine Yx 2 #[.slice A0_0 l0_0.length c0_0, .slice A0_1 l0_1.length c0_1, .slice A0_2 l0_2.length c0_2, .slice A0_3 l0_3.length c0_3] 33 ?_; intro gb151 hg w15 hbox hb; have BK151 := Ya hbox; have GE151 := Yg hg; replace HB := Yh hb; clear hb hbox hg) | ((with_reducible refine gate_dst (N := 3) rfl ?_); refine Yx 3 #[.slice A1_0 l1_0.length c1_0, .slice A1_1 l1_1.length c1_1, .slice A1_2 l1_2.length c1_2, .slice A1_3 l1_3.length c1_3] 33 ?_; intro gb152 hg w16 hbox hb; have BK152 := Ya hbox; have GE152 := Yg hg; replace HB := Yh hb; have NB151_152 := Yn BK151 hg; have NB152_151 := Ym BK151 hg; replace BK151 := Yb BK151 hb; clear hb hbox hg; have hnb17 := NB151_152.out; have hnc17 := NB152_151.out; have hz18 := Y4 BK151.out; have hz19 := Y4 BK152.out) | ((with_reducible refine gate_callee (f := 67) rfl ?_); refine Yz 9 Try.func67 #[.slice A0_0 l0_0.length c0_0, .slice A1_0 l1_0.length c1_0] ?_; (with_reducible refine (slices_Equal_int_int.calls k _ _ l0_0 _ _ l1_0 true _ (Yc (Z23 HR0_0.out HB.out)) HC0_0.out (Yc (Z23 HR1_0.out HB.out)) HC1_0.out A3.out).mono ?_); rintro e w' ⟨rfl, ⟨nd, rfl⟩⟩; refine ⟨_, rfl, ?_⟩) | (go_at_call 67; (with_reducible refine (slices_Equal_int_int.calls k _ _ l0_1 _ _ l1_1 true _ ?side1 HC0_1.out ?side3 HC1_1.out A5.out).mono ?_); (case side1 => exact Yc (Z23 HR0_1.out Q0)); (case side3 => exact Yc (Z23 HR1_1.out Q0)); rintro e w' ⟨rfl, ⟨nd, rfl⟩⟩) | (go_at_call 68; (with_reducible refine (slices_Equal_bool_bool.calls k _ _ l0_2 _ _ l1_2 false _ ?side1 HC0_2.out ?side3 HC1_2.out A7.out).mono ?_); (case side1 => exact Yc (Z23 HR0_2.out Q0)); (case side3 => exact Yc (Z23 HR1_2.out Q0)); rintro e w' ⟨rfl, ⟨nd, rfl⟩⟩))
    go_ret
    exact ⟨Q1, Q12⟩
  ·replace c6 := Bool.eq_false_iff.mpr c6
   subst c6
   have H1 : (some false) = some r := by rw [if_neg (show ¬ (false = true) by decide)] at H; exact H
   clear H
   have H := H1
   clear H1
   obtain rfl := Option.some.inj H
   go_enter Try.func53, Try.ntmps53
   go_wp2_with (first | ((with_reducible refine gate_dst (N := 2) rfl ?_); refine Yx 2 #[.slice A0_0 l0_0.length c0_0, .slice A0_1 l0_1.length c0_1, .slice A0_2 l0_2.length c0_2, .slice A0_3 l0_3.length c0_3] 33 ?_; intro gb151 hg w20 hbox hb; have BK151 := Ya hbox; have GE151 := Yg hg; replace HB := Yh hb; clear hb hbox hg) | ((with_reducible refine gate_dst (N := 3) rfl ?_); refine Yx 3 #[.slice A1_0 l1_0.length c1_0, .slice A1_1 l1_1.length c1_1, .slice A1_2 l1_2.length c1_2, .slice A1_3 l1_3.length c1_3] 33 ?_; intro gb152 hg w21 hbox hb; have BK152 := Ya hbox; have GE152 := Yg hg; replace HB := Yh hb; have NB151_152 := Yn BK151 hg; have NB152_151 := Ym BK151 hg; replace BK151 := Yb BK151 hb; clear hb hbox hg; have hnb22 := NB151_152.out; have hnc22 := NB152_151.out; have hz23 := Y4 BK151.out; have hz24 := Y4 BK152.out) | ((with_reducible refine gate_callee (f := 67) rfl ?_); refine Yz 9 Try.func67 #[.slice A0_0 l0_0.length c0_0, .slice A1_0 l1_0.length c1_0] ?_; (with_reducible refine (slices_Equal_int_int.calls k _ _ l0_0 _ _ l1_0 true _ (Yc (Z23 HR0_0.out HB.out)) HC0_0.out (Yc (Z23 HR1_0.out HB.out)) HC1_0.out A3.out).mono ?_); rintro e w' ⟨rfl, ⟨nd, rfl⟩⟩; refine ⟨_, rfl, ?_⟩) | (go_at_call 67; (with_reducible refine (slices_Equal_int_int.calls k _ _ l0_1 _ _ l1_1 false _ ?side1 HC0_1.out ?side3 HC1_1.out A5.out).mono ?_); (case side1 => exact Yc (Z23 HR0_1.out Q0)); (case side3 => exact Yc (Z23 HR1_1.out Q0)); rintro e w' ⟨rfl, ⟨nd, rfl⟩⟩))
   go_ret
   exact ⟨Q1, Q12⟩
 ·replace c4 := Bool.eq_false_iff.mpr c4
  subst c4
  have H1 : (some false) = some r := by rw [if_neg (show ¬ (false = true) by decide)] at H; exact H
  clear H
  have H := H1
  clear H1
  obtain rfl := Option.some.inj H
  go_enter Try.func53, Try.ntmps53
  go_wp2_with (first | ((with_reducible refine gate_dst (N := 2) rfl ?_); refine Yx 2 #[.slice A0_0 l0_0.length c0_0, .slice A0_1 l0_1.length c0_1, .slice A0_2 l0_2.length c0_2, .slice A0_3 l0_3.length c0_3] 33 ?_; intro gb151 hg w25 hbox hb; have BK151 := Ya hbox; have GE151 := Yg hg; replace HB := Yh hb; clear hb hbox hg) | ((with_reducible refine gate_dst (N := 3) rfl ?_); refine Yx 3 #[.slice A1_0 l1_0.length c1_0, .slice A1_1 l1_1.length c1_1, .slice A1_2 l1_2.length c1_2, .slice A1_3 l1_3.length c1_3] 33 ?_; intro gb152 hg w26 hbox hb; have BK152 := Ya hbox; have GE152 := Yg hg; replace HB := Yh hb; have NB151_152 := Yn BK151 hg; have NB152_151 := Ym BK151 hg; replace BK151 := Yb BK151 hb; clear hb hbox hg; have hnb27 := NB151_152.out; have hnc27 := NB152_151.out; have hz28 := Y4 BK151.out; have hz29 := Y4 BK152.out) | ((with_reducible refine gate_callee (f := 67) rfl ?_); refine Yz 9 Try.func67 #[.slice A0_0 l0_0.length c0_0, .slice A1_0 l1_0.length c1_0] ?_; (with_reducible refine (slices_Equal_int_int.calls k _ _ l0_0 _ _ l1_0 false _ (Yc (Z23 HR0_0.out HB.out)) HC0_0.out (Yc (Z23 HR1_0.out HB.out)) HC1_0.out A3.out).mono ?_); rintro e w' ⟨rfl, ⟨nd, rfl⟩⟩; refine ⟨_, rfl, ?_⟩))
  go_ret
  exact ⟨Q1, Q12⟩
def impl_IsFocus.f (k : Nat) (l0_0 : List Int) (l0_1 : List Int) (l0_2 : List Bool) (l0_3 : List Int) : Option (Bool) := (impl_areFocusBases.f k l0_0).bind fun t158 => (if t158 = true then ((impl_areDigits.f k l0_0 l0_1).bind fun t159 => (if t159 = true then ((impl_mixedRank.f k l0_0 l0_1).bind fun t160 => ((impl_focusAt.f k l0_0 t160).bind fun bt161 => ((impl_Focus_same.f k l0_0 l0_1 l0_2 l0_3 bt161.1 bt161.2.1 bt161.2.2.1 bt161.2.2.2).bind fun t173 => (some t173)))) else (some false))) else (some false))
theorem impl_IsFocus.mono : ∀ a0 a1 a2 a3 k, LeO (impl_IsFocus.f k a0 a1 a2 a3) (impl_IsFocus.f (k + 1) a0 a1 a2 a3) := by
 intro a0 a1 a2 a3 k
 unfold impl_IsFocus.f
 repeat' first
   | (with_reducible exact impl_Focus_same.mono _ _ _ _ _ _ _ _ _)
   | (with_reducible exact impl_areDigits.mono _ _ _)
   | (with_reducible exact impl_areFocusBases.mono _ _)
   | (with_reducible exact impl_focusAt.mono _ _ _)
   | (with_reducible exact impl_mixedRank.mono _ _ _)
   | (with_reducible exact LeO.refl _)
   | (with_reducible exact LeO.none _)
   | (with_reducible refine LeO.ite ?_ ?_)
   | (with_reducible refine LeO.bind ?_ (fun _ => ?_))
   | exact impl_Focus_same.mono _ _ _ _ _ _ _ _ _
   | exact impl_areDigits.mono _ _ _
   | exact impl_areFocusBases.mono _ _
   | exact impl_focusAt.mono _ _ _
   | exact impl_mixedRank.mono _ _ _
   | exact LeO.none _
   | refine LeO.ite ?_ ?_
   | refine LeO.bind ?_ (fun _ => ?_)
def impl_IsFocus.T1 : Bool × List (List Nat × List Nat) := (true, [([], []), ([0], [0]), ([1], [1]), ([2, 2], [2]), ([3], [3]), ([4, 3], [3, 4]), ([3], [3]), ([6, 3], [3, 6]), ([5, 7, 3, 3], [3, 5, 7]), ([3, 8], [3, 8]), ([9, 8], [9]), ([10], [10]), ([10], [10]), ([12, 10], [10, 12]), ([10], [10]), ([14, 10], [10, 14]), ([10], [10]), ([16, 10], [10, 16]), ([15, 17, 10, 10], [10, 15, 17]), ([13, 18, 18, 10], [10, 13, 18]), ([11, 19, 19, 10], [10, 11, 19]), ([10, 20], [10, 20]), ([21, 20, 0, 1, 2, 3, 4, 5, 6, 7, 8, 9, 10, 11, 12, 13, 14, 15, 16, 17, 18, 19, 20, 21], [21])])
def impl_IsFocus.B1 : List Nat := [0, 1, 3, 7, 15, 31, 15, 79, 255, 511, 1023, 2047, 2047, 6143, 2047, 18431, 2047, 67583, 247807, 522239, 1048575, 2097151, 4194303]
theorem impl_IsFocus.tab1 : rtab .any (opsOf Try.f24 1) = impl_IsFocus.T1 := by kernel_rfl
theorem impl_IsFocus.bits1 : waitsOk impl_IsFocus.T1.2 impl_IsFocus.B1 = true := by kernel_rfl
set_option maxHeartbeats 8000000 in
set_option maxRecDepth 100000 in
theorem impl_IsFocus.calls (k : Nat) (A0_0 : Option Addr) (c0_0 : Nat) (l0_0 : List Int) (A0_1 : Option Addr) (c0_1 : Nat) (l0_1 : List Int) (A0_2 : Option Addr) (c0_2 : Nat) (l0_2 : List Bool) (A0_3 : Option Addr) (c0_3 : Nat) (l0_3 : List Int) (r : Bool) (w : World) (hr0_0 : Kd.C (Kd.int .i64) w A0_0 l0_0.length l0_0) (hc0_0 : l0_0.length ≤ c0_0) (hr0_1 : Kd.C (Kd.int .i64) w A0_1 l0_1.length l0_1) (hc0_1 : l0_1.length ≤ c0_1) (hr0_2 : Kd.C Kd.bool w A0_2 l0_2.length l0_2) (hc0_2 : l0_2.length ≤ c0_2) (hr0_3 : Kd.C (Kd.int .i64) w A0_3 l0_3.length l0_3) (hc0_3 : l0_3.length ≤ c0_3) (h : impl_IsFocus.f k l0_0 l0_1 l0_2 l0_3 = some r) :
  Calls Try.prog 24 #[.agg #[.slice A0_0 l0_0.length c0_0, .slice A0_1 l0_1.length c0_1, .slice A0_2 l0_2.length c0_2, .slice A0_3 l0_3.length c0_3]] w fun e w' => e = .returned (.bool r) ∧ Below w.heap.size w w' := by
 have hu33 := Try.underlying33
 have HR0_0 := Ya hr0_0
 have HC0_0 := Ya hc0_0
 clear hr0_0 hc0_0
 have HR0_1 := Ya hr0_1
 have HC0_1 := Ya hc0_1
 clear hr0_1 hc0_1
 have HR0_2 := Ya hr0_2
 have HC0_2 := Ya hc0_2
 clear hr0_2 hc0_2
 have HR0_3 := Ya hr0_3
 have HC0_3 := Ya hc0_3
 clear hr0_3 hc0_3
 have HB := Ya (Below.refl w.heap.size w)
 have H : ((impl_areFocusBases.f k l0_0).bind fun t158 => (if t158 = true then ((impl_areDigits.f k l0_0 l0_1).bind fun t159 => (if t159 = true then ((impl_mixedRank.f k l0_0 l0_1).bind fun t160 => ((impl_focusAt.f k l0_0 t160).bind fun bt161 => ((impl_Focus_same.f k l0_0 l0_1 l0_2 l0_3 bt161.1 bt161.2.1 bt161.2.2.1 bt161.2.2.2).bind fun t173 => (some t173)))) else (some false))) else (some false))) = some r := h
 clear h
 replace H := Z37.mp H
 obtain ⟨t158, A20, H⟩ := H
 replace H : (if t158 = true then ((impl_areDigits.f k l0_0 l0_1).bind fun t159 => (if t159 = true then ((impl_mixedRank.f k l0_0 l0_1).bind fun t160 => ((impl_focusAt.f k l0_0 t160).bind fun bt161 => ((impl_Focus_same.f k l0_0 l0_1 l0_2 l0_3 bt161.1 bt161.2.1 bt161.2.2.1 bt161.2.2.2).bind fun t173 => (some t173)))) else (some false))) else (some false)) = some r := H
 have A2 := Ya A20
 clear A20
 by_cases c3 : t158 = true
 ·subst c3
  have H1 : ((impl_areDigits.f k l0_0 l0_1).bind fun t159 => (if t159 = true then ((impl_mixedRank.f k l0_0 l0_1).bind fun t160 => ((impl_focusAt.f k l0_0 t160).bind fun bt161 => ((impl_Focus_same.f k l0_0 l0_1 l0_2 l0_3 bt161.1 bt161.2.1 bt161.2.2.1 bt161.2.2.2).bind fun t173 => (some t173)))) else (some false))) = some r := by rw [if_pos rfl] at H; exact H
  clear H
  have H := H1
  clear H1
  replace H := Z37.mp H
  obtain ⟨t159, A40, H⟩ := H
  replace H : (if t159 = true then ((impl_mixedRank.f k l0_0 l0_1).bind fun t160 => ((impl_focusAt.f k l0_0 t160).bind fun bt161 => ((impl_Focus_same.f k l0_0 l0_1 l0_2 l0_3 bt161.1 bt161.2.1 bt161.2.2.1 bt161.2.2.2).bind fun t173 => (some t173)))) else (some false)) = some r := H
  have A4 := Ya A40
  clear A40
  by_cases c5 : t159 = true
  ·subst c5
   have H1 : ((impl_mixedRank.f k l0_0 l0_1).bind fun t160 => ((impl_focusAt.f k l0_0 t160).bind fun bt161 => ((impl_Focus_same.f k l0_0 l0_1 l0_2 l0_3 bt161.1 bt161.2.1 bt161.2.2.1 bt161.2.2.2).bind fun t173 => (some t173)))) = some r := by rw [if_pos rfl] at H; exact H
   clear H
   have H := H1
   clear H1
   replace H := Z37.mp H
   obtain ⟨t160, A60, H⟩ := H
   replace H : ((impl_focusAt.f k l0_0 t160).bind fun bt161 => ((impl_Focus_same.f k l0_0 l0_1 l0_2 l0_3 bt161.1 bt161.2.1 bt161.2.2.1 bt161.2.2.2).bind fun t173 => (some t173))) = some r := H
   have A6 := Ya A60
   clear A60
   replace H := Z37.mp H
   obtain ⟨⟨t161, t164, t167, t170⟩, A70, H⟩ := H
   replace H : ((impl_Focus_same.f k l0_0 l0_1 l0_2 l0_3 t161 t164 t167 t170).bind fun t173 => (some t173)) = some r := H
   have A7 := Ya A70
   clear A70
   replace H := Z37.mp H
   obtain ⟨t173, A80, H⟩ := H
   replace H : (some t173) = some r := H
   have A8 := Ya A80
   clear A80
   obtain rfl := Option.some.inj H
   go_enter Try.func24, Try.ntmps24
   try go_wp2_with (first | ((with_reducible refine gate_dst (N := 1) rfl ?_); refine Yx 1 #[.slice A0_0 l0_0.length c0_0, .slice A0_1 l0_1.length c0_1, .slice A0_2 l0_2.length c0_2, .slice A0_3 l0_3.length c0_3] 33 ?_; intro gb157 hg w9 hbox hb; have BK157 := Ya hbox; have GE157 := Yg hg; replace HB := Yh hb; clear hb hbox hg))
   replace BK157 := Ya (Z27 BK157.out)
   replace HB := Ya (Z4 HB.out)
   refine start_ (n := 23) (S := fun w' => w'.cell? ⟨gb157, 0, none⟩ = some (.slice A0_0 l0_0.length c0_0) ∧ w'.cell? ⟨gb157, 1, none⟩ = some (.slice A0_1 l0_1.length c0_1) ∧ w'.cell? ⟨gb157, 2, none⟩ = some (.slice A0_2 l0_2.length c0_2) ∧ w'.cell? ⟨gb157, 3, none⟩ = some (.slice A0_3 l0_3.length c0_3)) (ds := []) (YA 23 0) (by kernel_rfl) rfl rfl (Yz4 BK157.out) (fun hHeld => ?_); refine with_tabW impl_IsFocus.tab1 impl_IsFocus.bits1 (fun HT_ HW_ => ?_)
   generalize w9.drew = w10 at BK157 HB hHeld ⊢
   refine Yp 0 (some 3) (YA 23 1) rfl HT_.out ?_
   refine Yt 1 (some 4) (YA 23 3) rfl HT_.out HW_.out hHeld Q8 ?_
   refine one_ (i := 2) (N := some 5) (YA 23 7) rfl rfl (one_of HT_.out (by kernel_rfl)) (by decide) (fun K hK => ?_)
   refine goes_ Try.func29 (by kernel_rfl) rfl #[.slice A0_0 l0_0.length c0_0] (by rfl) rfl rfl Q5 ?_
   with_reducible refine (impl_areFocusBases.calls k _ _ l0_0 true _ ?side1 ?side2 A2.out).mono ?_
   (case side1 => exact Yc (Z23 HR0_0.out HB.out))
   (case side2 => exact HC0_0.out)
   rintro e w11 ⟨rfl, hb⟩
   refine ⟨_, rfl, ?_⟩
   replace BK157 := Yb BK157 hb
   replace HB := Yh hb
   (try clear hb)
   refine hK.out _ _ (Yz4 BK157.out) (fun hHeld => ?_)
   clear hK K
   refine norm_ (a' := ?_) ?_ ?_
   rotate_left
   ·show Act.put _ (some 5) _ = _
    simp only [Act.put, Z0, Z1, Z2, i64_w, i32_w]
    rfl
   refine Yp 3 (some 6) (YA 23 15) rfl HT_.out ?_
   refine Yp 4 (some 7) (YA 23 31) rfl HT_.out ?_
   refine Yp 6 (some 9) (YA 23 95) rfl HT_.out ?_
   refine Yt 5 (some 8) (YA 23 127) rfl HT_.out HW_.out hHeld Q8 ?_
   refine Yt 7 (some 10) (YA 23 255) rfl HT_.out HW_.out hHeld Q8 ?_
   refine one_ (i := 8) (N := some 11) (YA 23 511) rfl rfl (one_of HT_.out (by kernel_rfl)) (by decide) (fun K hK => ?_)
   refine goes_ Try.func52 (by kernel_rfl) rfl #[.slice A0_0 l0_0.length c0_0, .slice A0_1 l0_1.length c0_1] (by rfl) rfl rfl Q5 ?_
   with_reducible refine (impl_areDigits.calls k _ _ l0_0 _ _ l0_1 true _ ?side1 ?side2 ?side3 ?side4 A4.out).mono ?_
   (case side1 => exact Yc (Z23 HR0_0.out HB.out))
   (case side2 => exact HC0_0.out)
   (case side3 => exact Yc (Z23 HR0_1.out HB.out))
   (case side4 => exact HC0_1.out)
   rintro e w' ⟨rfl, ⟨nd, rfl⟩⟩
   refine ⟨_, rfl, ?_⟩
   refine hK.out _ _ (Yz4 BK157.out) (fun hHeld => ?_)
   clear hK K
   refine norm_ (a' := ?_) ?_ ?_
   rotate_left
   ·show Act.put _ (some 11) _ = _
    simp only [Act.put, Z0, Z1, Z2, i64_w, i32_w]
    rfl
   refine Yp 9 (some 12) (YA 23 1023) rfl HT_.out ?_
   refine Yp 10 (some 13) (YA 23 2047) rfl HT_.out ?_
   refine Yp 12 (some 15) (YA 23 6143) rfl HT_.out ?_
   refine Yp 14 (some 17) (YA 23 22527) rfl HT_.out ?_
   refine Yp 16 (some 19) (YA 23 88063) rfl HT_.out ?_
   refine Yt 11 (some 14) (YA 23 90111) rfl HT_.out HW_.out hHeld Q8 ?_
   refine Yt 13 (some 16) (YA 23 98303) rfl HT_.out HW_.out hHeld Q8 ?_
   refine Yt 15 (some 18) (YA 23 131071) rfl HT_.out HW_.out hHeld Q8 ?_
   refine Yt 17 (some 20) (YA 23 262143) rfl HT_.out HW_.out hHeld Q8 ?_
   refine one_ (i := 18) (N := some 21) (YA 23 524287) rfl rfl (one_of HT_.out (by kernel_rfl)) (by decide) (fun K hK => ?_)
   refine goes_ Try.func47 (by kernel_rfl) rfl #[.slice A0_0 l0_0.length c0_0, .slice A0_1 l0_1.length c0_1] (by rfl) rfl rfl Q5 ?_
   with_reducible refine (impl_mixedRank.calls k _ _ l0_0 _ _ l0_1 t160 _ ?side1 ?side2 ?side3 ?side4 A6.out).mono ?_
   (case side1 => exact Yc (Z23 HR0_0.out Q0))
   (case side2 => exact HC0_0.out)
   (case side3 => exact Yc (Z23 HR0_1.out Q0))
   (case side4 => exact HC0_1.out)
   rintro e w12 ⟨rfl, hb⟩
   refine ⟨_, rfl, ?_⟩
   replace BK157 := Yb BK157 hb
   replace HB := Yh hb
   (try clear hb)
   refine hK.out _ _ (Yz4 BK157.out) (fun hHeld => ?_)
   clear hK K
   refine norm_ (a' := ?_) ?_ ?_
   rotate_left
   ·show Act.put _ (some 21) _ = _
    simp only [Act.put, Z0, Z1, Z2, i64_w, i32_w]
    rfl
   refine one_ (i := 19) (N := some 22) (YA 23 1048575) rfl rfl (one_of HT_.out (by kernel_rfl)) (by decide) (fun K hK => ?_)
   refine goes_ Try.func42 (by kernel_rfl) rfl #[.slice A0_0 l0_0.length c0_0, .int .i64 t160] (by rfl) rfl rfl Q5 ?_
   with_reducible refine (impl_focusAt.calls k _ _ l0_0 t160 t161 t164 t167 t170 _ ?side1 ?side2 A7.out).mono ?_
   (case side1 => exact Yc (Z23 HR0_0.out HB.out))
   (case side2 => exact HC0_0.out)
   rintro e w13 ⟨v162, v165, v168, v171, rfl, ho0, ho1, ho2, ho3, hb⟩
   refine ⟨_, rfl, ?_⟩
   have HO163 := Yl ho0
   have HO166 := Yl ho1
   have HO169 := Yl ho2
   have HO172 := Yl ho3
   replace BK157 := Yb BK157 hb
   replace HB := Yh hb
   (try clear hb ho0 ho1 ho2 ho3)
   obtain ⟨Ao14, co14, eo14⟩ := Z19 HO163.out
   (first | subst eo14 | (injection eo14 with f1_ f2_ f3_; have f4_ := f1_.symm; have f5_ := f3_.symm; clear f1_ f2_ f3_; subst f4_; subst f5_))
   obtain ⟨Ao15, co15, eo15⟩ := Z19 HO166.out
   (first | subst eo15 | (injection eo15 with f1_ f2_ f3_; have f4_ := f1_.symm; have f5_ := f3_.symm; clear f1_ f2_ f3_; subst f4_; subst f5_))
   obtain ⟨Ao16, co16, eo16⟩ := Z19 HO169.out
   (first | subst eo16 | (injection eo16 with f1_ f2_ f3_; have f4_ := f1_.symm; have f5_ := f3_.symm; clear f1_ f2_ f3_; subst f4_; subst f5_))
   obtain ⟨Ao17, co17, eo17⟩ := Z19 HO172.out
   (first | subst eo17 | (injection eo17 with f1_ f2_ f3_; have f4_ := f1_.symm; have f5_ := f3_.symm; clear f1_ f2_ f3_; subst f4_; subst f5_))
   refine hK.out _ _ (Yz4 BK157.out) (fun hHeld => ?_)
   clear hK K
   refine norm_ (a' := ?_) ?_ ?_
   rotate_left
   ·show Act.put _ (some 22) _ = _
    simp only [Act.put, Z0, Z1, Z2, i64_w, i32_w]
    rfl
   refine one_ (i := 20) (N := some 23) (YA 23 2097151) rfl rfl (one_of HT_.out (by kernel_rfl)) (by decide) (fun K hK => ?_)
   refine goes_ Try.func53 (by kernel_rfl) rfl #[.agg #[.slice A0_0 l0_0.length c0_0, .slice A0_1 l0_1.length c0_1, .slice A0_2 l0_2.length c0_2, .slice A0_3 l0_3.length c0_3], .agg #[.slice Ao14 t161.length co14, .slice Ao15 t164.length co15, .slice Ao16 t167.length co16, .slice Ao17 t170.length co17]] (by rfl) rfl rfl Q5 ?_
   with_reducible refine (impl_Focus_same.calls k _ _ l0_0 _ _ l0_1 _ _ l0_2 _ _ l0_3 _ _ t161 _ _ t164 _ _ t167 _ _ t170 t173 _ ?side1 ?side2 ?side3 ?side4 ?side5 ?side6 ?side7 ?side8 ?side9 ?side10 ?side11 ?side12 ?side13 ?side14 ?side15 ?side16 A8.out).mono ?_
   (case side1 => exact Yc (Z23 HR0_0.out HB.out))
   (case side2 => exact HC0_0.out)
   (case side3 => exact Yc (Z23 HR0_1.out HB.out))
   (case side4 => exact HC0_1.out)
   (case side5 => exact Yc (Z23 HR0_2.out HB.out))
   (case side6 => exact HC0_2.out)
   (case side7 => exact Yc (Z23 HR0_3.out HB.out))
   (case side8 => exact HC0_3.out)
   (case side9 => exact Yc (Kd.R_reads' HO163.out).2.2)
   (case side10 => exact (Kd.R_reads' HO163.out).2.1)
   (case side11 => exact Yc (Kd.R_reads' HO166.out).2.2)
   (case side12 => exact (Kd.R_reads' HO166.out).2.1)
   (case side13 => exact Yc (Kd.R_reads' HO169.out).2.2)
   (case side14 => exact (Kd.R_reads' HO169.out).2.1)
   (case side15 => exact Yc (Kd.R_reads' HO172.out).2.2)
   (case side16 => exact (Kd.R_reads' HO172.out).2.1)
   rintro e w18 ⟨rfl, hb⟩
   refine ⟨_, rfl, ?_⟩
   replace HO163 := Yw HO163 hb
   replace HO166 := Yw HO166 hb
   replace HO169 := Yw HO169 hb
   replace HO172 := Yw HO172 hb
   replace BK157 := Yb BK157 hb
   replace HB := Yh hb
   (try clear hb)
   refine hK.out _ _ (Yz4 BK157.out) (fun hHeld => ?_)
   clear hK K
   refine norm_ (a' := ?_) ?_ ?_
   rotate_left
   ·show Act.put _ (some 23) _ = _
    simp only [Act.put, Z0, Z1, Z2, i64_w, i32_w]
    rfl
   refine Yp 21 (some 24) (YA 23 4194303) rfl HT_.out ?_
   refine Yp 22 (some 2) (YA 23 8388607) rfl HT_.out ?_
   refine done_ (done_of HT_.out (by kernel_rfl)) ?_
   try go_wp2
   go_ret
   exact ⟨Q1, Q12⟩
  ·replace c5 := Bool.eq_false_iff.mpr c5
   subst c5
   have H1 : (some false) = some r := by rw [if_neg (show ¬ (false = true) by decide)] at H; exact H
   clear H
   have H := H1
   clear H1
   obtain rfl := Option.some.inj H
   go_enter Try.func24, Try.ntmps24
   try go_wp2_with (first | ((with_reducible refine gate_dst (N := 1) rfl ?_); refine Yx 1 #[.slice A0_0 l0_0.length c0_0, .slice A0_1 l0_1.length c0_1, .slice A0_2 l0_2.length c0_2, .slice A0_3 l0_3.length c0_3] 33 ?_; intro gb157 hg w19 hbox hb; have BK157 := Ya hbox; have GE157 := Yg hg; replace HB := Yh hb; clear hb hbox hg))
   replace BK157 := Ya (Z27 BK157.out)
   replace HB := Ya (Z4 HB.out)
   refine start_ (n := 23) (S := fun w' => w'.cell? ⟨gb157, 0, none⟩ = some (.slice A0_0 l0_0.length c0_0) ∧ w'.cell? ⟨gb157, 1, none⟩ = some (.slice A0_1 l0_1.length c0_1) ∧ w'.cell? ⟨gb157, 2, none⟩ = some (.slice A0_2 l0_2.length c0_2) ∧ w'.cell? ⟨gb157, 3, none⟩ = some (.slice A0_3 l0_3.length c0_3)) (ds := []) (YA 23 0) (by kernel_rfl) rfl rfl (Yz4 BK157.out) (fun hHeld => ?_); refine with_tabW impl_IsFocus.tab1 impl_IsFocus.bits1 (fun HT_ HW_ => ?_)
   generalize w19.drew = w20 at BK157 HB hHeld ⊢
   refine Yp 0 (some 3) (YA 23 1) rfl HT_.out ?_
   refine Yt 1 (some 4) (YA 23 3) rfl HT_.out HW_.out hHeld Q8 ?_
   refine one_ (i := 2) (N := some 5) (YA 23 7) rfl rfl (one_of HT_.out (by kernel_rfl)) (by decide) (fun K hK => ?_)
   refine goes_ Try.func29 (by kernel_rfl) rfl #[.slice A0_0 l0_0.length c0_0] (by rfl) rfl rfl Q5 ?_
   with_reducible refine (impl_areFocusBases.calls k _ _ l0_0 true _ ?side1 ?side2 A2.out).mono ?_
   (case side1 => exact Yc (Z23 HR0_0.out HB.out))
   (case side2 => exact HC0_0.out)
   rintro e w21 ⟨rfl, hb⟩
   refine ⟨_, rfl, ?_⟩
   replace BK157 := Yb BK157 hb
   replace HB := Yh hb
   (try clear hb)
   refine hK.out _ _ (Yz4 BK157.out) (fun hHeld => ?_)
   clear hK K
   refine norm_ (a' := ?_) ?_ ?_
   rotate_left
   ·show Act.put _ (some 5) _ = _
    simp only [Act.put, Z0, Z1, Z2, i64_w, i32_w]
    rfl
   refine Yp 3 (some 6) (YA 23 15) rfl HT_.out ?_
   refine Yp 4 (some 7) (YA 23 31) rfl HT_.out ?_
   refine Yp 6 (some 9) (YA 23 95) rfl HT_.out ?_
   refine Yt 5 (some 8) (YA 23 127) rfl HT_.out HW_.out hHeld Q8 ?_
   refine Yt 7 (some 10) (YA 23 255) rfl HT_.out HW_.out hHeld Q8 ?_
   refine one_ (i := 8) (N := some 11) (YA 23 511) rfl rfl (one_of HT_.out (by kernel_rfl)) (by decide) (fun K hK => ?_)
   refine goes_ Try.func52 (by kernel_rfl) rfl #[.slice A0_0 l0_0.length c0_0, .slice A0_1 l0_1.length c0_1] (by rfl) rfl rfl Q5 ?_
   with_reducible refine (impl_areDigits.calls k _ _ l0_0 _ _ l0_1 false _ ?side1 ?side2 ?side3 ?side4 A4.out).mono ?_
   (case side1 => exact Yc (Z23 HR0_0.out HB.out))
   (case side2 => exact HC0_0.out)
   (case side3 => exact Yc (Z23 HR0_1.out HB.out))
   (case side4 => exact HC0_1.out)
   rintro e w' ⟨rfl, ⟨nd, rfl⟩⟩
   refine ⟨_, rfl, ?_⟩
   refine hK.out _ _ (Yz4 BK157.out) (fun hHeld => ?_)
   clear hK K
   refine norm_ (a' := ?_) ?_ ?_
   rotate_left
   ·show Act.put _ (some 11) _ = _
    simp only [Act.put, Z0, Z1, Z2, i64_w, i32_w]
    rfl
   refine Yp 9 (some 12) (YA 23 1023) rfl HT_.out ?_
   refine Yp 10 (some 13) (YA 23 2047) rfl HT_.out ?_
   refine YU 11 (some 14) (YA 23 4095) rfl HT_.out ?_
   refine YU 12 (some 15) (YA 23 8191) rfl HT_.out ?_
   refine YU 13 (some 16) (YA 23 16383) rfl HT_.out ?_
   refine YU 14 (some 17) (YA 23 32767) rfl HT_.out ?_
   refine YU 15 (some 18) (YA 23 65535) rfl HT_.out ?_
   refine YU 16 (some 19) (YA 23 131071) rfl HT_.out ?_
   refine YU 17 (some 20) (YA 23 262143) rfl HT_.out ?_
   refine YU 18 (some 21) (YA 23 524287) rfl HT_.out ?_
   refine YU 19 (some 22) (YA 23 1048575) rfl HT_.out ?_
   refine YU 20 (some 23) (YA 23 2097151) rfl HT_.out ?_
   refine Yp 21 (some 24) (YA 23 4194303) rfl HT_.out ?_
   refine Yp 22 (some 2) (YA 23 8388607) rfl HT_.out ?_
   refine done_ (done_of HT_.out (by kernel_rfl)) ?_
   try go_wp2
   go_ret
   exact ⟨Q1, Q12⟩
 ·replace c3 := Bool.eq_false_iff.mpr c3
  subst c3
  have H1 : (some false) = some r := by rw [if_neg (show ¬ (false = true) by decide)] at H; exact H
  clear H
  have H := H1
  clear H1
  obtain rfl := Option.some.inj H
  go_enter Try.func24, Try.ntmps24
  try go_wp2_with (first | ((with_reducible refine gate_dst (N := 1) rfl ?_); refine Yx 1 #[.slice A0_0 l0_0.length c0_0, .slice A0_1 l0_1.length c0_1, .slice A0_2 l0_2.length c0_2, .slice A0_3 l0_3.length c0_3] 33 ?_; intro gb157 hg w22 hbox hb; have BK157 := Ya hbox; have GE157 := Yg hg; replace HB := Yh hb; clear hb hbox hg))
  replace BK157 := Ya (Z27 BK157.out)
  replace HB := Ya (Z4 HB.out)
  refine start_ (n := 23) (S := fun w' => w'.cell? ⟨gb157, 0, none⟩ = some (.slice A0_0 l0_0.length c0_0) ∧ w'.cell? ⟨gb157, 1, none⟩ = some (.slice A0_1 l0_1.length c0_1) ∧ w'.cell? ⟨gb157, 2, none⟩ = some (.slice A0_2 l0_2.length c0_2) ∧ w'.cell? ⟨gb157, 3, none⟩ = some (.slice A0_3 l0_3.length c0_3)) (ds := []) (YA 23 0) (by kernel_rfl) rfl rfl (Yz4 BK157.out) (fun hHeld => ?_); refine with_tabW impl_IsFocus.tab1 impl_IsFocus.bits1 (fun HT_ HW_ => ?_)
  generalize w22.drew = w23 at BK157 HB hHeld ⊢
  refine Yp 0 (some 3) (YA 23 1) rfl HT_.out ?_
  refine Yt 1 (some 4) (YA 23 3) rfl HT_.out HW_.out hHeld Q8 ?_
  refine one_ (i := 2) (N := some 5) (YA 23 7) rfl rfl (one_of HT_.out (by kernel_rfl)) (by decide) (fun K hK => ?_)
  refine goes_ Try.func29 (by kernel_rfl) rfl #[.slice A0_0 l0_0.length c0_0] (by rfl) rfl rfl Q5 ?_
  with_reducible refine (impl_areFocusBases.calls k _ _ l0_0 false _ ?side1 ?side2 A2.out).mono ?_
  (case side1 => exact Yc (Z23 HR0_0.out HB.out))
  (case side2 => exact HC0_0.out)
  rintro e w24 ⟨rfl, hb⟩
  refine ⟨_, rfl, ?_⟩
  replace BK157 := Yb BK157 hb
  replace HB := Yh hb
  (try clear hb)
  refine hK.out _ _ (Yz4 BK157.out) (fun hHeld => ?_)
  clear hK K
  refine norm_ (a' := ?_) ?_ ?_
  rotate_left
  ·show Act.put _ (some 5) _ = _
   simp only [Act.put, Z0, Z1, Z2, i64_w, i32_w]
   rfl
  refine Yp 3 (some 6) (YA 23 15) rfl HT_.out ?_
  refine YU 4 (some 7) (YA 23 31) rfl HT_.out ?_
  refine YU 5 (some 8) (YA 23 63) rfl HT_.out ?_
  refine YU 6 (some 9) (YA 23 127) rfl HT_.out ?_
  refine YU 7 (some 10) (YA 23 255) rfl HT_.out ?_
  refine YU 8 (some 11) (YA 23 511) rfl HT_.out ?_
  refine Yp 9 (some 12) (YA 23 1023) rfl HT_.out ?_
  refine Yp 10 (some 13) (YA 23 2047) rfl HT_.out ?_
  refine YU 11 (some 14) (YA 23 4095) rfl HT_.out ?_
  refine YU 12 (some 15) (YA 23 8191) rfl HT_.out ?_
  refine YU 13 (some 16) (YA 23 16383) rfl HT_.out ?_
  refine YU 14 (some 17) (YA 23 32767) rfl HT_.out ?_
  refine YU 15 (some 18) (YA 23 65535) rfl HT_.out ?_
  refine YU 16 (some 19) (YA 23 131071) rfl HT_.out ?_
  refine YU 17 (some 20) (YA 23 262143) rfl HT_.out ?_
  refine YU 18 (some 21) (YA 23 524287) rfl HT_.out ?_
  refine YU 19 (some 22) (YA 23 1048575) rfl HT_.out ?_
  refine YU 20 (some 23) (YA 23 2097151) rfl HT_.out ?_
  refine Yp 21 (some 24) (YA 23 4194303) rfl HT_.out ?_
  refine Yp 22 (some 2) (YA 23 8388607) rfl HT_.out ?_
  refine done_ (done_of HT_.out (by kernel_rfl)) ?_
  try go_wp2
  go_ret
  exact ⟨Q1, Q12⟩
end Go.Proofs.Ytapbbmicfkbafaa.MFnFocusSteps
