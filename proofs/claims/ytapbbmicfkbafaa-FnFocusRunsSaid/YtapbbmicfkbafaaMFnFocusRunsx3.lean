import Derived.Test.YtapbbmicfkbafaaMFnFocusRunsx0
import Derived.Test.YtapbbmicfkbafaaMFnFocusRunsx2
namespace Go.Proofs.Ytapbbmicfkbafaa.MFnFocusRuns
open Go.RowKit Go.Proofs.YtapbbmicfkbafaaW.PrintWords Go.Proofs.YtapbbmicfkbafaaW.PrintLast Go.Proofs.YtapbbmicfkbafaaW.PrintMore
attribute [local go_sem] max2_int min2_int max_two min_two max_three min_three max_four min_four   
set_option linter.unusedVariables false
set_option linter.unusedSimpArgs false
open Go.Proofs.Ytapbbmicfkbafaa.FoW in
set_option maxHeartbeats 8000000 in
set_option maxRecDepth 100000 in
theorem impl_Focus_step.callsG (CS : Array Value) (T : TypeId) (hT : T ≠ 3 ∧ T ≠ 4) (w0 : World) (g g0 c0 g1 c1 g2 c2 g3 c3 : Nat) (b d : List Int) (u : List Bool) (p d' : List Int) (u' : List Bool) (p' : List Int) (r : Int) (w : World)
  (hs0 : CS[0]? = some (.slice (some ⟨g0, 0, none⟩) b.length c0)) (hs1 : CS[1]? = some (.slice (some ⟨g1, 0, none⟩) d.length c1)) (hs2 : CS[2]? = some (.slice (some ⟨g2, 0, none⟩) u.length c2)) (hs3 : CS[3]? = some (.slice (some ⟨g3, 0, none⟩) p.length c3))
  (hb : w.heap[g]? = some (.cells CS T (0, 0))) (hF : FoR w w0.heap.size g0 c0 g1 c1 g2 c2 g3 c3 b d u p) (hW : Below w0.heap.size w0 w) (h : stepF b d u p = some (d', u', p', r)) :
  Calls Try.prog 38 #[.pointer (some ⟨g, 0, none⟩)] w fun e w' => e = .returned (.int .i64 r) ∧ w'.heap[g]? = w.heap[g]? ∧ FoR w' w0.heap.size g0 c0 g1 c1 g2 c2 g3 c3 b d' u' p' ∧ Kept w w' (Wr g1 g2 g3) ∧ Below w0.heap.size w0 w' := by
 have hne := FoR.apart hF hb hT.1 hT.2
 have BK := Ya hb
 have HS0 := Ya hs0
 have HS1 := Ya hs1
 have HS2 := Ya hs2
 have HS3 := Ya hs3
 clear hs0 hs1 hs2 hs3
 have HB0 := Ya hb
 have HF := Ya hF
 have HK := Ya (Kept.refl w (Wr g1 g2 g3))
 have HW := Ya hW
 unfold stepF at h
 simp only at h
 by_cases hc : 0 ≤ rd p 0 ∧ rd p 0 < b.length ∧ b.length ≤ 1000 ∧ d.length = b.length ∧ u.length = b.length ∧ p.length = b.length + 1 ∧ -1000 ≤ rd d ((b.length : Int) - 1 - rd p 0) ∧ rd d ((b.length : Int) - 1 - rd p 0) ≤ 1000 ∧ -1000 ≤ rd b ((b.length : Int) - 1 - rd p 0) ∧ rd b ((b.length : Int) - 1 - rd p 0) ≤ 1000
 rotate_left
 ·rw [if_neg hc] at h; cases h
 rw [if_pos hc] at h
 obtain ⟨J, hJ⟩ : ∃ J, rd p 0 = J := ⟨_, rfl⟩
 rw [hJ] at h hc
 obtain ⟨I, hI⟩ : ∃ I, (b.length : Int) - 1 - J = I := ⟨_, rfl⟩
 rw [hI] at h hc
 obtain ⟨j0, j1, m0, l1, l2, l3, x0, x1, y0, y1⟩ := hc
 have HL := Ya (show (0 ≤ I ∧ I < b.length) ∧ I < d.length ∧ I < u.length ∧ J + 1 < p.length ∧ J < p.length ∧ 0 < p.length ∧ 0 ≤ J from ⟨⟨by omega, by omega⟩, by omega, by omega, by omega, by omega, by omega, by omega⟩)
 have HX := Ya (show (-1000 ≤ rd d I ∧ rd d I ≤ 1000) ∧ -1000 ≤ rd b I ∧ rd b I ≤ 1000 from ⟨⟨x0, x1⟩, y0, y1⟩)
 have k1 : wrap64 ((b.length : Int) - 1) = (b.length : Int) - 1 := by unfold wrap64; omega
 have k2 : wrap64 (J + 1) = J + 1 := by unfold wrap64; omega
 have k1' : IntKind.i64.wrap ((b.length : Int) - 1) = (b.length : Int) - 1 := (i64_w _).trans k1
 have k2' : IntKind.i64.wrap (J + 1) = J + 1 := (i64_w _).trans k2
 have k3 : wrap64 ((b.length : Int) - 1 - J) = I := by rw [← hI]; unfold wrap64; omega
 have k3' : IntKind.i64.wrap ((b.length : Int) - 1 - J) = I := (i64_w _).trans k3
 have b1 : (J == (b.length : Int)) = false := beq_eq_false_iff_ne.mpr (by omega)
 have b2 : (0 ≤ I) = True := eq_true (by omega)
 have b3 : (I < (u.length : Int)) = True := eq_true (by omega)
 have b4 : (I < (d.length : Int)) = True := eq_true (by omega)
 have b5 : (I < (b.length : Int)) = True := eq_true (by omega)
 have b6 : (0 ≤ J) = True := eq_true (by omega)
 have b7 : (J < (p.length : Int)) = True := eq_true (by omega)
 have b8 : (J + 1 < (p.length : Int)) = True := eq_true (by omega)
 have b9 : (0 ≤ J + 1) = True := eq_true (by omega)
 have b10 : (0 < p.length) = True := eq_true (by omega)
 have b11 : ((0 : Int) < (p.length : Int)) = True := eq_true (by omega)
 have HJ := Ya hJ
 obtain ⟨X, hX⟩ : ∃ X, (if rdOf false u I = true then rd d I + 1 else rd d I - 1) = X := ⟨_, rfl⟩
 rw [hX] at h
 have HH := Ya h
 have HXX := Ya hX
 clear hF hb hW h hJ hI hX j0 j1 m0 l1 l2 l3 x0 x1 y0 y1
 go_enter Try.func38, Try.ntmps38
 go_wp2_with fail
 replace BK := Ya (Z25 BK.out)
 replace HF := Ya (FoR.drew HF.out)
 replace HK := Ya (Kept.drew HK.out)
 replace HW := Ya (Z4 HW.out)
 refine start_ (n := 13) (S := fun w' => w'.cell? ⟨g, 0, none⟩ = some (.slice (some ⟨g0, 0, none⟩) b.length c0) ∧ w'.cell? ⟨g, 3, none⟩ = some (.slice (some ⟨g3, 0, none⟩) p.length c3) ∧ w'.cell? ⟨g3, 0, none⟩ = some (.int .i64 J)) (ds := []) (YA 13 0) (by kernel_rfl) rfl rfl ⟨(Z22 BK.out 0).trans HS0.out, (Z22 BK.out 3).trans HS3.out, (by rw [← HJ.out]; exact (FoR.at3 HF.out 0 (by decide) Q18).1)⟩ (fun hHeld => ?_)
 generalize World.drew _ = w1 at BK HF HK HW hHeld ⊢
 refine Yq 0 (some 6) (YA 13 1) rfl ?_
 refine Yq 1 (some 7) (YA 13 3) rfl ?_
 refine Yq 2 (some 8) (YA 13 7) rfl ?_
 refine Yq 5 (some 11) (YA 13 39) rfl ?_
 refine Yq 6 (some 12) (YA 13 103) rfl ?_
 refine Yq 7 (some 13) (YA 13 231) rfl ?_
 refine Ys 3 (some 9) (YA 13 239) rfl hHeld Q19 ?_
 refine Yq 4 (some 10) (YA 13 255) rfl ?_
 refine Yq 11 (some 3) (YA 13 2303) rfl ?_
 refine Ys 8 (some 14) (YA 13 2559) rfl hHeld Q19 ?_
 refine Yq 9 (some 15) (YA 13 3071) rfl ?_
 refine Ys 10 (some 16) (YA 13 4095) rfl hHeld Q19 ?_
 refine Yq 12 (some 4) (YA 13 8191) rfl ?_
 refine done_ (by kernel_rfl) ?_
 have hc0 := (Z22 BK.out 0).trans HS0.out
 have hc1 := (Z22 BK.out 1).trans HS1.out
 have hc2 := (Z22 BK.out 2).trans HS2.out
 have hc3 := (Z22 BK.out 3).trans HS3.out
 have hx := (FoR.at3 HF.out 0 (by decide) Q18).1
 have hz : World.frozen? _ ⟨g3, 0, none⟩ = false := (FoR.at3 HF.out 0 (by decide) Q18).2
 rw [show (0 : Int).toNat = 0 from rfl] at hx
 go_upto_region 6 with fail
 clear hx hz hc0 hc1 hc2 hc3
 replace BK := Ya (show (World.setCell w1 ⟨g3, 0, none⟩ (.int .i64 0)).heap[g]? = _ from blk_far (p := ⟨g3, 0, none⟩) BK.out hne.2.2.2 (.int .i64 0))
 replace HK := Ya (Kept.setCell HK.out (p := ⟨g3, 0, none⟩) (.inl (.inr (.inr rfl))) (.int .i64 0))
 replace HW := Ya (show Below w0.heap.size w0 (World.setCell w1 ⟨g3, 0, none⟩ (.int .i64 0)) from Z6 HW.out (FoR.ge HF.out).2.2.2)
 replace HF := Ya (show FoR (World.setCell w1 ⟨g3, 0, none⟩ (.int .i64 0)) w0.heap.size g0 c0 g1 c1 g2 c2 g3 c3 b d u (p.set 0 0) from FoR.put3 HF.out 0 0)
 generalize World.setCell w1 ⟨g3, 0, none⟩ (.int .i64 0) = w2 at BK HF HK HW ⊢
 have hc0 := (Z22 BK.out 0).trans HS0.out
 have hc1 := (Z22 BK.out 1).trans HS1.out
 have hc2 := (Z22 BK.out 2).trans HS2.out
 have hc3 := (Z22 BK.out 3).trans HS3.out
 have hx2 := (FoR.at2 HF.out I Q18 Q18).1
 go_upto_if 35 with fail
 go_cut [] (fun wc => Aside0 (wc.heap[g]? = some (.cells CS T (0, 0))) ∧ Aside0 (FoR wc w0.heap.size g0 c0 g1 c1 g2 c2 g3 c3 b (d.set I.toNat X) u (p.set 0 0)) ∧ Aside0 (Kept w wc (Wr g1 g2 g3)) ∧ Aside0 (Below w0.heap.size w0 wc))
 case first =>
  have hx1 := (FoR.at1 HF.out I Q18 Q18).1
  have hz1 := (FoR.at1 HF.out I Q18 Q18).2
  have n0_ := Ya (blk_far (p := ⟨g1, I.toNat, none⟩) BK.out hne.2.1 (.int .i64 X))
  have n1_ := Ya (FoR.put1 HF.out I X)
  have n2_ := Ya (Kept.setCell HK.out (p := ⟨g1, I.toNat, none⟩) (.inl (.inl rfl)) (.int .i64 X))
  have n3_ := Ya (Z6 (j := I.toNat) (v := .int .i64 X) HW.out (FoR.ge HF.out).2.1)
  cases hU : rdOf false u I
  ·have hv : rd d I - 1 = X := by have := HXX.out; rw [hU] at this; simpa using this
   have hw : wrap64 (rd d I - 1) = X := by rw [← hv]; have := HX.out; unfold wrap64; omega
   have hw' : IntKind.i64.wrap (rd d I - 1) = X := (i64_w _).trans hw
   clear hv
   rw [hU] at hx2
   go_wp2
   go_meet
   case rel => exact ⟨n0_, n1_, n2_, n3_⟩
  ·have hv : rd d I + 1 = X := by have := HXX.out; rw [hU] at this; simpa using this
   have hw : wrap64 (rd d I + 1) = X := by rw [← hv]; have := HX.out; unfold wrap64; omega
   have hw' : IntKind.i64.wrap (rd d I + 1) = X := (i64_w _).trans hw
   clear hv
   rw [hU] at hx2
   go_wp2
   go_meet
   case rel => exact ⟨n0_, n1_, n2_, n3_⟩
 case rest =>
  clear hx2 hc0 hc1 hc2 hc3 BK HF HK HW
  obtain ⟨BK, HF, HK, HW⟩ := hcut
  have HRD := Ya (show rd (d.set I.toNat X) I = X from by
   have := HL.out
   unfold rd
   rw [List.getD_eq_getElem?_getD, List.getElem?_set_self (by omega)]; rfl)
  go_upto_region 9 with fail
  go_cut [79] (fun v79 wc => ∃ t : Bool, v79 = .bool t ∧ Aside0 (t = decide (X = 0 ∨ X = rd b I - 1)) ∧ Aside0 (wc.heap[g]? = some (.cells CS T (0, 0))) ∧ Aside0 (FoR wc w0.heap.size g0 c0 g1 c1 g2 c2 g3 c3 b (d.set I.toNat X) u (p.set 0 0)) ∧ Aside0 (Kept w wc (Wr g1 g2 g3)) ∧ Aside0 (Below w0.heap.size w0 wc))
  case first =>
   have hw : wrap64 (rd b I - 1) = rd b I - 1 := by have := HX.out; unfold wrap64; omega
   have hw' : IntKind.i64.wrap (rd b I - 1) = rd b I - 1 := (i64_w _).trans hw
   by_cases z : X = 0
   ·have zb : (X == 0) = true := beq_iff_eq.mpr z
    have HT := Ya (Z37 (p := X = 0 ∨ X = rd b I - 1) (Or.inl z))
    clear z
    go_wp2_with fail
    replace BK := Ya (Z25 BK.out)
    replace HF := Ya (FoR.drew HF.out)
    replace HK := Ya (Kept.drew HK.out)
    replace HW := Ya (Z4 HW.out)
    refine start_ (n := 26) (S := fun w' => w'.cell? ⟨g, 0, none⟩ = some (.slice (some ⟨g0, 0, none⟩) b.length c0) ∧ w'.cell? ⟨g, 1, none⟩ = some (.slice (some ⟨g1, 0, none⟩) d.length c1) ∧ w'.cell? ⟨g1, I.toNat, none⟩ = some (.int .i64 X) ∧ w'.cell? ⟨g0, I.toNat, none⟩ = some (.int .i64 (rd b I))) (ds := []) (YA 26 0) (by kernel_rfl) rfl rfl ⟨(Z22 BK.out 0).trans HS0.out, (Z22 BK.out 1).trans HS1.out, ((FoR.at1 HF.out I Q18 Q24).1.trans (by rw [HRD.out])), (FoR.at0 HF.out I Q18 Q18).1⟩ (fun hHeld => ?_)
    generalize World.drew _ = w3 at BK HF HK HW hHeld ⊢
    refine Yq 0 (some 54) (YA 26 1) rfl ?_
    refine Yq 1 (some 55) (YA 26 3) rfl ?_
    refine Yq 2 (some 56) (YA 26 7) rfl ?_
    refine Yq 4 (some 58) (YA 26 23) rfl ?_
    refine Ys 3 (some 57) (YA 26 31) rfl hHeld Q9 ?_
    refine Yq 5 (some 59) (YA 26 63) rfl ?_
    refine Ys 6 (some 60) (YA 26 127) rfl hHeld Q9 ?_
    refine Yq 7 (some 61) (YA 26 255) rfl ?_
    refine Yq 8 (some 62) (YA 26 511) rfl ?_
    refine Yu 9 (some 63) (YA 26 1023) rfl ?_
    refine Yu 10 (some 64) (YA 26 2047) rfl ?_
    refine Yu 11 (some 65) (YA 26 4095) rfl ?_
    refine Yu 12 (some 66) (YA 26 8191) rfl ?_
    refine Yu 13 (some 67) (YA 26 16383) rfl ?_
    refine Yu 14 (some 68) (YA 26 32767) rfl ?_
    refine Yu 15 (some 69) (YA 26 65535) rfl ?_
    refine Yu 16 (some 70) (YA 26 131071) rfl ?_
    refine Yu 17 (some 71) (YA 26 262143) rfl ?_
    refine Yu 18 (some 72) (YA 26 524287) rfl ?_
    refine Yu 19 (some 73) (YA 26 1048575) rfl ?_
    refine Yu 20 (some 74) (YA 26 2097151) rfl ?_
    refine Yu 21 (some 75) (YA 26 4194303) rfl ?_
    refine Yu 22 (some 76) (YA 26 8388607) rfl ?_
    refine Yu 23 (some 77) (YA 26 16777215) rfl ?_
    refine Yu 24 (some 78) (YA 26 33554431) rfl ?_
    refine Yq 25 (some 79) (YA 26 67108863) rfl ?_
    refine done_ (by kernel_rfl) ?_
    go_step
    go_step
    go_meet
    case rel => exact ⟨true, rfl, ⟨HT.out.symm⟩, BK, HF, HK, HW⟩
   ·have zb : (X == 0) = false := beq_eq_false_iff_ne.mpr z
    have HT := Ya (show (X == rd b I - 1) = decide (X = 0 ∨ X = rd b I - 1) from by rw [Bool.eq_iff_iff]; simp [z])
    clear z
    go_wp2_with fail
    replace BK := Ya (Z25 BK.out)
    replace HF := Ya (FoR.drew HF.out)
    replace HK := Ya (Kept.drew HK.out)
    replace HW := Ya (Z4 HW.out)
    refine start_ (n := 26) (S := fun w' => w'.cell? ⟨g, 0, none⟩ = some (.slice (some ⟨g0, 0, none⟩) b.length c0) ∧ w'.cell? ⟨g, 1, none⟩ = some (.slice (some ⟨g1, 0, none⟩) d.length c1) ∧ w'.cell? ⟨g1, I.toNat, none⟩ = some (.int .i64 X) ∧ w'.cell? ⟨g0, I.toNat, none⟩ = some (.int .i64 (rd b I))) (ds := []) (YA 26 0) (by kernel_rfl) rfl rfl ⟨(Z22 BK.out 0).trans HS0.out, (Z22 BK.out 1).trans HS1.out, ((FoR.at1 HF.out I Q18 Q24).1.trans (by rw [HRD.out])), (FoR.at0 HF.out I Q18 Q18).1⟩ (fun hHeld => ?_)
    generalize World.drew _ = w3 at BK HF HK HW hHeld ⊢
    refine Yq 0 (some 54) (YA 26 1) rfl ?_
    refine Yq 1 (some 55) (YA 26 3) rfl ?_
    refine Yq 2 (some 56) (YA 26 7) rfl ?_
    refine Yq 4 (some 58) (YA 26 23) rfl ?_
    refine Ys 3 (some 57) (YA 26 31) rfl hHeld Q9 ?_
    refine Yq 5 (some 59) (YA 26 63) rfl ?_
    refine Ys 6 (some 60) (YA 26 127) rfl hHeld Q9 ?_
    refine Yq 7 (some 61) (YA 26 255) rfl ?_
    refine Yq 8 (some 62) (YA 26 511) rfl ?_
    refine Yq 9 (some 63) (YA 26 1023) rfl ?_
    refine Yq 10 (some 64) (YA 26 2047) rfl ?_
    refine Yq 11 (some 65) (YA 26 4095) rfl ?_
    refine Yq 13 (some 67) (YA 26 12287) rfl ?_
    refine Yq 16 (some 70) (YA 26 77823) rfl ?_
    refine Yq 17 (some 71) (YA 26 208895) rfl ?_
    refine Yq 18 (some 72) (YA 26 471039) rfl ?_
    refine Yq 20 (some 74) (YA 26 1519615) rfl ?_
    refine Ys 12 (some 66) (YA 26 1523711) rfl hHeld Q9 ?_
    refine Yq 14 (some 68) (YA 26 1540095) rfl ?_
    refine Ys 15 (some 69) (YA 26 1572863) rfl hHeld Q9 ?_
    refine Ys 19 (some 73) (YA 26 2097151) rfl hHeld Q9 ?_
    refine Yq 21 (some 75) (YA 26 4194303) rfl ?_
    refine Ys 22 (some 76) (YA 26 8388607) rfl hHeld Q9 ?_
    refine Yq 23 (some 77) (YA 26 16777215) rfl ?_
    refine Yq 24 (some 78) (YA 26 33554431) rfl ?_
    refine Yq 25 (some 79) (YA 26 67108863) rfl ?_
    refine done_ (by kernel_rfl) ?_
    go_step
    go_step
    go_meet
    case rel => exact ⟨_, rfl, HT, BK, HF, HK, HW⟩
  case rest =>
   clear BK HF HK HW
   obtain ⟨t, rfl, HT, BK, HF, HK, HW⟩ := hcut
   cases t
   ·have h := HH.out
    rw [if_neg (fun e => by have h_ := HT.out; rw [Z37 e] at h_; cases h_)] at h
    simp only [Option.some.injEq, Prod.mk.injEq] at h
    obtain ⟨rfl, rfl, rfl, rfl⟩ := h
    go_wp2
    go_ret
    exact ⟨rfl, BK.out.trans HB0.out.symm, HF.out, HK.out, HW.out⟩
   ·have h := HH.out
    rw [if_pos (Z29 HT.out.symm)] at h
    simp only [Option.some.injEq, Prod.mk.injEq] at h
    obtain ⟨rfl, rfl, rfl, rfl⟩ := h
    go_wp2_with fail
    replace BK := Ya (Z25 BK.out)
    replace HF := Ya (FoR.drew HF.out)
    replace HK := Ya (Kept.drew HK.out)
    replace HW := Ya (Z4 HW.out)
    refine start_ (n := 15) (S := fun w' => w'.cell? ⟨g, 2, none⟩ = some (.slice (some ⟨g2, 0, none⟩) u.length c2) ∧ w'.cell? ⟨g2, I.toNat, none⟩ = some (.bool (rdOf false u I))) (ds := [14]) (YA 15 0) (by kernel_rfl) rfl rfl ⟨(Z22 BK.out 2).trans HS2.out, (FoR.at2 HF.out I Q18 Q18).1⟩ (fun hHeld => ?_)
    generalize World.drew _ = w4 at BK HF HK HW hHeld ⊢
    have hxs := (FoR.at2 HF.out I Q18 Q18).1
    have hzs := (FoR.at2 HF.out I Q18 Q18).2
    refine Yq 0 (some 80) (YA 15 1) rfl ?_
    refine Yq 1 (some 81) (YA 15 3) rfl ?_
    refine Yq 2 (some 82) (YA 15 7) rfl ?_
    refine Yq 4 (some 84) (YA 15 23) rfl ?_
    refine Yq 5 (some 85) (YA 15 55) rfl ?_
    refine Yq 6 (some 86) (YA 15 119) rfl ?_
    refine Yq 7 (some 87) (YA 15 247) rfl ?_
    refine Yq 9 (some 89) (YA 15 759) rfl ?_
    refine Ys 3 (some 83) (YA 15 767) rfl hHeld Q20 ?_
    refine Ys 8 (some 88) (YA 15 1023) rfl hHeld Q20 ?_
    refine Yq 10 (some 90) (YA 15 2047) rfl ?_
    refine Ys 11 (some 91) (YA 15 4095) rfl hHeld Q20 ?_
    refine Yq 12 (some 92) (YA 15 8191) rfl ?_
    refine Yq 13 (some 93) (YA 15 16383) rfl ?_
    refine last_ (i := 14) (N := none) (YA 15 32767) rfl rfl (by kernel_rfl) (by decide) (fun K hK => ?_)
    refine skip_ (w1 := ?_) (by rfl) rfl ?_ ?_
    rotate_left
    ·go_simp
     rfl
    refine hK.out _ _ ?_
    clear hK K
    refine done_ (by kernel_rfl) ?_
    clear hxs hzs
    replace BK := Ya (show (World.setCell w4 ⟨g2, I.toNat, none⟩ (.bool (!rdOf false u I))).heap[g]? = _ from blk_far (p := ⟨g2, I.toNat, none⟩) BK.out hne.2.2.1 (.bool (!rdOf false u I)))
    replace HK := Ya (Kept.setCell HK.out (p := ⟨g2, I.toNat, none⟩) (.inl (.inr (.inl rfl))) (.bool (!rdOf false u I)))
    replace HW := Ya (show Below w0.heap.size w0 (World.setCell w4 ⟨g2, I.toNat, none⟩ (.bool (!rdOf false u I))) from Z6 HW.out (FoR.ge HF.out).2.2.1)
    replace HF := Ya (show FoR (World.setCell w4 ⟨g2, I.toNat, none⟩ (.bool (!rdOf false u I))) w0.heap.size g0 c0 g1 c1 g2 c2 g3 c3 b (d.set I.toNat X) (u.set I.toNat (!rdOf false u I)) (p.set 0 0) from FoR.put2 HF.out I _)
    generalize World.setCell w4 ⟨g2, I.toNat, none⟩ (.bool (!rdOf false u I)) = w5 at BK HF HK HW ⊢
    go_wp2_with fail
    replace BK := Ya (Z25 BK.out)
    replace HF := Ya (FoR.drew HF.out)
    replace HK := Ya (Kept.drew HK.out)
    replace HW := Ya (Z4 HW.out)
    refine start_ (n := 15) (S := fun w' => w'.cell? ⟨g, 3, none⟩ = some (.slice (some ⟨g3, 0, none⟩) p.length c3) ∧ w'.cell? ⟨g3, (J + 1).toNat, none⟩ = some (.int .i64 (rd (p.set 0 0) (J + 1)))) (ds := [14]) (YA 15 0) (by kernel_rfl) rfl rfl ⟨(Z22 BK.out 3).trans HS3.out, (FoR.at3 HF.out (J + 1) Q18 Q24).1⟩ (fun hHeld => ?_)
    generalize World.drew _ = w6 at BK HF HK HW hHeld ⊢
    have hxs := (FoR.at3 HF.out J Q18 Q24).1
    have hzs := (FoR.at3 HF.out J Q18 Q24).2
    refine Yq 0 (some 94) (YA 15 1) rfl ?_
    refine Yq 1 (some 95) (YA 15 3) rfl ?_
    refine Yq 2 (some 96) (YA 15 7) rfl ?_
    refine Yq 4 (some 98) (YA 15 23) rfl ?_
    refine Yq 5 (some 99) (YA 15 55) rfl ?_
    refine Yq 6 (some 100) (YA 15 119) rfl ?_
    refine Yq 7 (some 101) (YA 15 247) rfl ?_
    refine Yq 9 (some 103) (YA 15 759) rfl ?_
    refine Yq 10 (some 104) (YA 15 1783) rfl ?_
    refine Ys 3 (some 97) (YA 15 1791) rfl hHeld Q20 ?_
    refine Ys 8 (some 102) (YA 15 2047) rfl hHeld Q20 ?_
    refine Yq 11 (some 105) (YA 15 4095) rfl ?_
    refine Ys 12 (some 106) (YA 15 8191) rfl hHeld Q20 ?_
    refine Yq 13 (some 107) (YA 15 16383) rfl ?_
    refine last_ (i := 14) (N := none) (YA 15 32767) rfl rfl (by kernel_rfl) (by decide) (fun K hK => ?_)
    refine skip_ (w1 := ?_) (by rfl) rfl ?_ ?_
    rotate_left
    ·go_simp
     rfl
    refine hK.out _ _ ?_
    clear hK K
    refine done_ (by kernel_rfl) ?_
    clear hxs hzs
    replace BK := Ya (show (World.setCell w6 ⟨g3, J.toNat, none⟩ (.int .i64 (rd (p.set 0 0) (J + 1)))).heap[g]? = _ from blk_far (p := ⟨g3, J.toNat, none⟩) BK.out hne.2.2.2 (.int .i64 (rd (p.set 0 0) (J + 1))))
    replace HK := Ya (Kept.setCell HK.out (p := ⟨g3, J.toNat, none⟩) (.inl (.inr (.inr rfl))) (.int .i64 (rd (p.set 0 0) (J + 1))))
    replace HW := Ya (show Below w0.heap.size w0 (World.setCell w6 ⟨g3, J.toNat, none⟩ (.int .i64 (rd (p.set 0 0) (J + 1)))) from Z6 HW.out (FoR.ge HF.out).2.2.2)
    replace HF := Ya (show FoR (World.setCell w6 ⟨g3, J.toNat, none⟩ (.int .i64 (rd (p.set 0 0) (J + 1)))) w0.heap.size g0 c0 g1 c1 g2 c2 g3 c3 b (d.set I.toNat X) (u.set I.toNat (!rdOf false u I)) ((p.set 0 0).set J.toNat (rd (p.set 0 0) (J + 1))) from FoR.put3 HF.out J _)
    generalize World.setCell w6 ⟨g3, J.toNat, none⟩ (.int .i64 (rd (p.set 0 0) (J + 1))) = w7 at BK HF HK HW ⊢
    have hc0 := (Z22 BK.out 0).trans HS0.out
    have hc1 := (Z22 BK.out 1).trans HS1.out
    have hc2 := (Z22 BK.out 2).trans HS2.out
    have hc3 := (Z22 BK.out 3).trans HS3.out
    have hxs := (FoR.at3 HF.out (J + 1) Q18 Q33).1
    have hzs := (FoR.at3 HF.out (J + 1) Q18 Q33).2
    go_upto_region 13 with fail
    clear hc0 hc1 hc2 hc3
    clear hxs hzs
    replace BK := Ya (show (World.setCell w7 ⟨g3, (J + 1).toNat, none⟩ (.int .i64 (J + 1))).heap[g]? = _ from blk_far (p := ⟨g3, (J + 1).toNat, none⟩) BK.out hne.2.2.2 (.int .i64 (J + 1)))
    replace HK := Ya (Kept.setCell HK.out (p := ⟨g3, (J + 1).toNat, none⟩) (.inl (.inr (.inr rfl))) (.int .i64 (J + 1)))
    replace HW := Ya (show Below w0.heap.size w0 (World.setCell w7 ⟨g3, (J + 1).toNat, none⟩ (.int .i64 (J + 1))) from Z6 HW.out (FoR.ge HF.out).2.2.2)
    replace HF := Ya (show FoR (World.setCell w7 ⟨g3, (J + 1).toNat, none⟩ (.int .i64 (J + 1))) w0.heap.size g0 c0 g1 c1 g2 c2 g3 c3 b (d.set I.toNat X) (u.set I.toNat (!rdOf false u I)) (((p.set 0 0).set J.toNat (rd (p.set 0 0) (J + 1))).set (J + 1).toNat (J + 1)) from FoR.put3 HF.out (J + 1) _)
    generalize World.setCell w7 ⟨g3, (J + 1).toNat, none⟩ (.int .i64 (J + 1)) = w8 at BK HF HK HW ⊢
    go_wp2
    go_ret
    exact ⟨rfl, BK.out.trans HB0.out.symm, HF.out, HK.out, HW.out⟩
open Go.Proofs.Ytapbbmicfkbafaa.FoW in
theorem impl_Focus_step.calls (w0 : World) (g g0 c0 g1 c1 g2 c2 g3 c3 : Nat) (b d : List Int) (u : List Bool) (p d' : List Int) (u' : List Bool) (p' : List Int) (r : Int) (w : World)
  (hb : w.heap[g]? = some (.cells #[.slice (some ⟨g0, 0, none⟩) b.length c0, .slice (some ⟨g1, 0, none⟩) d.length c1, .slice (some ⟨g2, 0, none⟩) u.length c2, .slice (some ⟨g3, 0, none⟩) p.length c3] 33 (0, 0))) (hF : FoR w w0.heap.size g0 c0 g1 c1 g2 c2 g3 c3 b d u p) (hW : Below w0.heap.size w0 w) (h : stepF b d u p = some (d', u', p', r)) :
  Calls Try.prog 38 #[.pointer (some ⟨g, 0, none⟩)] w fun e w' => e = .returned (.int .i64 r) ∧ w'.heap[g]? = w.heap[g]? ∧ FoR w' w0.heap.size g0 c0 g1 c1 g2 c2 g3 c3 b d' u' p' ∧ Kept w w' (Wr g1 g2 g3) ∧ Below w0.heap.size w0 w' :=
 impl_Focus_step.callsG _ _ (by decide) w0 g g0 c0 g1 c1 g2 c2 g3 c3 b d u p d' u' p' r w rfl rfl rfl rfl hb hF hW h
set_option maxHeartbeats 8000000 in
set_option maxRecDepth 100000 in
theorem impl_Focus_step.callsEnd (CS : Array Value) (T : TypeId) (g g3 n c0 lp c3 : Nat) (A0 : Option Addr) (w : World)
  (hs0 : CS[0]? = some (.slice A0 n c0)) (hs3 : CS[3]? = some (.slice (some ⟨g3, 0, none⟩) lp c3)) (hl : 0 < lp) (hm : n ≤ 1000)
  (hb : w.heap[g]? = some (.cells CS T (0, 0))) (hp : w.cell? ⟨g3, 0, none⟩ = some (.int .i64 (n : Int))) :
  Calls Try.prog 38 #[.pointer (some ⟨g, 0, none⟩)] w fun e w' => e = .returned (.int .i64 (-1)) ∧ Below w.heap.size w w' := by
 have BK := Ya hb
 have HP := Ya hp
 have HW := Ya (Below.refl w.heap.size w)
 have b10 : (0 < lp) = True := eq_true hl
 have b11 : ((0 : Int) < (lp : Int)) = True := eq_true (by omega)
 clear hb hp
 go_enter Try.func38, Try.ntmps38
 go_wp2_with fail
 replace BK := Ya (Z25 BK.out)
 replace HP := Ya (show w.drew.cell? ⟨g3, 0, none⟩ = some (.int .i64 (n : Int)) from HP.out)
 replace HW := Ya (Z4 HW.out)
 refine start_ (n := 13) (S := fun w' => w'.cell? ⟨g, 0, none⟩ = some (.slice A0 n c0) ∧ w'.cell? ⟨g, 3, none⟩ = some (.slice (some ⟨g3, 0, none⟩) lp c3) ∧ w'.cell? ⟨g3, 0, none⟩ = some (.int .i64 (n : Int))) (ds := []) (YA 13 0) (by kernel_rfl) rfl rfl ⟨(Z22 BK.out 0).trans hs0, (Z22 BK.out 3).trans hs3, HP.out⟩ (fun hHeld => ?_)
 generalize World.drew _ = w1 at BK HP HW hHeld ⊢
 refine Yq 0 (some 6) (YA 13 1) rfl ?_
 refine Yq 1 (some 7) (YA 13 3) rfl ?_
 refine Yq 2 (some 8) (YA 13 7) rfl ?_
 refine Yq 5 (some 11) (YA 13 39) rfl ?_
 refine Yq 6 (some 12) (YA 13 103) rfl ?_
 refine Yq 7 (some 13) (YA 13 231) rfl ?_
 refine Ys 3 (some 9) (YA 13 239) rfl hHeld Q19 ?_
 refine Yq 4 (some 10) (YA 13 255) rfl ?_
 refine Yq 11 (some 3) (YA 13 2303) rfl ?_
 refine Ys 8 (some 14) (YA 13 2559) rfl hHeld Q19 ?_
 refine Yq 9 (some 15) (YA 13 3071) rfl ?_
 refine Ys 10 (some 16) (YA 13 4095) rfl hHeld Q19 ?_
 refine Yq 12 (some 4) (YA 13 8191) rfl ?_
 refine done_ (by kernel_rfl) ?_
 go_wp2
 go_ret
 exact ⟨rfl, HW.out⟩
def impl_Focus_isLast.f (l0_0 : List Int) (l0_1 : List Int) (l0_2 : List Bool) (l0_3 : List Int) : Option (Bool) := if 0 < (l0_3.length : Int) then (some ((rd l0_3 0) == (l0_0.length : Int))) else (none)
set_option maxHeartbeats 8000000 in
set_option maxRecDepth 100000 in
theorem impl_Focus_isLast.calls (A0_0 : Option Addr) (c0_0 : Nat) (l0_0 : List Int) (A0_1 : Option Addr) (c0_1 : Nat) (l0_1 : List Int) (A0_2 : Option Addr) (c0_2 : Nat) (l0_2 : List Bool) (A0_3 : Option Addr) (c0_3 : Nat) (l0_3 : List Int) (r : Bool) (w : World) (hr0_0 : Kd.C (Kd.int .i64) w A0_0 l0_0.length l0_0) (hc0_0 : l0_0.length ≤ c0_0) (hr0_1 : Kd.C (Kd.int .i64) w A0_1 l0_1.length l0_1) (hc0_1 : l0_1.length ≤ c0_1) (hr0_2 : Kd.C Kd.bool w A0_2 l0_2.length l0_2) (hc0_2 : l0_2.length ≤ c0_2) (hr0_3 : Kd.C (Kd.int .i64) w A0_3 l0_3.length l0_3) (hc0_3 : l0_3.length ≤ c0_3) (h : impl_Focus_isLast.f l0_0 l0_1 l0_2 l0_3 = some r) :
  Calls Try.prog 51 #[.agg #[.slice A0_0 l0_0.length c0_0, .slice A0_1 l0_1.length c0_1, .slice A0_2 l0_2.length c0_2, .slice A0_3 l0_3.length c0_3]] w fun e w' => e = .returned (.bool r) ∧ Below w.heap.size w w' := by
 have hu33 := Try.underlying33
 have HR0_0 := Ya hr0_0
 have HC0_0 := Ya hc0_0
 clear hr0_0 hc0_0
 have HR0_1 := Ya hr0_1
 have HC0_1 := Ya hc0_1
 clear hr0_1 hc0_1
 have HR0_2 := Ya hr0_2
 have HC0_2 := Ya hc0_2
 clear hr0_2 hc0_2
 have HR0_3 := Ya hr0_3
 have HC0_3 := Ya hc0_3
 clear hr0_3 hc0_3
 have HB := Ya (Below.refl w.heap.size w)
 have H : (if 0 < (l0_3.length : Int) then (some ((rd l0_3 0) == (l0_0.length : Int))) else (none)) = some r := h
 clear h
 by_cases c2 : 0 < (l0_3.length : Int)
 ·rw [if_pos c2] at H
  have c2b0 := Z37 c2
  have c2b1 : decide (0 < l0_3.length) = true := Z37 (by omega)
  clear c2
  obtain rfl := Option.some.inj H
  go_enter Try.func51, Try.ntmps51
  go_wp2_with (first | ((with_reducible refine gate_dst (N := 1) rfl ?_); refine Yx 1 #[.slice A0_0 l0_0.length c0_0, .slice A0_1 l0_1.length c0_1, .slice A0_2 l0_2.length c0_2, .slice A0_3 l0_3.length c0_3] 33 ?_; intro gb222 hg w3 hbox hb; have BK222 := Ya hbox; have GE222 := Yg hg; replace HB := Yh hb; clear hb hbox hg; obtain ⟨hcz4_0, hcz4_1, hcz4_2, hcz4_3, hfz4_0, hfz4_1, hfz4_2, hfz4_3⟩ := Y4 BK222.out; have p223 : 0 ≤ (0 : Int) := (by omega); have q223 : 0 < (l0_3.length : Int) := Z29 Q3; obtain ⟨ad223, e223, hx223_0⟩ := Kd.at_int HR0_3.out 0 p223 q223; cases e223; have qi223 : (0 < l0_3.length) = True := eq_true (by omega); (try rw [show ((0 : Int)).toNat = 0 from rfl] at hx223_0); (try rw [Addr.add_zero'] at hx223_0); try replace hx223_0 := (HB.out.cell (World.block_lt_of_cell? w _ hx223_0)).trans hx223_0; replace p223 := eq_true p223; replace q223 := eq_true q223))
  repeat (go_quiet (first | ((with_reducible refine gate_dst (N := 1) rfl ?_); refine Yx 1 #[.slice A0_0 l0_0.length c0_0, .slice A0_1 l0_1.length c0_1, .slice A0_2 l0_2.length c0_2, .slice A0_3 l0_3.length c0_3] 33 ?_; intro gb222 hg w3 hbox hb; have BK222 := Ya hbox; have GE222 := Yg hg; replace HB := Yh hb; clear hb hbox hg; obtain ⟨hcz4_0, hcz4_1, hcz4_2, hcz4_3, hfz4_0, hfz4_1, hfz4_2, hfz4_3⟩ := Y4 BK222.out; have p223 : 0 ≤ (0 : Int) := (by omega); have q223 : 0 < (l0_3.length : Int) := Z29 Q3; obtain ⟨ad223, e223, hx223_0⟩ := Kd.at_int HR0_3.out 0 p223 q223; cases e223; have qi223 : (0 < l0_3.length) = True := eq_true (by omega); (try rw [show ((0 : Int)).toNat = 0 from rfl] at hx223_0); (try rw [Addr.add_zero'] at hx223_0); try replace hx223_0 := (HB.out.cell (World.block_lt_of_cell? w _ hx223_0)).trans hx223_0; replace p223 := eq_true p223; replace q223 := eq_true q223)); try go_wp2_with (first | ((with_reducible refine gate_dst (N := 1) rfl ?_); refine Yx 1 #[.slice A0_0 l0_0.length c0_0, .slice A0_1 l0_1.length c0_1, .slice A0_2 l0_2.length c0_2, .slice A0_3 l0_3.length c0_3] 33 ?_; intro gb222 hg w3 hbox hb; have BK222 := Ya hbox; have GE222 := Yg hg; replace HB := Yh hb; clear hb hbox hg; obtain ⟨hcz4_0, hcz4_1, hcz4_2, hcz4_3, hfz4_0, hfz4_1, hfz4_2, hfz4_3⟩ := Y4 BK222.out; have p223 : 0 ≤ (0 : Int) := (by omega); have q223 : 0 < (l0_3.length : Int) := Z29 Q3; obtain ⟨ad223, e223, hx223_0⟩ := Kd.at_int HR0_3.out 0 p223 q223; cases e223; have qi223 : (0 < l0_3.length) = True := eq_true (by omega); (try rw [show ((0 : Int)).toNat = 0 from rfl] at hx223_0); (try rw [Addr.add_zero'] at hx223_0); try replace hx223_0 := (HB.out.cell (World.block_lt_of_cell? w _ hx223_0)).trans hx223_0; replace p223 := eq_true p223; replace q223 := eq_true q223)))
  go_ret
  exact ⟨Q1, Q12⟩
 ·rw [if_neg c2] at H
  exact absurd H (by simp)
mutual
def impl_runFocus.l0 : Nat → Int → Int → List Int → List Int → List Int → List Bool → List Int → Option (List Int)
 | 0, _, _, _, _, _, _, _ => none
 | k + 1, n, m, b, out, d, u, p => if (out.length : Int) < m then ((impl_Focus_isLast.f b d u p).bind fun t => (if t = true then (some out) else ((Go.Proofs.Ytapbbmicfkbafaa.FoW.stepF b d u p).bind fun r => (if out.length < 1000000 then (impl_runFocus.l0 k n m b (out ++ [wrap64 (wrap64 (n - 1) - r.2.2.2)]) r.1 r.2.1 r.2.2.1) else (none))))) else (some out)
end
def impl_runFocus.f (k : Nat) (l0 : List Int) (a1 : Int) : Option (List Int) := (impl_startFocus.f k l0).bind fun t => (impl_runFocus.l0 k (l0.length : Int) a1 t.1 ([] : List Int) t.2.1 t.2.2.1 t.2.2.2)
theorem impl_runFocus.mono_l : ∀ k, (∀ y0 y1 y2 y3 y4 y5 y6, LeO (impl_runFocus.l0 k y0 y1 y2 y3 y4 y5 y6) (impl_runFocus.l0 (k + 1) y0 y1 y2 y3 y4 y5 y6))
 | 0 => fun _ _ _ _ _ _ _ r h => by simp [impl_runFocus.l0] at h
 | k + 1 => by
  have ih0 := impl_runFocus.mono_l k
  ·intro y0 y1 y2 y3 y4 y5 y6
   unfold impl_runFocus.l0
   repeat' first
   | (with_reducible exact ih0 _ _ _ _ _ _ _)
   | (with_reducible exact impl_startFocus.mono _ _)
   | (with_reducible exact LeO.refl _)
   | (with_reducible exact LeO.none _)
   | (with_reducible refine LeO.ite ?_ ?_)
   | (with_reducible refine LeO.bind ?_ (fun _ => ?_))
   | exact ih0 _ _ _ _ _ _ _
   | exact impl_startFocus.mono _ _
   | exact LeO.none _
   | refine LeO.ite ?_ ?_
   | refine LeO.bind ?_ (fun _ => ?_)
theorem impl_runFocus.mono : ∀ a0 a1 k, LeO (impl_runFocus.f k a0 a1) (impl_runFocus.f (k + 1) a0 a1) := by
 intro a0 a1 k
 have ih0 := impl_runFocus.mono_l k
 unfold impl_runFocus.f
 repeat' first
   | (with_reducible exact ih0 _ _ _ _ _ _ _)
   | (with_reducible exact impl_startFocus.mono _ _)
   | (with_reducible exact LeO.refl _)
   | (with_reducible exact LeO.none _)
   | (with_reducible refine LeO.ite ?_ ?_)
   | (with_reducible refine LeO.bind ?_ (fun _ => ?_))
   | exact ih0 _ _ _ _ _ _ _
   | exact impl_startFocus.mono _ _
   | exact LeO.none _
   | refine LeO.ite ?_ ?_
   | refine LeO.bind ?_ (fun _ => ?_)
open Go.Proofs.Ytapbbmicfkbafaa.FoW in
set_option maxHeartbeats 8000000 in
set_option maxRecDepth 100000 in
theorem impl_runFocus.calls (k : Nat) (A0_ : Option Addr) (c0_ : Nat) (l0 : List Int) (a1 : Int) (r1 : List Int) (w : World) (hr0 : Kd.C (Kd.int .i64) w A0_ l0.length l0) (hc0 : l0.length ≤ c0_) (h : impl_runFocus.f k l0 a1 = some r1) :
  Calls Try.prog 31 #[.slice A0_ l0.length c0_, .int .i64 a1] w fun e w' => ∃ v0_ : Value, e = .returned (v0_) ∧ Kd.R (Kd.int .i64) 3 w' w.heap.size (fun _ => True) v0_ r1 ∧ Below w.heap.size w w' := by
 have hu := Try.underlying33
 unfold impl_runFocus.f at h
 obtain ⟨⟨b, D1, U1, P1⟩, h1, h⟩ := Z35.mp h
 have A1_ := Ya h1
 have H' := Ya h
 have HR0 := Ya hr0
 have HC0 := Ya hc0
 have HB := Ya (Below.refl w.heap.size w)
 clear h h1 hr0 hc0
 go_enter Try.func31, Try.ntmps31
 go_upto_region 2 with (first | ((with_reducible refine gate_dst (N := 7) rfl ?_); refine Kd.R_lit (Kd.int .i64) _ 3 ?hg (N := 7) ?hd (xs := ([] : List Int)) (inner := []) (ok := fun _ => True) (okp := fun _ => True) ?hr ?hp (fun _ hk => hk) trivial (Below.refl _ _) (Nat.le_refl _) (by simp) ?_; (case hd => rfl); (case hg => rfl); (case hr => first | (go_simp; done) | (go_simp; rfl)); (case hp => exact (Reps.none _ _)); intro vL w1 ho hb hg_ hnew_; have HO := Yl ho; have n0_ := Yh hb; clear HB; have HB := n0_; clear n0_ ho hb hg_ hnew_) | ((with_reducible refine gate_callee (f := 36) rfl ?_); refine Yz 9 Try.func36 #[.slice A0_ l0.length c0_] ?_ (hargs := Q22); (with_reducible refine (impl_startFocus.calls k _ _ l0 b D1 U1 P1 _ ?s1 ?s2 A1_.out).mono ?_); (case s1 => exact Q27); (case s2 => exact HC0.out); rintro e w2 ⟨v0, v1, v2, v3, rfl, ho0, ho1, ho2, ho3, hb⟩; refine ⟨_, rfl, ?_⟩; have hFV : FoV w2 w.heap.size v0 v1 v2 v3 b D1 U1 P1 := ⟨Kd.R_lower ho0 (Z7 Q0), Kd.R_lower ho1 (Z7 Q0), Kd.R_lower ho2 (Z7 Q0), Kd.R_lower ho3 (Z7 Q0)⟩; have q0 := Kd.R_base ho0; have q1 := Kd.R_base ho1; have q2 := Kd.R_base ho2; have q3 := Kd.R_base ho3; obtain ⟨A0, c0, rfl⟩ := Z17 ho0; obtain ⟨A1, c1', rfl⟩ := Z17 ho1; obtain ⟨A2, c2, rfl⟩ := Z17 ho2; obtain ⟨A3, c3, rfl⟩ := Z17 ho3; have n1_ : Aside0 (Kd.R (Kd.int .i64) 3 w2 w.heap.size (fun k_ => some k_ ≠ (.slice A0 b.length c0 : Value).ownBlock ∧ some k_ ≠ (.slice A1 D1.length c1' : Value).ownBlock ∧ some k_ ≠ (.slice A2 U1.length c2 : Value).ownBlock ∧ some k_ ≠ (.slice A3 P1.length c3 : Value).ownBlock) vL ([] : List Int)) := ⟨Z12 (Kd.R_reok rfl (Yr HO.out) (fun k_ hk => (by have hl_ := Z16 HO.out k_ hk; first | exact ⟨fun e_ => Nat.not_le.2 hl_ (q0 k_ e_.symm), fun e_ => Nat.not_le.2 hl_ (q1 k_ e_.symm), fun e_ => Nat.not_le.2 hl_ (q2 k_ e_.symm), fun e_ => Nat.not_le.2 hl_ (q3 k_ e_.symm)⟩))) hb⟩; have n0_ := Yh hb; have HV := Ya hFV; clear HB HO ho0 ho1 ho2 ho3 hb hFV q0 q1 q2 q3; have HB := n0_; have HO := n1_; clear n0_ n1_) | ((with_reducible refine gate_dst (N := 6) rfl ?_); refine Yx 6 #[.slice none 0 0, .slice none 0 0, .slice none 0 0, .slice none 0 0] 33 ?_; intro gb6 hg w3 hbox hb; have n0_ := Yh hb; have BK := Ya hbox; have n1_ := Ya (FoV.below (Qm0 HV.out) hb); have n2_ := Yw HO hb; have GE6 := Ya (by rw [hg]; exact Z7 Q0 : w.heap.size ≤ gb6); clear HB HV HO; have HB := n0_; have HV := n1_; have HO := n2_; clear n0_ n1_ n2_; have hd0 := (Z22 BK.out 0).trans rfl; have hd1 := (Z22 BK.out 1).trans rfl; have hd2 := (Z22 BK.out 2).trans rfl; have hd3 := (Z22 BK.out 3).trans rfl; have hf0 := Z23 BK.out 0; have hf1 := Z23 BK.out 1; have hf2 := Z23 BK.out 2; have hf3 := Z23 BK.out 3; clear hb hbox hg))
 replace HV := Ya (FoV.set4 HV.out BK.out (by decide) (by decide) (.slice A0 b.length c0) (.slice A1 D1.length c1') (.slice A2 U1.length c2) (.slice A3 P1.length c3))
 replace HO := Ya (Z11 (Kd.R_move (w1 := set4 w3 gb6 (.slice A0 b.length c0) (.slice A1 D1.length c1') (.slice A2 U1.length c2) (.slice A3 P1.length c3)) (Z13 HO.out BK.out (by decide)) (fun k hk => set4_far _ _ _ _ _ _ k hk.2)) (fun k hk => hk.1))
 replace BK := Ya (set4_at BK.out (.slice A0 b.length c0) (.slice A1 D1.length c1') (.slice A2 U1.length c2) (.slice A3 P1.length c3))
 replace HB := Ya (set4_below HB.out GE6.out (.slice A0 b.length c0) (.slice A1 D1.length c1') (.slice A2 U1.length c2) (.slice A3 P1.length c3))
 clear hd0 hd1 hd2 hd3 hf0 hf1 hf2 hf3
 unfold set4 at BK HV HO HB
 generalize ((((w3.setCell ⟨gb6, 0, none⟩ (.slice A0 b.length c0)).setCell ⟨gb6, 1, none⟩ (.slice A1 D1.length c1')).setCell ⟨gb6, 2, none⟩ (.slice A2 U1.length c2)).setCell ⟨gb6, 3, none⟩ (.slice A3 P1.length c3)) = w4 at BK HV HO HB ⊢
 go_loopg [5] k (fun kq v5 w' => ∃ (out d : List Int) (u : List Bool) (p : List Int), Aside0 (impl_runFocus.l0 kq (l0.length : Int) a1 b out d u p = some r1) ∧ Aside0 (kq ≤ k) ∧ Aside0 (d.length = D1.length ∧ u.length = U1.length ∧ p.length = P1.length) ∧ Aside0 (w'.heap[gb6]? = some (.cells #[.slice A0 b.length c0, .slice A1 D1.length c1', .slice A2 U1.length c2, .slice A3 P1.length c3] 33 (0, 0))) ∧ Aside0 (FoV w' w.heap.size (.slice A0 b.length c0) (.slice A1 D1.length c1') (.slice A2 U1.length c2) (.slice A3 P1.length c3) b d u p) ∧ Aside0 (Kd.R (Kd.int .i64) 3 w' w.heap.size (fun k_ => some k_ ≠ (.slice A0 b.length c0 : Value).ownBlock ∧ some k_ ≠ (.slice A1 D1.length c1' : Value).ownBlock ∧ some k_ ≠ (.slice A2 U1.length c2 : Value).ownBlock ∧ some k_ ≠ (.slice A3 P1.length c3 : Value).ownBlock) v5 out) ∧ Aside0 (Below w.heap.size w w'))
 case atStart => exact ⟨[], D1, U1, P1, H', ⟨Nat.le_refl _⟩, ⟨rfl, rfl, rfl⟩, BK, HV, HO, HB⟩
 case round =>
  clear H' BK HV HO HB
  obtain ⟨out, d, u, p, HA, HK1, HL, BK, HV, HO, HB⟩ := hrel
  cases gk with
  | zero => exact absurd HA.out (by simp [impl_runFocus.l0])
  | succ k1 =>
   have H := HA.out
   clear HA
   simp only [impl_runFocus.l0] at H
   obtain ⟨hd, hu', hp⟩ := HL.out
   obtain ⟨Ao, co, eo⟩ := Z17 HO.out
   subst eo
   have hbk := BK.out
   rw [← hd, ← hu', ← hp] at hbk
   have HBK := Ya hbk
   have hc0 := (Z22 hbk 0).trans rfl
   have hc1 := (Z22 hbk 1).trans rfl
   have hc2 := (Z22 hbk 2).trans rfl
   have hc3 := (Z22 hbk 3).trans rfl
   clear hbk
   by_cases c1 : (out.length : Int) < a1
   rotate_left
   ·rw [if_neg c1] at H
    obtain rfl := Option.some.inj H
    have b1 : decide ((out.length : Int) < a1) = false := Z36 c1
    clear c1 H hd hu' hp
    go_wp2
    go_ret
    exact ⟨_, rfl, Z11 HO.out (fun _ _ => trivial), HB.out⟩
   rw [if_pos c1] at H
   have b1 : decide ((out.length : Int) < a1) = true := Z37 c1
   obtain ⟨t, ht, H⟩ := Z35.mp H
   have HT := Ya ht
   have HV2 : Aside0 (FoV _ w.heap.size (.slice A0 b.length c0) (.slice A1 d.length c1') (.slice A2 u.length c2) (.slice A3 p.length c3) b d u p) := ⟨by have := HV.out; rw [← hd, ← hu', ← hp] at this; exact this⟩
   clear c1 ht
   cases t
   rotate_left
   ·rw [if_pos rfl] at H
    obtain rfl := Option.some.inj H
    clear H hd hu' hp
    go_wp2_with fail
    refine (impl_Focus_isLast.calls _ _ b _ _ d _ _ u _ _ p true _ (Kd.R_reads' HV2.out.r0).2.2 (Kd.R_reads' HV2.out.r0).2.1 (Kd.R_reads' HV2.out.r1).2.2 (Kd.R_reads' HV2.out.r1).2.1 (Kd.R_reads' HV2.out.r2).2.2 (Kd.R_reads' HV2.out.r2).2.1 (Kd.R_reads' HV2.out.r3).2.2 (Kd.R_reads' HV2.out.r3).2.1 HT.out).mono ?_
    rintro e w6 ⟨rfl, hb⟩
    have n0_ := Ya (below_step HB.out hb)
    have n1_ := Ya (Z12 HO.out hb)
    clear HB HO
    have HB := n0_
    have HO := n1_
    clear n0_ n1_ hb hc0 hc1 hc2 hc3
    go_wp2
    go_ret
    exact ⟨_, rfl, Z11 HO.out (fun _ _ => trivial), HB.out⟩
   rw [if_neg (by simp)] at H
   obtain ⟨⟨d', u', p', r⟩, hs, H⟩ := Z35.mp H
   by_cases c2' : out.length < 1000000
   rotate_left
   ·rw [if_neg c2'] at H; exact absurd H (by simp)
   rw [if_pos c2'] at H
   have H' := Ya H
   have HS := Ya hs
   have LM := Ya c2'
   obtain ⟨hl, hl0, hl1, hl2, hl3⟩ := stepF_len hs
   have HL2 := Ya hl
   obtain ⟨g0, q0, g1, q1, g2, q2, g3, q3, e0, e1, e2, e3, hF⟩ := FoR.of HV2.out.r0 HV2.out.r1 HV2.out.r2 HV2.out.r3 hl0 hl1 hl2 hl3
   injection e0 with x0 _ z0
   injection e1 with x1 _ z1
   injection e2 with x2 _ z2
   injection e3 with x3 _ z3
   subst x0 z0 x1 z1 x2 z2 x3 z3
   have HF := Ya hF
   clear H hs c2' hl hl0 hl1 hl2 hl3 hF hd hu' hp
   go_wp2_with fail
   refine (impl_Focus_isLast.calls _ _ b _ _ d _ _ u _ _ p false _ (Kd.R_reads' HV2.out.r0).2.2 (Kd.R_reads' HV2.out.r0).2.1 (Kd.R_reads' HV2.out.r1).2.2 (Kd.R_reads' HV2.out.r1).2.1 (Kd.R_reads' HV2.out.r2).2.2 (Kd.R_reads' HV2.out.r2).2.1 (Kd.R_reads' HV2.out.r3).2.2 (Kd.R_reads' HV2.out.r3).2.1 HT.out).mono ?_
   rintro e w6 ⟨rfl, hb⟩
   have n0_ := Ya (below_step HB.out hb)
   have n1_ := Ya (Z12 HO.out hb)
   have n2_ := Ya (Z27 HBK.out hb)
   have n3_ := Ya (FoR.below HF.out hb)
   clear HBK HF
   have HBK := n2_
   have HF := n3_
   clear n2_ n3_
   clear HB HO
   have HB := n0_
   have HO := n1_
   clear n0_ n1_ hb hc0 hc1 hc2 hc3
   go_wp2_with (first | ((with_reducible refine gate_callee (f := 38) rfl ?_); refine Yz 23 Try.func38 #[.pointer (some ⟨gb6, 0, none⟩)] ?_ (hargs := Q22); (with_reducible refine (impl_Focus_step.calls w gb6 g0 c0 g1 c1' g2 c2 g3 c3 b d u p d' u' p' r _ HBK.out HF.out HB.out HS.out).mono ?_); rintro e w7 ⟨rfl, hk1, hk2, hk3, hk4⟩; refine ⟨_, rfl, ?_⟩; have n0_ := Ya (hk1.trans HBK.out); have n1_ := Ya (Kd.R_kept HO.out hk3 (fun k hk hs_ => by rcases hs_ with rfl | rfl | rfl; exact hk.2.1 rfl; exact hk.2.2.1 rfl; exact hk.2.2.2 rfl)); clear HBK HF HO HB; have HBK := n0_; have HF := Ya hk2; have HO := n1_; have HB := Ya hk4; clear n0_ n1_ hk1 hk2 hk3 hk4) | ((with_reducible refine gate_builtin (b := .append) (xs := #[.tmp 19, .tmp 25]) rfl ?_); at_builtin; refine Kd.R_append (Kd.int .i64) (w0 := w) w.heap.size rfl (.tmp 19) (.tmp 25) 24 3 (.int .i64 0) 8 rfl Try.underlying24 info3 rfl (by decide) (by omega) (.slice Ao out.length co) out (wrap64 (wrap64 ((l0.length : Int) - 1) - r)) [.int .i64 (wrap64 (wrap64 ((l0.length : Int) - 1) - r))] (fun k_ => some k_ ≠ (.slice (some ⟨g0, 0, none⟩) b.length c0 : Value).ownBlock ∧ some k_ ≠ (.slice (some ⟨g1, 0, none⟩) D1.length c1' : Value).ownBlock ∧ some k_ ≠ (.slice (some ⟨g2, 0, none⟩) U1.length c2 : Value).ownBlock ∧ some k_ ≠ (.slice (some ⟨g3, 0, none⟩) P1.length c3 : Value).ownBlock) (fun _ => False) rfl (by first | (go_simp; done) | (go_simp; rfl)) ?aP (fun _ hk => hk.elim) ?aF ?aO ?aB ?aS ?aL ?_; (case aP => exact rfl); (case aB => exact Q0); (case aF => exact (fun k hk => by have l_ := FoR.lt HF.out; first | exact ⟨fun e => by injection e with e; subst e; exact absurd hk (by simp only [Nat.not_le]; exact l_.1), fun e => by injection e with e; subst e; exact absurd hk (by simp only [Nat.not_le]; exact l_.2.1), fun e => by injection e with e; subst e; exact absurd hk (by simp only [Nat.not_le]; exact l_.2.2.1), fun e => by injection e with e; subst e; exact absurd hk (by simp only [Nat.not_le]; exact l_.2.2.2)⟩)); (case aO => exact HO.out); (case aS => exact HB.out.size); (case aL => have := LM.out; omega); intro v8 w8 ho hb hg hat; have hv := FoR.back HF.out; have hV7 : FoV w7 w.heap.size (.slice (some ⟨g0, 0, none⟩) b.length c0) (.slice (some ⟨g1, 0, none⟩) d'.length c1') (.slice (some ⟨g2, 0, none⟩) u'.length c2) (.slice (some ⟨g3, 0, none⟩) p'.length c3) b d' u' p' := ⟨hv.1, hv.2.1, hv.2.2.1, hv.2.2.2⟩; rw [HL2.out.1, HL2.out.2.1, HL2.out.2.2] at hV7; have BK := Ya (by rw [HL.out.1, HL.out.2.1, HL.out.2.2] at HBK; exact blk_grown HBK.out hg (Kd.R_ne HO.out HBK.out (by decide)) : w8.heap[gb6]? = some (.cells #[.slice (some ⟨g0, 0, none⟩) b.length c0, .slice (some ⟨g1, 0, none⟩) D1.length c1', .slice (some ⟨g2, 0, none⟩) U1.length c2, .slice (some ⟨g3, 0, none⟩) P1.length c3] 33 (0, 0))); have HV := Ya (by have h_ := FoV.grown hV7 hg (fun k hk => by have o_ := HO.out.1 k hk; rw [HL.out.1, HL.out.2.1, HL.out.2.2]; exact not_own o_.1 o_.2.1 o_.2.2.1 o_.2.2.2); rw [HL.out.1, HL.out.2.1, HL.out.2.2] at h_; exact h_ : FoV w8 w.heap.size (.slice (some ⟨g0, 0, none⟩) b.length c0) (.slice (some ⟨g1, 0, none⟩) D1.length c1') (.slice (some ⟨g2, 0, none⟩) U1.length c2) (.slice (some ⟨g3, 0, none⟩) P1.length c3) b d' u' p'); clear HO HB; have HO := Ya ho; have HB := Ya hb; clear ho hb hg hat hv hV7))
   go_roundg k1
   case measure => have := HK1.out; omega
   case rel => exact ⟨_, d', u', p', H', ⟨Q23⟩, ⟨Q39⟩, BK, HV, HO, HB⟩
def impl_RunFocus.f (k : Nat) (l0 : List Int) (a1 : Int) : Option (List Int × Bool) := (impl_areFocusBases.f k l0).bind fun t224 => (if t224 = true then ((impl_within.f a1 0 5040).bind fun t225 => (if t225 = true then ((impl_runFocus.f k l0 a1).bind fun t226 => (some (t226, true))) else (some (([] : List Int), false)))) else (some (([] : List Int), false)))
theorem impl_RunFocus.mono : ∀ a0 a1 k, LeO (impl_RunFocus.f k a0 a1) (impl_RunFocus.f (k + 1) a0 a1) := by
 intro a0 a1 k
 unfold impl_RunFocus.f
 repeat' first
   | (with_reducible exact impl_areFocusBases.mono _ _)
   | (with_reducible exact impl_runFocus.mono _ _ _)
   | (with_reducible exact LeO.refl _)
   | (with_reducible exact LeO.none _)
   | (with_reducible refine LeO.ite ?_ ?_)
   | (with_reducible refine LeO.bind ?_ (fun _ => ?_))
   | exact impl_areFocusBases.mono _ _
   | exact impl_runFocus.mono _ _ _
   | exact LeO.none _
   | refine LeO.ite ?_ ?_
   | refine LeO.bind ?_ (fun _ => ?_)
set_option maxHeartbeats 8000000 in
set_option maxRecDepth 100000 in
theorem impl_RunFocus.calls (k : Nat) (A0 : Option Addr) (c0 : Nat) (l0 : List Int) (a1 : Int) (r1 : List Int) (r2 : Bool) (w : World) (hr0 : Kd.C (Kd.int .i64) w A0 l0.length l0) (hc0 : l0.length ≤ c0) (h : impl_RunFocus.f k l0 a1 = some (r1, r2)) :
  Calls Try.prog 7 #[.slice A0 l0.length c0, .int .i64 a1] w fun e w' => ∃ v0_ : Value, e = .returned (.tuple #[v0_, .bool r2]) ∧ Kd.R (Kd.int .i64) 3 w' w.heap.size (fun _ => True) v0_ r1 ∧ Below w.heap.size w w' := by
 have HR0 := Ya hr0
 have HC0 := Ya hc0
 clear hr0 hc0
 have HB := Ya (Below.refl w.heap.size w)
 have H : ((impl_areFocusBases.f k l0).bind fun t224 => (if t224 = true then ((impl_within.f a1 0 5040).bind fun t225 => (if t225 = true then ((impl_runFocus.f k l0 a1).bind fun t226 => (some (t226, true))) else (some (([] : List Int), false)))) else (some (([] : List Int), false)))) = some (r1, r2) := h
 clear h
 replace H := Z35.mp H
 obtain ⟨t224, A30, H⟩ := H
 replace H : (if t224 = true then ((impl_within.f a1 0 5040).bind fun t225 => (if t225 = true then ((impl_runFocus.f k l0 a1).bind fun t226 => (some (t226, true))) else (some (([] : List Int), false)))) else (some (([] : List Int), false))) = some (r1, r2) := H
 have A3 := Ya A30
 clear A30
 by_cases c4 : t224 = true
 ·subst c4
  have H1 : ((impl_within.f a1 0 5040).bind fun t225 => (if t225 = true then ((impl_runFocus.f k l0 a1).bind fun t226 => (some (t226, true))) else (some (([] : List Int), false)))) = some (r1, r2) := by rw [if_pos rfl] at H; exact H
  clear H
  have H := H1
  clear H1
  replace H := Z35.mp H
  obtain ⟨t225, A50, H⟩ := H
  replace H : (if t225 = true then ((impl_runFocus.f k l0 a1).bind fun t226 => (some (t226, true))) else (some (([] : List Int), false))) = some (r1, r2) := H
  have A5 := Ya A50
  clear A50
  by_cases c6 : t225 = true
  ·subst c6
   have H1 : ((impl_runFocus.f k l0 a1).bind fun t226 => (some (t226, true))) = some (r1, r2) := by rw [if_pos rfl] at H; exact H
   clear H
   have H := H1
   clear H1
   replace H := Z35.mp H
   obtain ⟨t226, A70, H⟩ := H
   replace H : (some (t226, true)) = some (r1, r2) := H
   have A7 := Ya A70
   clear A70
   simp only [Option.some.injEq, Prod.mk.injEq] at H
   obtain ⟨rfl, rfl⟩ := H
   go_enter Try.func7, Try.ntmps7
   go_wp2_with (first | ((with_reducible refine gate_callee (f := 29) rfl ?_); refine Yz 7 Try.func29 #[.slice A0 l0.length c0] ?_; (with_reducible refine (impl_areFocusBases.calls k _ _ l0 true _ (Yc HR0.out) HC0.out A3.out).mono ?_); rintro e w8 ⟨rfl, hb⟩; refine ⟨_, rfl, ?_⟩; replace HB := Yh hb; (try clear hb)) | (go_at_call 30; (with_reducible refine (impl_within.calls a1 0 5040 true _ A5.out).mono ?_); rintro e w' ⟨rfl, ⟨nd, rfl⟩⟩) | ((with_reducible refine gate_callee (f := 31) rfl ?_); refine Yz 16 Try.func31 #[.slice A0 l0.length c0, .int .i64 a1] ?_; (with_reducible refine (impl_runFocus.calls k _ _ l0 a1 t226 _ ?side1 HC0.out A7.out).mono ?_); (case side1 => exact Yc (Z21 HR0.out Q0)); rintro e w9 ⟨v227, rfl, ho0, hb⟩; refine ⟨_, rfl, ?_⟩; have HO228 := Yl ho0; replace HB := Yh hb; (try clear hb ho0)))
   go_ret2
   exact ⟨_, Q1, by (with_reducible repeat (first | apply Z8 | apply Z9 | apply Z10)); exact HO228.out, Q12⟩
  ·replace c6 := Bool.eq_false_iff.mpr c6
   subst c6
   have H1 : (some (([] : List Int), false)) = some (r1, r2) := by rw [if_neg (show ¬ (false = true) by decide)] at H; exact H
   clear H
   have H := H1
   clear H1
   simp only [Option.some.injEq, Prod.mk.injEq] at H
   obtain ⟨rfl, rfl⟩ := H
   go_enter Try.func7, Try.ntmps7
   go_wp2_with (first | ((with_reducible refine gate_callee (f := 29) rfl ?_); refine Yz 7 Try.func29 #[.slice A0 l0.length c0] ?_; (with_reducible refine (impl_areFocusBases.calls k _ _ l0 true _ (Yc HR0.out) HC0.out A3.out).mono ?_); rintro e w10 ⟨rfl, hb⟩; refine ⟨_, rfl, ?_⟩; replace HB := Yh hb; (try clear hb)) | (go_at_call 30; (with_reducible refine (impl_within.calls a1 0 5040 false _ A5.out).mono ?_); rintro e w' ⟨rfl, ⟨nd, rfl⟩⟩))
   go_ret2
   exact ⟨_, Q1, Q4, Q12⟩
 ·replace c4 := Bool.eq_false_iff.mpr c4
  subst c4
  have H1 : (some (([] : List Int), false)) = some (r1, r2) := by rw [if_neg (show ¬ (false = true) by decide)] at H; exact H
  clear H
  have H := H1
  clear H1
  simp only [Option.some.injEq, Prod.mk.injEq] at H
  obtain ⟨rfl, rfl⟩ := H
  go_enter Try.func7, Try.ntmps7
  go_wp2_with (first | ((with_reducible refine gate_callee (f := 29) rfl ?_); refine Yz 7 Try.func29 #[.slice A0 l0.length c0] ?_; (with_reducible refine (impl_areFocusBases.calls k _ _ l0 false _ (Yc HR0.out) HC0.out A3.out).mono ?_); rintro e w11 ⟨rfl, hb⟩; refine ⟨_, rfl, ?_⟩; replace HB := Yh hb; (try clear hb)))
  go_ret2
  exact ⟨_, Q1, Q4, Q12⟩
def spec_raProduct.l0 : Nat → Int → List Int → Int → Int → Option (Int)
 | 0, _, _, _, _ => none
 | k + 1, x3, x6, x7, x8 => if x8 < x7 then (if 0 ≤ x8 then (if x8 < (x6.length : Int) then (if (wrap64 (x3 * (rd x6 x8))) > 1000000 then (some (wrap64 (x3 * (rd x6 x8)))) else (spec_raProduct.l0 k (wrap64 (x3 * (rd x6 x8))) x6 x7 (wrap64 (x8 + 1)))) else (none)) else (none)) else (some x3)
def spec_raProduct.f (k : Nat) (l0 : List Int) : Option (Int) := spec_raProduct.l0 k 1 l0 (l0.length : Int) 0
theorem spec_raProduct.mono_l : ∀ k, (∀ y0 y1 y2 y3, LeO (spec_raProduct.l0 k y0 y1 y2 y3) (spec_raProduct.l0 (k + 1) y0 y1 y2 y3))
 | 0 => fun _ _ _ _ r h => by simp [spec_raProduct.l0] at h
 | k + 1 => by
  have ih0 := spec_raProduct.mono_l k
  ·intro y0 y1 y2 y3
   unfold spec_raProduct.l0
   repeat' first
   | (with_reducible exact ih0 _ _ _ _)
   | (with_reducible exact LeO.refl _)
   | (with_reducible exact LeO.none _)
   | (with_reducible refine LeO.ite ?_ ?_)
   | (with_reducible refine LeO.bind ?_ (fun _ => ?_))
   | exact ih0 _ _ _ _
   | exact LeO.none _
   | refine LeO.ite ?_ ?_
   | refine LeO.bind ?_ (fun _ => ?_)
theorem spec_raProduct.mono : ∀ a0 k, LeO (spec_raProduct.f k a0) (spec_raProduct.f (k + 1) a0) := by
 intro a0 k
 have ih0 := spec_raProduct.mono_l k
 unfold spec_raProduct.f
 repeat' first
   | (with_reducible exact ih0 _ _ _ _)
   | (with_reducible exact LeO.refl _)
   | (with_reducible exact LeO.none _)
   | (with_reducible refine LeO.ite ?_ ?_)
   | (with_reducible refine LeO.bind ?_ (fun _ => ?_))
   | exact ih0 _ _ _ _
   | exact LeO.none _
   | refine LeO.ite ?_ ?_
   | refine LeO.bind ?_ (fun _ => ?_)
set_option maxHeartbeats 8000000 in
set_option maxRecDepth 100000 in
theorem spec_raProduct.calls (k : Nat) (A0 : Option Addr) (c0 : Nat) (l0 : List Int) (r : Int) (w : World) (hr0 : Kd.C (Kd.int .i64) w A0 l0.length l0) (hc0 : l0.length ≤ c0) (h : spec_raProduct.f k l0 = some r) :
  Calls Try.prog 40 #[.slice A0 l0.length c0] w fun e w' => e = .returned (.int .i64 r) ∧ Drawn0 w w' := by
 have HR0 := Ya hr0
 have HC0 := Ya hc0
 clear hr0 hc0
 have H : (spec_raProduct.l0 k 1 l0 (l0.length : Int) 0) = some r := h
 clear h
 have H' := Ya H
 clear H
 go_enter Try.func40, Try.ntmps40
 go_wp2
 go_loopg [3, 8] k (fun kq v3 v8 w' => ∃ (x3_1 : Int) (x8_1 : Int), v3 = .int .i64 x3_1 ∧ v8 = .int .i64 x8_1 ∧ Aside0 (spec_raProduct.l0 kq x3_1 l0 (l0.length : Int) x8_1 = some r) ∧ Aside0 (kq ≤ k) ∧ Drawn0 w w')
 case atStart => exact ⟨(1), (0), Q8, Q8, H', ⟨Nat.le_refl _⟩, Q11⟩
 case round =>
  clear H'
  obtain ⟨x3_1, x8_1, rfl, rfl, HA, HK1, ⟨m1, rfl⟩⟩ := hrel
  cases gk with
  | zero => exact absurd HA.out (by simp [spec_raProduct.l0])
  | succ k1 =>
   have H := HA.out
   clear HA
   simp only [spec_raProduct.l0] at H
   by_cases c2 : x8_1 < (l0.length : Int)
   ·rw [if_pos c2] at H
    have c2b0 := Z37 c2
    clear c2
    by_cases c3 : 0 ≤ x8_1
    ·rw [if_pos c3] at H
     have c3b0 := Z37 c3
     clear c3
     by_cases c4 : x8_1 < (l0.length : Int)
     ·rw [if_pos c4] at H
      have c4b0 := Z37 c4
      clear c4
      by_cases c5 : (wrap64 (x3_1 * (rd l0 x8_1))) > 1000000
      ·rw [if_pos c5] at H
       have c5b0 : decide (1000000 < (wrap64 (x3_1 * (rd l0 x8_1)))) = true := Z37 c5
       clear c5
       obtain rfl := Option.some.inj H
       have p229 : 0 ≤ (x8_1 : Int) := Z29 Q3
       have q229 : x8_1 < (l0.length : Int) := Z29 Q3
       obtain ⟨ad229, e229, hx229_0⟩ := Kd.at_int HR0.out x8_1 p229 q229
       cases e229
       replace p229 := eq_true p229
       replace q229 := eq_true q229
       go_wp2
       go_ret
       exact ⟨Q15, Q11⟩
      ·rw [if_neg c5] at H
       have c5b0 : decide (1000000 < (wrap64 (x3_1 * (rd l0 x8_1)))) = false := Z36 c5
       clear c5
       have H' := Ya H
       clear H
       have p229 : 0 ≤ (x8_1 : Int) := Z29 Q3
       have q229 : x8_1 < (l0.length : Int) := Z29 Q3
       obtain ⟨ad229, e229, hx229_0⟩ := Kd.at_int HR0.out x8_1 p229 q229
       cases e229
       replace p229 := eq_true p229
       replace q229 := eq_true q229
       go_wp2
       go_roundg k1
       case measure => have := HK1.out; omega
       case rel => exact ⟨(wrap64 (x3_1 * (rd l0 x8_1))), (wrap64 (x8_1 + 1)), Q8, Q8, H', ⟨Q23⟩, Q11⟩
     ·rw [if_neg c4] at H
      exact absurd H (by simp)
    ·rw [if_neg c3] at H
     exact absurd H (by simp)
   ·rw [if_neg c2] at H
    have c2b0 := Z36 c2
    clear c2
    obtain rfl := Option.some.inj H
    go_wp2
    go_ret
    exact ⟨Q15, Q11⟩
def spec_l1In.f (a0 : Int) (a1 : Int) (a2 : Int) : Option (Bool) := if a0 ≥ a1 then (some (decide (a0 ≤ a2))) else (some false)
set_option maxHeartbeats 8000000 in
set_option maxRecDepth 100000 in
theorem spec_l1In.calls (a0 : Int) (a1 : Int) (a2 : Int) (r : Bool) (w : World) (h : spec_l1In.f a0 a1 a2 = some r) :
  Calls Try.prog 33 #[.int .i64 a0, .int .i64 a1, .int .i64 a2] w fun e w' => e = .returned (.bool r) ∧ Drawn0 w w' := by
 have H : (if a0 ≥ a1 then (some (decide (a0 ≤ a2))) else (some false)) = some r := h
 clear h
 by_cases c4 : a0 ≥ a1
 ·rw [if_pos c4] at H
  have c4b0 : decide (a1 ≤ a0) = true := Z37 c4
  clear c4
  obtain rfl := Option.some.inj H
  go_enter Try.func33, Try.ntmps33
  go_wp2
  go_ret
  exact ⟨Q15, Q11⟩
 ·rw [if_neg c4] at H
  have c4b0 : decide (a1 ≤ a0) = false := Z36 c4
  clear c4
  obtain rfl := Option.some.inj H
  go_enter Try.func33, Try.ntmps33
  go_wp2
  go_ret
  exact ⟨Q15, Q11⟩
def spec_l1All.l0 : Nat → Int → Int → List Int → Int → Int → Option (Bool)
 | 0, _, _, _, _, _ => none
 | k + 1, x1, x2, x9, x10, x11 => if x11 < x10 then (if 0 ≤ x11 then (if x11 < (x9.length : Int) then ((spec_l1In.f (rd x9 x11) x1 x2).bind fun t231 => (if t231 = true then (spec_l1All.l0 k x1 x2 x9 x10 (wrap64 (x11 + 1))) else (some false))) else (none)) else (none)) else (some true)
def spec_l1All.f (k : Nat) (l0 : List Int) (a1 : Int) (a2 : Int) : Option (Bool) := spec_l1All.l0 k a1 a2 l0 (l0.length : Int) 0
theorem spec_l1All.mono_l : ∀ k, (∀ y0 y1 y2 y3 y4, LeO (spec_l1All.l0 k y0 y1 y2 y3 y4) (spec_l1All.l0 (k + 1) y0 y1 y2 y3 y4))
 | 0 => fun _ _ _ _ _ r h => by simp [spec_l1All.l0] at h
 | k + 1 => by
  have ih0 := spec_l1All.mono_l k
  ·intro y0 y1 y2 y3 y4
   unfold spec_l1All.l0
   repeat' first
   | (with_reducible exact ih0 _ _ _ _ _)
   | (with_reducible exact LeO.refl _)
   | (with_reducible exact LeO.none _)
   | (with_reducible refine LeO.ite ?_ ?_)
   | (with_reducible refine LeO.bind ?_ (fun _ => ?_))
   | exact ih0 _ _ _ _ _
   | exact LeO.none _
   | refine LeO.ite ?_ ?_
   | refine LeO.bind ?_ (fun _ => ?_)
theorem spec_l1All.mono : ∀ a0 a1 a2 k, LeO (spec_l1All.f k a0 a1 a2) (spec_l1All.f (k + 1) a0 a1 a2) := by
 intro a0 a1 a2 k
 have ih0 := spec_l1All.mono_l k
 unfold spec_l1All.f
 repeat' first
   | (with_reducible exact ih0 _ _ _ _ _)
   | (with_reducible exact LeO.refl _)
   | (with_reducible exact LeO.none _)
   | (with_reducible refine LeO.ite ?_ ?_)
   | (with_reducible refine LeO.bind ?_ (fun _ => ?_))
   | exact ih0 _ _ _ _ _
   | exact LeO.none _
   | refine LeO.ite ?_ ?_
   | refine LeO.bind ?_ (fun _ => ?_)
set_option maxHeartbeats 8000000 in
set_option maxRecDepth 100000 in
theorem spec_l1All.calls (k : Nat) (A0 : Option Addr) (c0 : Nat) (l0 : List Int) (a1 : Int) (a2 : Int) (r : Bool) (w : World) (hr0 : Kd.C (Kd.int .i64) w A0 l0.length l0) (hc0 : l0.length ≤ c0) (h : spec_l1All.f k l0 a1 a2 = some r) :
  Calls Try.prog 70 #[.slice A0 l0.length c0, .int .i64 a1, .int .i64 a2] w fun e w' => e = .returned (.bool r) ∧ Drawn0 w w' := by
 have HR0 := Ya hr0
 have HC0 := Ya hc0
 clear hr0 hc0
 have H : (spec_l1All.l0 k a1 a2 l0 (l0.length : Int) 0) = some r := h
 clear h
 have H' := Ya H
 clear H
 go_enter Try.func70, Try.ntmps70
 go_wp2
 go_loopg [11] k (fun kq v11 w' => ∃ (x11_1 : Int), v11 = .int .i64 x11_1 ∧ Aside0 (spec_l1All.l0 kq a1 a2 l0 (l0.length : Int) x11_1 = some r) ∧ Aside0 (kq ≤ k) ∧ Drawn0 w w')
 case atStart => exact ⟨(0), Q8, H', ⟨Nat.le_refl _⟩, Q11⟩
 case round =>
  clear H'
  try clear p2
  obtain ⟨x11_1, rfl, HA, HK1, ⟨m1, rfl⟩⟩ := hrel
  cases gk with
  | zero => exact absurd HA.out (by simp [spec_l1All.l0])
  | succ k1 =>
   have H := HA.out
   clear HA
   simp only [spec_l1All.l0] at H
   by_cases c4 : x11_1 < (l0.length : Int)
   ·rw [if_pos c4] at H
    have c4b0 := Z37 c4
    clear c4
    by_cases c5 : 0 ≤ x11_1
    ·rw [if_pos c5] at H
     have c5b0 := Z37 c5
     clear c5
     by_cases c6 : x11_1 < (l0.length : Int)
     ·rw [if_pos c6] at H
      have c6b0 := Z37 c6
      clear c6
      replace H := Z35.mp H
      obtain ⟨t231, A70, H⟩ := H
      replace H : (if t231 = true then (spec_l1All.l0 k1 a1 a2 l0 (l0.length : Int) (wrap64 (x11_1 + 1))) else (some false)) = some r := H
      have A7 := Ya A70
      clear A70
      by_cases c8 : t231 = true
      ·subst c8
       have H1 : (spec_l1All.l0 k1 a1 a2 l0 (l0.length : Int) (wrap64 (x11_1 + 1))) = some r := by rw [if_pos rfl] at H; exact H
       clear H
       have H := H1
       clear H1
       have H' := Ya H
       clear H
       have p230 : 0 ≤ (x11_1 : Int) := Z29 Q3
       have q230 : x11_1 < (l0.length : Int) := Z29 Q3
       obtain ⟨ad230, e230, hx230_0⟩ := Kd.at_int HR0.out x11_1 p230 q230
       cases e230
       replace p230 := eq_true p230
       replace q230 := eq_true q230
       go_wp2_with (first | ((with_reducible refine gate_callee (f := 33) rfl ?_); refine Yz 18 Try.func33 #[.int .i64 (rd l0 x11_1), .int .i64 a1, .int .i64 a2] ?_; (with_reducible refine (spec_l1In.calls (rd l0 x11_1) a1 a2 true _ A7.out).mono ?_); rintro e w' ⟨rfl, ⟨nd, rfl⟩⟩; refine ⟨_, rfl, ?_⟩))
       go_roundg k1
       case measure => have := HK1.out; omega
       case rel => exact ⟨(wrap64 (x11_1 + 1)), Q8, H', ⟨Q23⟩, Q11⟩
      ·replace c8 := Bool.eq_false_iff.mpr c8
       subst c8
       have H1 : (some false) = some r := by rw [if_neg (show ¬ (false = true) by decide)] at H; exact H
       clear H
       have H := H1
       clear H1
       obtain rfl := Option.some.inj H
       have p230 : 0 ≤ (x11_1 : Int) := Z29 Q3
       have q230 : x11_1 < (l0.length : Int) := Z29 Q3
       obtain ⟨ad230, e230, hx230_0⟩ := Kd.at_int HR0.out x11_1 p230 q230
       cases e230
       replace p230 := eq_true p230
       replace q230 := eq_true q230
       go_wp2_with (first | ((with_reducible refine gate_callee (f := 33) rfl ?_); refine Yz 18 Try.func33 #[.int .i64 (rd l0 x11_1), .int .i64 a1, .int .i64 a2] ?_; (with_reducible refine (spec_l1In.calls (rd l0 x11_1) a1 a2 false _ A7.out).mono ?_); rintro e w' ⟨rfl, ⟨nd, rfl⟩⟩; refine ⟨_, rfl, ?_⟩))
       go_ret
       exact ⟨Q15, Q11⟩
     ·rw [if_neg c6] at H
      exact absurd H (by simp)
    ·rw [if_neg c5] at H
     exact absurd H (by simp)
   ·rw [if_neg c4] at H
    have c4b0 := Z36 c4
    clear c4
    obtain rfl := Option.some.inj H
    go_wp2
    go_ret
    exact ⟨Q15, Q11⟩
def spec_raBases.f (k : Nat) (l0 : List Int) : Option (Bool) := if (l0.length : Int) ≤ 12 then ((spec_l1All.f k l0 2 12).bind fun t232 => (if t232 = true then ((spec_raProduct.f k l0).bind fun t233 => (some (decide (t233 ≤ 1000000)))) else (some false))) else (some false)
theorem spec_raBases.mono : ∀ a0 k, LeO (spec_raBases.f k a0) (spec_raBases.f (k + 1) a0) := by
 intro a0 k
 unfold spec_raBases.f
 repeat' first
   | (with_reducible exact spec_l1All.mono _ _ _ _)
   | (with_reducible exact spec_raProduct.mono _ _)
   | (with_reducible exact LeO.refl _)
   | (with_reducible exact LeO.none _)
   | (with_reducible refine LeO.ite ?_ ?_)
   | (with_reducible refine LeO.bind ?_ (fun _ => ?_))
   | exact spec_l1All.mono _ _ _ _
   | exact spec_raProduct.mono _ _
   | exact LeO.none _
   | refine LeO.ite ?_ ?_
   | refine LeO.bind ?_ (fun _ => ?_)
set_option maxHeartbeats 8000000 in
set_option maxRecDepth 100000 in
theorem spec_raBases.calls (k : Nat) (A0 : Option Addr) (c0 : Nat) (l0 : List Int) (r : Bool) (w : World) (hr0 : Kd.C (Kd.int .i64) w A0 l0.length l0) (hc0 : l0.length ≤ c0) (h : spec_raBases.f k l0 = some r) :
  Calls Try.prog 57 #[.slice A0 l0.length c0] w fun e w' => e = .returned (.bool r) ∧ Drawn0 w w' := by
 have HR0 := Ya hr0
 have HC0 := Ya hc0
 clear hr0 hc0
 have H : (if (l0.length : Int) ≤ 12 then ((spec_l1All.f k l0 2 12).bind fun t232 => (if t232 = true then ((spec_raProduct.f k l0).bind fun t233 => (some (decide (t233 ≤ 1000000)))) else (some false))) else (some false)) = some r := h
 clear h
 by_cases c2 : (l0.length : Int) ≤ 12
 ·rw [if_pos c2] at H
  have c2b0 := Z37 c2
  have c2b1 : decide (l0.length ≤ 12) = true := Z37 (by omega)
  clear c2
  replace H := Z35.mp H
  obtain ⟨t232, A30, H⟩ := H
  replace H : (if t232 = true then ((spec_raProduct.f k l0).bind fun t233 => (some (decide (t233 ≤ 1000000)))) else (some false)) = some r := H
  have A3 := Ya A30
  clear A30
  by_cases c4 : t232 = true
  ·subst c4
   have H1 : ((spec_raProduct.f k l0).bind fun t233 => (some (decide (t233 ≤ 1000000)))) = some r := by rw [if_pos rfl] at H; exact H
   clear H
   have H := H1
   clear H1
   replace H := Z35.mp H
   obtain ⟨t233, A50, H⟩ := H
   replace H : (some (decide (t233 ≤ 1000000))) = some r := H
   have A5 := Ya A50
   clear A50
   obtain rfl := Option.some.inj H
   go_enter Try.func57, Try.ntmps57
   go_wp2_with (first | (go_at_call 70; (with_reducible refine (spec_l1All.calls k _ _ l0 2 12 true _ (Yc HR0.out) HC0.out A3.out).mono ?_); rintro e w' ⟨rfl, ⟨nd, rfl⟩⟩) | (go_at_call 40; (with_reducible refine (spec_raProduct.calls k _ _ l0 t233 _ (Yc HR0.out) HC0.out A5.out).mono ?_); rintro e w' ⟨rfl, ⟨nd, rfl⟩⟩))
   go_ret
   exact ⟨Q15, Q11⟩
  ·replace c4 := Bool.eq_false_iff.mpr c4
   subst c4
   have H1 : (some false) = some r := by rw [if_neg (show ¬ (false = true) by decide)] at H; exact H
   clear H
   have H := H1
   clear H1
   obtain rfl := Option.some.inj H
   go_enter Try.func57, Try.ntmps57
   go_wp2_with (first | (go_at_call 70; (with_reducible refine (spec_l1All.calls k _ _ l0 2 12 false _ (Yc HR0.out) HC0.out A3.out).mono ?_); rintro e w' ⟨rfl, ⟨nd, rfl⟩⟩))
   go_ret
   exact ⟨Q15, Q11⟩
 ·rw [if_neg c2] at H
  have c2b0 := Z36 c2
  have c2b1 : decide (l0.length ≤ 12) = false := Z36 (by omega)
  clear c2
  obtain rfl := Option.some.inj H
  go_enter Try.func57, Try.ntmps57
  go_wp2
  go_ret
  exact ⟨Q15, Q11⟩
def spec_foBases.f (k : Nat) (l0 : List Int) : Option (Bool) := (spec_raBases.f k l0).bind fun t234 => (if t234 = true then ((spec_raProduct.f k l0).bind fun t235 => (some (decide (t235 ≤ 5040)))) else (some false))
theorem spec_foBases.mono : ∀ a0 k, LeO (spec_foBases.f k a0) (spec_foBases.f (k + 1) a0) := by
 intro a0 k
 unfold spec_foBases.f
 repeat' first
   | (with_reducible exact spec_raBases.mono _ _)
   | (with_reducible exact spec_raProduct.mono _ _)
   | (with_reducible exact LeO.refl _)
   | (with_reducible exact LeO.none _)
   | (with_reducible refine LeO.ite ?_ ?_)
   | (with_reducible refine LeO.bind ?_ (fun _ => ?_))
   | exact spec_raBases.mono _ _
   | exact spec_raProduct.mono _ _
   | exact LeO.none _
   | refine LeO.ite ?_ ?_
   | refine LeO.bind ?_ (fun _ => ?_)
set_option maxHeartbeats 8000000 in
set_option maxRecDepth 100000 in
theorem spec_foBases.calls (k : Nat) (A0 : Option Addr) (c0 : Nat) (l0 : List Int) (r : Bool) (w : World) (hr0 : Kd.C (Kd.int .i64) w A0 l0.length l0) (hc0 : l0.length ≤ c0) (h : spec_foBases.f k l0 = some r) :
  Calls Try.prog 32 #[.slice A0 l0.length c0] w fun e w' => e = .returned (.bool r) ∧ Drawn0 w w' := by
 have HR0 := Ya hr0
 have HC0 := Ya hc0
 clear hr0 hc0
 have H : ((spec_raBases.f k l0).bind fun t234 => (if t234 = true then ((spec_raProduct.f k l0).bind fun t235 => (some (decide (t235 ≤ 5040)))) else (some false))) = some r := h
 clear h
 replace H := Z35.mp H
 obtain ⟨t234, A20, H⟩ := H
 replace H : (if t234 = true then ((spec_raProduct.f k l0).bind fun t235 => (some (decide (t235 ≤ 5040)))) else (some false)) = some r := H
 have A2 := Ya A20
 clear A20
 by_cases c3 : t234 = true
 ·subst c3
  have H1 : ((spec_raProduct.f k l0).bind fun t235 => (some (decide (t235 ≤ 5040)))) = some r := by rw [if_pos rfl] at H; exact H
  clear H
  have H := H1
  clear H1
  replace H := Z35.mp H
  obtain ⟨t235, A40, H⟩ := H
  replace H : (some (decide (t235 ≤ 5040))) = some r := H
  have A4 := Ya A40
  clear A40
  obtain rfl := Option.some.inj H
  go_enter Try.func32, Try.ntmps32
  go_wp2_with (first | ((with_reducible refine gate_callee (f := 57) rfl ?_); refine Yz 4 Try.func57 #[.slice A0 l0.length c0] ?_; (with_reducible refine (spec_raBases.calls k _ _ l0 true _ (Yc HR0.out) HC0.out A2.out).mono ?_); rintro e w' ⟨rfl, ⟨nd, rfl⟩⟩; refine ⟨_, rfl, ?_⟩) | (go_at_call 40; (with_reducible refine (spec_raProduct.calls k _ _ l0 t235 _ (Yc HR0.out) HC0.out A4.out).mono ?_); rintro e w' ⟨rfl, ⟨nd, rfl⟩⟩))
  go_ret
  exact ⟨Q15, Q11⟩
 ·replace c3 := Bool.eq_false_iff.mpr c3
  subst c3
  have H1 : (some false) = some r := by rw [if_neg (show ¬ (false = true) by decide)] at H; exact H
  clear H
  have H := H1
  clear H1
  obtain rfl := Option.some.inj H
  go_enter Try.func32, Try.ntmps32
  go_wp2_with (first | ((with_reducible refine gate_callee (f := 57) rfl ?_); refine Yz 4 Try.func57 #[.slice A0 l0.length c0] ?_; (with_reducible refine (spec_raBases.calls k _ _ l0 false _ (Yc HR0.out) HC0.out A2.out).mono ?_); rintro e w' ⟨rfl, ⟨nd, rfl⟩⟩; refine ⟨_, rfl, ?_⟩))
  go_ret
  exact ⟨Q15, Q11⟩
def spec_l1Own.f (l0 : List Int) : Option (List Int) := (some (([] : List Int) : List Int)).bind fun y236 => (if y236.length + l0.length < 17592186044416 then (some (y236 ++ l0)) else (none))
set_option maxHeartbeats 8000000 in
set_option maxRecDepth 100000 in
theorem spec_l1Own.calls (A0 : Option Addr) (c0 : Nat) (l0 : List Int) (r : List Int) (w : World) (hr0 : Kd.C (Kd.int .i64) w A0 l0.length l0) (hc0 : l0.length ≤ c0) (h : spec_l1Own.f l0 = some r) :
  Calls Try.prog 71 #[.slice A0 l0.length c0] w fun e w' => ∃ v0_ : Value, e = .returned (v0_) ∧ Kd.R (Kd.int .i64) 3 w' w.heap.size (fun _ => True) v0_ r ∧ Below w.heap.size w w' := by
 have HR0 := Ya hr0
 have HC0 := Ya hc0
 clear hr0 hc0
 have HB := Ya (Below.refl w.heap.size w)
 have H : ((some (([] : List Int) : List Int)).bind fun y236 => (if y236.length + l0.length < 17592186044416 then (some (y236 ++ l0)) else (none))) = some r := h
 clear h
 obtain ⟨y236, hy236⟩ : ∃ y_ : List Int, y_ = (([] : List Int)) := ⟨_, rfl⟩
 replace H : (if y236.length + l0.length < 17592186044416 then (some (y236 ++ l0)) else (none)) = some r := by first | (rw [hy236]; with_reducible exact H) | (have H2_ := (Option.bind_some _ _).symm.trans H; rw [hy236]; with_reducible exact H2_) | (have H2_ := (Option.bind_some _ _).symm.trans H; with_reducible exact H2_) | with_reducible exact H | (rw [hy236]; exact H) | exact H
 have Ny236 := Ya hy236
 clear hy236
 by_cases c2 : y236.length + l0.length < 17592186044416
 ·rw [if_pos c2] at H
  have LMc2 := Ya c2
  clear c2
  obtain ⟨y239, hy239⟩ : ∃ y_ : List Int, y_ = (y236 ++ l0) := ⟨_, rfl⟩
  replace H : (some y239) = some r := by first | (rw [hy239]; with_reducible exact H) | (have H2_ := (Option.bind_some _ _).symm.trans H; rw [hy239]; with_reducible exact H2_) | (have H2_ := (Option.bind_some _ _).symm.trans H; with_reducible exact H2_) | with_reducible exact H | (rw [hy239]; exact H) | exact H
  have Ny239 := Ya hy239
  clear hy239
  obtain rfl := Option.some.inj H
  go_enter Try.func71, Try.ntmps71
  go_wp2_with (first | ((with_reducible refine gate_dst (N := 3) rfl ?_); refine Kd.R_lit (Kd.int .i64) _ 3 ?hg (N := 3) ?hd (xs := ([] : List Int)) (inner := []) (ok := fun _ => True) (okp := fun _ => True) ?hr ?hp (fun _ hk => hk) trivial (Below.refl _ _) (Nat.le_refl _) (by simp) ?_; (case hd => rfl); (case hg => rfl); (case hr => first | (go_simp; done) | (go_simp; rfl)); (case hp => exact (Reps.none _ _)); intro v237 w3 ho4 hb hg_ hnew_; clear hg_ hnew_; (first | rw [← Ny236.out] at ho4 | (simp only [Int.reduceToNat] at ho4; rw [← Ny236.out] at ho4)); have HO238 := Yl ho4; replace HB := Yh hb; clear hb ho4) | ((with_reducible refine gate_builtin (b := .append) (xs := #[.tmp 3, .tmp 4]) rfl ?_); at_builtin; refine Kd.R_append_rows (Kd.int .i64) (w0 := w) w.heap.size rfl (.tmp 3) (.tmp 4) 24 3 (.int .i64 0) 8 rfl Try.underlying24 info3 rfl (by decide) (by omega) v237 y236 l0 _ _ _ (fun _ => True) (fun _ => False) rfl rfl ?aO ?aR (fun _ _ h => h) (fun _ h => h.elim) ?aF ?aB ?aS ?aL ?_; (case aR => repeat (first | exact (Z21 HR0.out HB.out) | (with_reducible refine Z18 ?_ _) | (with_reducible refine Z19 ?_ _) | (with_reducible refine Z20 ?_))); (case aB => exact Q0); (case aF => exact (fun _ _ => trivial)); (case aO => exact (Yr HO238.out)); (case aS => exact (Z7 Q0)); (case aL => have := LMc2.out; omega); intro v240 w5 ho hb hg hat; rw [← Ny239.out] at ho; replace HB := Ya hb; have HO241 := Ya ho; clear HO238; clear ho hb hg hat))
  go_ret
  exact ⟨_, Q1, by (with_reducible repeat (first | apply Z8 | apply Z9 | apply Z10)); exact HO241.out, Q12⟩
 ·rw [if_neg c2] at H
  exact absurd H (by simp)
def spec_foOwn.f (l0_0 : List Int) (l0_1 : List Int) (l0_2 : List Bool) (l0_3 : List Int) : Option (List Int × List Int × List Bool × List Int) := (spec_l1Own.f l0_0).bind fun t244 => ((spec_l1Own.f l0_1).bind fun t247 => ((some (([] : List Bool) : List Bool)).bind fun y250 => (if y250.length + l0_2.length < 140737488355328 then ((spec_l1Own.f l0_3).bind fun t256 => (some (t244, t247, (y250 ++ l0_2), t256))) else (none))))
def spec_foOwn.T1 : Bool × List (List Nat × List Nat) := (true, [([], []), ([0], [0]), ([1], [1]), ([], []), ([3], [3]), ([4, 2], [4]), ([], []), ([], []), ([7], [7]), ([6, 8, 5], [6, 8]), ([], []), ([10], [10]), ([11, 9], [11]), ([2, 5, 9, 12], [2, 5, 9, 12]), ([13, 12, 0, 1, 2, 3, 4, 5, 6, 7, 8, 9, 10, 11, 12, 13], [13])])
def spec_foOwn.B1 : List Nat := [0, 1, 3, 0, 8, 31, 0, 0, 128, 511, 0, 1024, 4095, 8191, 16383]
theorem spec_foOwn.tab1 : rtab .any (opsOf Try.f66 1) = spec_foOwn.T1 := by kernel_rfl
theorem spec_foOwn.bits1 : waitsOk spec_foOwn.T1.2 spec_foOwn.B1 = true := by kernel_rfl
set_option maxHeartbeats 8000000 in
set_option maxRecDepth 100000 in
theorem spec_foOwn.calls (A0_0 : Option Addr) (c0_0 : Nat) (l0_0 : List Int) (A0_1 : Option Addr) (c0_1 : Nat) (l0_1 : List Int) (A0_2 : Option Addr) (c0_2 : Nat) (l0_2 : List Bool) (A0_3 : Option Addr) (c0_3 : Nat) (l0_3 : List Int) (r1 : List Int) (r2 : List Int) (r3 : List Bool) (r4 : List Int) (w : World) (hr0_0 : Kd.C (Kd.int .i64) w A0_0 l0_0.length l0_0) (hc0_0 : l0_0.length ≤ c0_0) (hr0_1 : Kd.C (Kd.int .i64) w A0_1 l0_1.length l0_1) (hc0_1 : l0_1.length ≤ c0_1) (hr0_2 : Kd.C Kd.bool w A0_2 l0_2.length l0_2) (hc0_2 : l0_2.length ≤ c0_2) (hr0_3 : Kd.C (Kd.int .i64) w A0_3 l0_3.length l0_3) (hc0_3 : l0_3.length ≤ c0_3) (h : spec_foOwn.f l0_0 l0_1 l0_2 l0_3 = some (r1, r2, r3, r4)) :
  Calls Try.prog 66 #[.agg #[.slice A0_0 l0_0.length c0_0, .slice A0_1 l0_1.length c0_1, .slice A0_2 l0_2.length c0_2, .slice A0_3 l0_3.length c0_3]] w fun e w' => ∃ v0_ v1_ v2_ v3_ : Value, e = .returned (.agg #[v0_, v1_, v2_, v3_]) ∧ Kd.R (Kd.int .i64) 3 w' w.heap.size (fun k_ => some k_ ≠ (v1_ : Value).ownBlock ∧ some k_ ≠ (v3_ : Value).ownBlock) v0_ r1 ∧ Kd.R (Kd.int .i64) 3 w' w.heap.size (fun k_ => some k_ ≠ (v0_ : Value).ownBlock ∧ some k_ ≠ (v3_ : Value).ownBlock) v1_ r2 ∧ Kd.R Kd.bool 4 w' w.heap.size (fun _ => True) v2_ r3 ∧ Kd.R (Kd.int .i64) 3 w' w.heap.size (fun k_ => some k_ ≠ (v0_ : Value).ownBlock ∧ some k_ ≠ (v1_ : Value).ownBlock) v3_ r4 ∧ Below w.heap.size w w' := by
 have hu33 := Try.underlying33
 have HR0_0 := Ya hr0_0
 have HC0_0 := Ya hc0_0
 clear hr0_0 hc0_0
 have HR0_1 := Ya hr0_1
 have HC0_1 := Ya hc0_1
 clear hr0_1 hc0_1
 have HR0_2 := Ya hr0_2
 have HC0_2 := Ya hc0_2
 clear hr0_2 hc0_2
 have HR0_3 := Ya hr0_3
 have HC0_3 := Ya hc0_3
 clear hr0_3 hc0_3
 have HB := Ya (Below.refl w.heap.size w)
 have H : ((spec_l1Own.f l0_0).bind fun t244 => ((spec_l1Own.f l0_1).bind fun t247 => ((some (([] : List Bool) : List Bool)).bind fun y250 => (if y250.length + l0_2.length < 140737488355328 then ((spec_l1Own.f l0_3).bind fun t256 => (some (t244, t247, (y250 ++ l0_2), t256))) else (none))))) = some (r1, r2, r3, r4) := h
 clear h
 replace H := Z35.mp H
 obtain ⟨t244, A20, H⟩ := H
 replace H : ((spec_l1Own.f l0_1).bind fun t247 => ((some (([] : List Bool) : List Bool)).bind fun y250 => (if y250.length + l0_2.length < 140737488355328 then ((spec_l1Own.f l0_3).bind fun t256 => (some (t244, t247, (y250 ++ l0_2), t256))) else (none)))) = some (r1, r2, r3, r4) := H
 have A2 := Ya A20
 clear A20
 replace H := Z35.mp H
 obtain ⟨t247, A30, H⟩ := H
 replace H : ((some (([] : List Bool) : List Bool)).bind fun y250 => (if y250.length + l0_2.length < 140737488355328 then ((spec_l1Own.f l0_3).bind fun t256 => (some (t244, t247, (y250 ++ l0_2), t256))) else (none))) = some (r1, r2, r3, r4) := H
 have A3 := Ya A30
 clear A30
 obtain ⟨y250, hy250⟩ : ∃ y_ : List Bool, y_ = (([] : List Bool)) := ⟨_, rfl⟩
 replace H : (if y250.length + l0_2.length < 140737488355328 then ((spec_l1Own.f l0_3).bind fun t256 => (some (t244, t247, (y250 ++ l0_2), t256))) else (none)) = some (r1, r2, r3, r4) := by first | (rw [hy250]; with_reducible exact H) | (have H2_ := (Option.bind_some _ _).symm.trans H; rw [hy250]; with_reducible exact H2_) | (have H2_ := (Option.bind_some _ _).symm.trans H; with_reducible exact H2_) | with_reducible exact H | (rw [hy250]; exact H) | exact H
 have Ny250 := Ya hy250
 clear hy250
 by_cases c4 : y250.length + l0_2.length < 140737488355328
 ·rw [if_pos c4] at H
  have LMc4 := Ya c4
  clear c4
  obtain ⟨y253, hy253⟩ : ∃ y_ : List Bool, y_ = (y250 ++ l0_2) := ⟨_, rfl⟩
  replace H : ((spec_l1Own.f l0_3).bind fun t256 => (some (t244, t247, y253, t256))) = some (r1, r2, r3, r4) := by first | (rw [hy253]; with_reducible exact H) | (have H2_ := (Option.bind_some _ _).symm.trans H; rw [hy253]; with_reducible exact H2_) | (have H2_ := (Option.bind_some _ _).symm.trans H; with_reducible exact H2_) | with_reducible exact H | (rw [hy253]; exact H) | exact H
  have Ny253 := Ya hy253
  clear hy253
  replace H := Z35.mp H
  obtain ⟨t256, A50, H⟩ := H
  replace H : (some (t244, t247, y253, t256)) = some (r1, r2, r3, r4) := H
  have A5 := Ya A50
  clear A50
  simp only [Option.some.injEq, Prod.mk.injEq] at H
  obtain ⟨rfl, rfl, rfl, rfl⟩ := H
  go_enter Try.func66, Try.ntmps66
  try go_wp2_with (first | ((with_reducible refine gate_dst (N := 1) rfl ?_); refine Yx 1 #[.slice A0_0 l0_0.length c0_0, .slice A0_1 l0_1.length c0_1, .slice A0_2 l0_2.length c0_2, .slice A0_3 l0_3.length c0_3] 33 ?_; intro gb242 hg w6 hbox hb; have BK242 := Ya hbox; have GE242 := Yg hg; replace HB := Yh hb; clear hb hbox hg) | ((with_reducible refine gate_dst (N := 2) rfl ?_); refine Yx 2 YN4 33 ?_; intro gb243 hg w7 hbox hb; have BK243 := Ya hbox; have GE243 := Yg hg; replace HB := Yh hb; have NB242_243 := Yn BK242 hg; have NB243_242 := Ym BK242 hg; replace BK242 := Yb BK242 hb; clear hb hbox hg))
  replace BK242 := Ya (Z25 BK242.out)
  replace BK243 := Ya (Z25 BK243.out)
  replace HB := Ya (Z4 HB.out)
  refine start_ (n := 15) (S := fun w' => w'.cell? ⟨gb242, 0, none⟩ = some (.slice A0_0 l0_0.length c0_0) ∧ w'.cell? ⟨gb242, 1, none⟩ = some (.slice A0_1 l0_1.length c0_1) ∧ w'.cell? ⟨gb242, 2, none⟩ = some (.slice A0_2 l0_2.length c0_2) ∧ w'.cell? ⟨gb242, 3, none⟩ = some (.slice A0_3 l0_3.length c0_3)) (ds := []) (YA 15 0) (by kernel_rfl) rfl rfl (Yz4 BK242.out) (fun hHeld => ?_); refine with_tabW spec_foOwn.tab1 spec_foOwn.bits1 (fun HT_ HW_ => ?_)
  generalize w7.drew = w8 at BK242 BK243 HB hHeld ⊢
  refine Yp 0 (some 3) (YA 15 1) rfl HT_.out ?_
  refine Yp 3 (some 6) (YA 15 9) rfl HT_.out ?_
  refine Yp 7 (some 10) (YA 15 137) rfl HT_.out ?_
  refine Yp 10 (some 13) (YA 15 1161) rfl HT_.out ?_
  refine Yt 1 (some 4) (YA 15 1163) rfl HT_.out HW_.out hHeld Q9 ?_
  refine Yt 4 (some 7) (YA 15 1179) rfl HT_.out HW_.out hHeld Q9 ?_
  refine Yt 8 (some 11) (YA 15 1435) rfl HT_.out HW_.out hHeld Q9 ?_
  refine Yt 11 (some 14) (YA 15 3483) rfl HT_.out HW_.out hHeld Q9 ?_
  refine join_ (σ := Value × Value × Value) 4 (YA 15 3583) (fun s_ => [(5, s_.1), (8, s_.2.1), (9, s_.2.2)]) (fun s_ w' => (w'.cell? ⟨gb242, 0, none⟩ = some (.slice A0_0 l0_0.length c0_0) ∧ w'.cell? ⟨gb242, 1, none⟩ = some (.slice A0_1 l0_1.length c0_1) ∧ w'.cell? ⟨gb242, 2, none⟩ = some (.slice A0_2 l0_2.length c0_2) ∧ w'.cell? ⟨gb242, 3, none⟩ = some (.slice A0_3 l0_3.length c0_3)) ∧ (Kd.R (Kd.int .i64) 3 w' w.heap.size (fun k_ => some k_ ≠ (s_.2.1 : Value).ownBlock) s_.1 t244) ∧ (Kd.R (Kd.int .i64) 3 w' w.heap.size (fun k_ => some k_ ≠ (s_.1 : Value).ownBlock) s_.2.1 t247) ∧ (Kd.R Kd.bool 4 w' w.heap.size (fun _ => True) s_.2.2 y250) ∧ (w'.heap[gb242]? = some (.cells #[.slice A0_0 l0_0.length c0_0, .slice A0_1 l0_1.length c0_1, .slice A0_2 l0_2.length c0_2, .slice A0_3 l0_3.length c0_3] 33 (0, 0))) ∧ (w'.heap[gb243]? = some (.cells YN4 33 (0, 0))) ∧ (Below w.heap.size w w')) ?_ ?_
  rotate_left
  ·intro hCont
   refine two_ (i := 2) (j := 6) (Ni := some 5) (Nj := some 9) (YA 15 3487) (YA 15 3547) rfl rfl rfl rfl (two_of HT_.out (by kernel_rfl)) (by decide) (by decide) (fun K hK => ?_) (fun K hK => ?_)
   ·skip
    refine goes_ Try.func71 (by kernel_rfl) rfl #[.slice A0_0 l0_0.length c0_0] (by rfl) rfl rfl Q10 ?_
    with_reducible refine (spec_l1Own.calls _ _ l0_0 t244 _ ?side1 ?side2 A2.out).mono ?_
    (case side1 => exact Yc (Z21 HR0_0.out HB.out))
    (case side2 => exact HC0_0.out)
    rintro e w9 ⟨v245, rfl, ho0, hb⟩
    refine ⟨_, rfl, ?_⟩
    have HO246 := Yl ho0
    replace BK242 := Yb BK242 hb
    replace BK243 := Yb BK243 hb
    replace HB := Yh hb
    (try clear hb ho0)
    refine hK.out _ _ (Yz4 BK242.out) (fun hHeld => ?_)
    clear hK K
    refine norm_ (a' := ?_) ?_ ?_
    rotate_left
    ·show Act.put _ (some 5) _ = _
     simp only [Act.put, Z0, Z1, Z2, i64_w, i32_w]
     rfl
    refine two_ (i := 5) (j := 6) (Ni := some 8) (Nj := some 9) (YA 15 3519) (YA 15 3551) rfl rfl rfl rfl (two_of HT_.out (by kernel_rfl)) (by decide) (by decide) (fun K hK => ?_) (fun K hK => ?_)
    ·skip
     refine goes_ Try.func71 (by kernel_rfl) rfl #[.slice A0_1 l0_1.length c0_1] (by rfl) rfl rfl Q10 ?_
     with_reducible refine (spec_l1Own.calls _ _ l0_1 t247 _ ?side1 ?side2 A3.out).mono ?_
     (case side1 => exact Yc (Z21 HR0_1.out HB.out))
     (case side2 => exact HC0_1.out)
     rintro e w10 ⟨v248, rfl, ho0, hb⟩
     refine ⟨_, rfl, ?_⟩
     have HO249 := Yl (Kd.R_new' ho0 (Z16 (Yr HO246.out)))
     replace HO246 := Ya (Kd.R_elder' (Yr HO246.out) (Kd.R_base ho0) hb)
     replace BK242 := Yb BK242 hb
     replace BK243 := Yb BK243 hb
     replace HB := Yh hb
     (try clear hb ho0)
     refine hK.out _ _ (Yz4 BK242.out) (fun hHeld => ?_)
     clear hK K
     refine norm_ (a' := ?_) ?_ ?_
     rotate_left
     ·show Act.put _ (some 8) _ = _
      simp only [Act.put, Z0, Z1, Z2, i64_w, i32_w]
      rfl
     refine one_ (i := 6) (N := some 9) (YA 15 3583) rfl rfl (one_of HT_.out (by kernel_rfl)) (by decide) (fun K hK => ?_)
     refine Kd.R_lit_step Kd.bool _ 4 ?hg (N := 9) ?hd (xs := ([] : List Bool)) (inner := []) (ok := fun _ => True) (okp := fun _ => True) ?hr ?hp (fun _ hk => hk) trivial (Below.refl _ _) (Nat.le_refl _) (by simp) ?_; (case hd => rfl); (case hg => rfl); (case hr => first | (go_simp; done) | (go_simp; rfl)); (case hp => exact (Reps.none _ _))
     intro v251 w11 ho12 hb hg_ hnew_
     clear hg_ hnew_
     (first | rw [← Ny250.out] at ho12 | (simp only [Int.reduceToNat] at ho12; rw [← Ny250.out] at ho12))
     replace HO246 := Yw HO246 hb
     replace HO249 := Yw HO249 hb
     have HO252 := Yl ho12
     replace BK242 := Yb BK242 hb
     replace BK243 := Yb BK243 hb
     replace HB := Yh hb
     clear hb ho12
     refine hK.out _ _ (Yz4 BK242.out) (fun hHeld => ?_)
     clear hK K
     refine norm_ (a' := ?_) ?_ ?_
     rotate_left
     ·show Act.put _ (some 9) _ = _
      simp only [Act.put, Z0, Z1, Z2, i64_w, i32_w]
      rfl
     exact norm_ Q31 (hCont (v245, v248, v251) _ ⟨hHeld, (Yj HO246.out (fun _ hk => hk.2)), (Yj HO249.out (fun _ hk => hk.2)), (Yr HO252.out), (Yk BK242.out), (Yk BK243.out), Q0⟩)
    ·skip
     refine Kd.R_lit_step Kd.bool _ 4 ?hg (N := 9) ?hd (xs := ([] : List Bool)) (inner := []) (ok := fun _ => True) (okp := fun _ => True) ?hr ?hp (fun _ hk => hk) trivial (Below.refl _ _) (Nat.le_refl _) (by simp) ?_; (case hd => rfl); (case hg => rfl); (case hr => first | (go_simp; done) | (go_simp; rfl)); (case hp => exact (Reps.none _ _))
     intro v251 w10 ho11 hb hg_ hnew_
     clear hg_ hnew_
     (first | rw [← Ny250.out] at ho11 | (simp only [Int.reduceToNat] at ho11; rw [← Ny250.out] at ho11))
     replace HO246 := Yw HO246 hb
     have HO252 := Yl ho11
     replace BK242 := Yb BK242 hb
     replace BK243 := Yb BK243 hb
     replace HB := Yh hb
     clear hb ho11
     refine hK.out _ _ (Yz4 BK242.out) (fun hHeld => ?_)
     clear hK K
     refine norm_ (a' := ?_) ?_ ?_
     rotate_left
     ·show Act.put _ (some 9) _ = _
      simp only [Act.put, Z0, Z1, Z2, i64_w, i32_w]
      rfl
     refine one_ (i := 5) (N := some 8) (YA 15 3583) rfl rfl (one_of HT_.out (by kernel_rfl)) (by decide) (fun K hK => ?_)
     refine goes_ Try.func71 (by kernel_rfl) rfl #[.slice A0_1 l0_1.length c0_1] (by rfl) rfl rfl Q10 ?_
     with_reducible refine (spec_l1Own.calls _ _ l0_1 t247 _ ?side1 ?side2 A3.out).mono ?_
     (case side1 => exact Yc (Z21 HR0_1.out HB.out))
     (case side2 => exact HC0_1.out)
     rintro e w12 ⟨v248, rfl, ho0, hb⟩
     refine ⟨_, rfl, ?_⟩
     replace HO252 := Yw HO252 hb
     have HO249 := Yl (Kd.R_new' ho0 (Z16 (Yr HO246.out)))
     replace HO246 := Ya (Kd.R_elder' (Yr HO246.out) (Kd.R_base ho0) hb)
     replace BK242 := Yb BK242 hb
     replace BK243 := Yb BK243 hb
     replace HB := Yh hb
     (try clear hb ho0)
     refine hK.out _ _ (Yz4 BK242.out) (fun hHeld => ?_)
     clear hK K
     refine norm_ (a' := ?_) ?_ ?_
     rotate_left
     ·show Act.put _ (some 8) _ = _
      simp only [Act.put, Z0, Z1, Z2, i64_w, i32_w]
      rfl
     exact norm_ Q31 (hCont (v245, v248, v251) _ ⟨hHeld, (Yj HO246.out (fun _ hk => hk.2)), (Yj HO249.out (fun _ hk => hk.2)), (Yr HO252.out), (Yk BK242.out), (Yk BK243.out), Q0⟩)
   ·skip
    refine Kd.R_lit_step Kd.bool _ 4 ?hg (N := 9) ?hd (xs := ([] : List Bool)) (inner := []) (ok := fun _ => True) (okp := fun _ => True) ?hr ?hp (fun _ hk => hk) trivial (Below.refl _ _) (Nat.le_refl _) (by simp) ?_; (case hd => rfl); (case hg => rfl); (case hr => first | (go_simp; done) | (go_simp; rfl)); (case hp => exact (Reps.none _ _))
    intro v251 w9 ho10 hb hg_ hnew_
    clear hg_ hnew_
    (first | rw [← Ny250.out] at ho10 | (simp only [Int.reduceToNat] at ho10; rw [← Ny250.out] at ho10))
    have HO252 := Yl ho10
    replace BK242 := Yb BK242 hb
    replace BK243 := Yb BK243 hb
    replace HB := Yh hb
    clear hb ho10
    refine hK.out _ _ (Yz4 BK242.out) (fun hHeld => ?_)
    clear hK K
    refine norm_ (a' := ?_) ?_ ?_
    rotate_left
    ·show Act.put _ (some 9) _ = _
     simp only [Act.put, Z0, Z1, Z2, i64_w, i32_w]
     rfl
    refine one_ (i := 2) (N := some 5) (YA 15 3551) rfl rfl (one_of HT_.out (by kernel_rfl)) (by decide) (fun K hK => ?_)
    refine goes_ Try.func71 (by kernel_rfl) rfl #[.slice A0_0 l0_0.length c0_0] (by rfl) rfl rfl Q10 ?_
    with_reducible refine (spec_l1Own.calls _ _ l0_0 t244 _ ?side1 ?side2 A2.out).mono ?_
    (case side1 => exact Yc (Z21 HR0_0.out HB.out))
    (case side2 => exact HC0_0.out)
    rintro e w11 ⟨v245, rfl, ho0, hb⟩
    refine ⟨_, rfl, ?_⟩
    replace HO252 := Yw HO252 hb
    have HO246 := Yl ho0
    replace BK242 := Yb BK242 hb
    replace BK243 := Yb BK243 hb
    replace HB := Yh hb
    (try clear hb ho0)
    refine hK.out _ _ (Yz4 BK242.out) (fun hHeld => ?_)
    clear hK K
    refine norm_ (a' := ?_) ?_ ?_
    rotate_left
    ·show Act.put _ (some 5) _ = _
     simp only [Act.put, Z0, Z1, Z2, i64_w, i32_w]
     rfl
    refine one_ (i := 5) (N := some 8) (YA 15 3583) rfl rfl (one_of HT_.out (by kernel_rfl)) (by decide) (fun K hK => ?_)
    refine goes_ Try.func71 (by kernel_rfl) rfl #[.slice A0_1 l0_1.length c0_1] (by rfl) rfl rfl Q10 ?_
    with_reducible refine (spec_l1Own.calls _ _ l0_1 t247 _ ?side1 ?side2 A3.out).mono ?_
    (case side1 => exact Yc (Z21 HR0_1.out HB.out))
    (case side2 => exact HC0_1.out)
    rintro e w12 ⟨v248, rfl, ho0, hb⟩
    refine ⟨_, rfl, ?_⟩
    replace HO252 := Yw HO252 hb
    have HO249 := Yl (Kd.R_new' ho0 (Z16 (Yr HO246.out)))
    replace HO246 := Ya (Kd.R_elder' (Yr HO246.out) (Kd.R_base ho0) hb)
    replace BK242 := Yb BK242 hb
    replace BK243 := Yb BK243 hb
    replace HB := Yh hb
    (try clear hb ho0)
    refine hK.out _ _ (Yz4 BK242.out) (fun hHeld => ?_)
    clear hK K
    refine norm_ (a' := ?_) ?_ ?_
    rotate_left
    ·show Act.put _ (some 8) _ = _
     simp only [Act.put, Z0, Z1, Z2, i64_w, i32_w]
     rfl
    exact norm_ Q31 (hCont (v245, v248, v251) _ ⟨hHeld, (Yj HO246.out (fun _ hk => hk.2)), (Yj HO249.out (fun _ hk => hk.2)), (Yr HO252.out), (Yk BK242.out), (Yk BK243.out), Q0⟩)
  rintro ⟨v245, v248, v251⟩ w13 ⟨hS_, h0_, h1_, h2_, h3_, h4_, h5_⟩
  have HO246 : Aside0 (Kd.R (Kd.int .i64) 3 w13 w.heap.size (fun k_ => some k_ ≠ (v248 : Value).ownBlock) v245 t244) := ⟨h0_⟩
  have HO249 : Aside0 (Kd.R (Kd.int .i64) 3 w13 w.heap.size (fun k_ => some k_ ≠ (v245 : Value).ownBlock) v248 t247) := ⟨h1_⟩
  have HO252 : Aside0 (Kd.R Kd.bool 4 w13 w.heap.size (fun _ => True) v251 y250) := ⟨h2_⟩
  replace BK242 : Aside0 (w13.heap[gb242]? = some (.cells #[.slice A0_0 l0_0.length c0_0, .slice A0_1 l0_1.length c0_1, .slice A0_2 l0_2.length c0_2, .slice A0_3 l0_3.length c0_3] 33 (0, 0))) := ⟨h3_⟩
  replace BK243 : Aside0 (w13.heap[gb243]? = some (.cells YN4 33 (0, 0))) := ⟨h4_⟩
  replace HB : Aside0 (Below w.heap.size w w13) := ⟨h5_⟩
  clear h0_ h1_ h2_ h3_ h4_ h5_
  have hHeld : w13.cell? ⟨gb242, 0, none⟩ = some (.slice A0_0 l0_0.length c0_0) ∧ w13.cell? ⟨gb242, 1, none⟩ = some (.slice A0_1 l0_1.length c0_1) ∧ w13.cell? ⟨gb242, 2, none⟩ = some (.slice A0_2 l0_2.length c0_2) ∧ w13.cell? ⟨gb242, 3, none⟩ = some (.slice A0_3 l0_3.length c0_3) := hS_
  refine norm_ (a' := ?_) ?_ ?_
  rotate_left
  ·simp only [putAll, Act.put, Z0, Z1, Z2]
   rfl
  refine one_ (i := 9) (N := some 12) (YA 15 4095) rfl rfl (one_of HT_.out (by kernel_rfl)) (by decide) (fun K hK => ?_)
  refine Kd.R_append_rows_step Kd.bool (w0 := w) w.heap.size (by rfl) (.tmp 9) (.tmp 11) 31 4 (.bool false) 1 rfl Try.underlying31 info4 rfl (by decide) (by omega) v251 y250 l0_2 _ _ _ (fun _ => True) (fun _ => False) rfl rfl ?aO ?aR (fun _ _ h => h) (fun _ h => h.elim) ?aF ?aB ?aS ?aL ?_
  (case aR => repeat (first | exact (Z21 HR0_2.out HB.out) | (with_reducible refine Z18 ?_ _) | (with_reducible refine Z19 ?_ _) | (with_reducible refine Z20 ?_)))
  (case aB => exact Q0)
  (case aF => exact (fun _ _ => trivial))
  (case aO => exact (Yr HO252.out))
  (case aS => exact (Z7 Q0))
  (case aL => have := LMc4.out; omega)
  intro v254 w14 ho hb hg hat
  rw [← Ny253.out] at ho
  replace BK242 := Ya (blk_grown (g := gb242) (o := .cells #[.slice A0_0 l0_0.length c0_0, .slice A0_1 l0_1.length c0_1, .slice A0_2 l0_2.length c0_2, .slice A0_3 l0_3.length c0_3] 33 (0, 0)) (Yk BK242.out) hg (Kd.R_ne HO252.out BK242.out (by decide)))
  replace BK243 := Ya (blk_grown (g := gb243) (o := .cells YN4 33 (0, 0)) (Yk BK243.out) hg (Kd.R_ne HO252.out BK243.out (by decide)))
  replace HO246 := Ya (Kd.R_over' (Yr HO246.out) (Kd.R_typed (Yr HO252.out)) (by decide) hg)
  replace HO249 := Ya (Kd.R_over' (Yr HO249.out) (Kd.R_typed (Yr HO252.out)) (by decide) hg)
  replace HB := Ya hb
  have HO255 := Ya ho
  clear HO252
  clear ho hb hg hat
  refine hK.out _ _ (Yz4 BK242.out) (fun hHeld => ?_)
  clear hK K
  refine norm_ (a' := ?_) ?_ ?_
  rotate_left
  ·show Act.put _ (some 12) _ = _
   simp only [Act.put, Z0, Z1, Z2, i64_w, i32_w]
   rfl
  refine one_ (i := 12) (N := some 15) (YA 15 8191) rfl rfl (one_of HT_.out (by kernel_rfl)) (by decide) (fun K hK => ?_)
  refine goes_ Try.func71 (by kernel_rfl) rfl #[.slice A0_3 l0_3.length c0_3] (by rfl) rfl rfl Q10 ?_
  with_reducible refine (spec_l1Own.calls _ _ l0_3 t256 _ ?side1 ?side2 A5.out).mono ?_
  (case side1 => exact Yc (Z21 HR0_3.out HB.out))
  (case side2 => exact HC0_3.out)
  rintro e w15 ⟨v257, rfl, ho0, hb⟩
  refine ⟨_, rfl, ?_⟩
  replace HO255 := Yw HO255 hb
  have HO258 := Yl (Kd.R_new' (Kd.R_new' ho0 (Z16 (Yr HO246.out))) (Z16 (Yr HO249.out)))
  replace HO246 := Ya (Kd.R_elder' (Yr HO246.out) (Kd.R_base ho0) hb)
  replace HO249 := Ya (Kd.R_elder' (Yr HO249.out) (Kd.R_base ho0) hb)
  replace BK242 := Yb BK242 hb
  replace BK243 := Yb BK243 hb
  replace HB := Yh hb
  (try clear hb ho0)
  obtain ⟨Ao16, co16, eo16⟩ := Z17 HO258.out
  (first | subst eo16 | (injection eo16 with f1_ f2_ f3_; have f4_ := f1_.symm; have f5_ := f3_.symm; clear f1_ f2_ f3_; subst f4_; subst f5_))
  obtain ⟨Ao17, co17, eo17⟩ := Z17 HO255.out
  (first | subst eo17 | (injection eo17 with f1_ f2_ f3_; have f4_ := f1_.symm; have f5_ := f3_.symm; clear f1_ f2_ f3_; subst f4_; subst f5_))
  obtain ⟨Ao18, co18, eo18⟩ := Z17 HO249.out
  (first | subst eo18 | (injection eo18 with f1_ f2_ f3_; have f4_ := f1_.symm; have f5_ := f3_.symm; clear f1_ f2_ f3_; subst f4_; subst f5_))
  obtain ⟨Ao19, co19, eo19⟩ := Z17 HO246.out
  (first | subst eo19 | (injection eo19 with f1_ f2_ f3_; have f4_ := f1_.symm; have f5_ := f3_.symm; clear f1_ f2_ f3_; subst f4_; subst f5_))
  refine hK.out _ _ (Yz4 BK242.out) (fun hHeld => ?_)
  clear hK K
  refine norm_ (a' := ?_) ?_ ?_
  rotate_left
  ·show Act.put _ (some 15) _ = _
   simp only [Act.put, Z0, Z1, Z2, i64_w, i32_w]
   rfl
  refine Yp 13 (some 16) (YA 15 16383) rfl HT_.out ?_
  refine one_ (i := 14) (N := none) (YA 15 32767) rfl rfl (one_of HT_.out (by kernel_rfl)) (by decide) (fun K hK => ?_)
  have hs20 : w15.cell? ⟨gb243, 0, none⟩ = some (.slice none 0 0) := (Z22 BK243.out 0).trans rfl
  have hfs20 := Z23 BK243.out 0
  have hns20_0 := NB242_243.out
  have hms20_0 := NB243_242.out
  have hs21 : w15.cell? ⟨gb243, 1, none⟩ = some (.slice none 0 0) := (Z22 BK243.out 1).trans rfl
  have hfs21 := Z23 BK243.out 1
  have hns21_0 := NB242_243.out
  have hms21_0 := NB243_242.out
  have hs22 : w15.cell? ⟨gb243, 2, none⟩ = some (.slice none 0 0) := (Z22 BK243.out 2).trans rfl
  have hfs22 := Z23 BK243.out 2
  have hns22_0 := NB242_243.out
  have hms22_0 := NB243_242.out
  have hs23 : w15.cell? ⟨gb243, 3, none⟩ = some (.slice none 0 0) := (Z22 BK243.out 3).trans rfl
  have hfs23 := Z23 BK243.out 3
  have hns23_0 := NB242_243.out
  have hms23_0 := NB243_242.out
  refine skip_ (w1 := ?_) (by rfl) rfl ?_ ?_
  rotate_left
  ·go_simp
   rfl
  refine hK.out _ _ ⟨((cell_far (p := ⟨gb243, _, none⟩) NB242_243.out _).trans (((cell_far (p := ⟨gb243, _, none⟩) NB242_243.out _).trans (((cell_far (p := ⟨gb243, _, none⟩) NB242_243.out _).trans (((cell_far (p := ⟨gb243, _, none⟩) NB242_243.out _).trans (hHeld.1)))))))), ((cell_far (p := ⟨gb243, _, none⟩) NB242_243.out _).trans (((cell_far (p := ⟨gb243, _, none⟩) NB242_243.out _).trans (((cell_far (p := ⟨gb243, _, none⟩) NB242_243.out _).trans (((cell_far (p := ⟨gb243, _, none⟩) NB242_243.out _).trans (hHeld.2.1)))))))), ((cell_far (p := ⟨gb243, _, none⟩) NB242_243.out _).trans (((cell_far (p := ⟨gb243, _, none⟩) NB242_243.out _).trans (((cell_far (p := ⟨gb243, _, none⟩) NB242_243.out _).trans (((cell_far (p := ⟨gb243, _, none⟩) NB242_243.out _).trans (hHeld.2.2.1)))))))), ((cell_far (p := ⟨gb243, _, none⟩) NB242_243.out _).trans (((cell_far (p := ⟨gb243, _, none⟩) NB242_243.out _).trans (((cell_far (p := ⟨gb243, _, none⟩) NB242_243.out _).trans (((cell_far (p := ⟨gb243, _, none⟩) NB242_243.out _).trans (hHeld.2.2.2))))))))⟩ (fun hHeld => ?_)
  clear hK K
  refine done_ (done_of HT_.out (by kernel_rfl)) ?_
  try go_wp2
  refine bodyPost_ret (results_cell_row rfl _ _ gb243 33 #[.slice Ao19 t244.length co19, .slice Ao18 t247.length co18, .slice Ao17 y253.length co17, .slice Ao16 t256.length co16] (0, 0) _ rfl (Yk (Yv4 BK243.out)) Try.underlying33 rfl (by kernel_rfl)) rfl ?_
  exact ⟨_, _, _, _, Q1, Yj (Yf4 HO246.out BK243.out) (fun _ hk => ⟨hk.1.1, hk.1.2⟩), Yj (Yf4 HO249.out BK243.out) (fun _ hk => ⟨hk.1.1, hk.1.2⟩), Yj (Yf4 HO255.out BK243.out) (fun _ hk => trivial), Yj (Yf4 HO258.out BK243.out) (fun _ hk => ⟨hk.1.1.2, hk.1.2⟩), Q12⟩
 ·rw [if_neg c4] at H
  exact absurd H (by simp)
end Go.Proofs.Ytapbbmicfkbafaa.MFnFocusRuns
