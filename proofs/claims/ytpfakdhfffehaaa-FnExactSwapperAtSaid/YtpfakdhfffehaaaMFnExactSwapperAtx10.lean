/- Functions of the program as Lean functions, each with the proof that its call comes to just that: laid for this claim by this session's own program. -/
import Derived.Test.YtpfakdhfffehaaaMFnExactSwapperAtx0
namespace Go.Proofs.Ytpfakdhfffehaaa.MFnExactSwapperAt
open Go.RowKit Go.Proofs.YtpfakdhfffehaaaW.PrintWords Go.Proofs.YtpfakdhfffehaaaW.PrintLast Go.Proofs.YtpfakdhfffehaaaW.PrintMore
attribute [local go_sem] max2_int min2_int max_two min_two max_three min_three max_four min_four   -- for this text's walks alone
set_option linter.unusedVariables false
set_option linter.unusedSimpArgs false

/-! ### impl_Focus_step: function 36 -/
open Go.Proofs.Ytpfakdhfffehaaa.FoW in
set_option maxHeartbeats 8000000 in
set_option maxRecDepth 100000 in
theorem impl_Focus_step.callsG (CS : Array Value) (T : TypeId) (hT : T ≠ 3 ∧ T ≠ 4) (w0 : World) (g g0 c0 g1 c1 g2 c2 g3 c3 : Nat) (b d : List Int) (u : List Bool) (p d' : List Int) (u' : List Bool) (p' : List Int) (r : Int) (w : World)
  (hs0 : CS[0]? = some (.slice (some ⟨g0, 0, none⟩) b.length c0)) (hs1 : CS[1]? = some (.slice (some ⟨g1, 0, none⟩) d.length c1)) (hs2 : CS[2]? = some (.slice (some ⟨g2, 0, none⟩) u.length c2)) (hs3 : CS[3]? = some (.slice (some ⟨g3, 0, none⟩) p.length c3))
  (hb : w.heap[g]? = some (.cells CS T (0, 0))) (hF : FoR w w0.heap.size g0 c0 g1 c1 g2 c2 g3 c3 b d u p) (hW : Below w0.heap.size w0 w) (h : stepF b d u p = some (d', u', p', r)) :
  Calls Try.prog 36 #[.pointer (some ⟨g, 0, none⟩)] w fun e w' => e = .returned (.int .i64 r) ∧ w'.heap[g]? = w.heap[g]? ∧ FoR w' w0.heap.size g0 c0 g1 c1 g2 c2 g3 c3 b d' u' p' ∧ Kept w w' (Wr g1 g2 g3) ∧ Below w0.heap.size w0 w' := by
 have hne := FoR.apart hF hb hT.1 hT.2
 have BK := Ya hb
 have HS0 := Ya hs0
 have HS1 := Ya hs1
 have HS2 := Ya hs2
 have HS3 := Ya hs3
 clear hs0 hs1 hs2 hs3
 have HB0 := Ya hb
 have HF := Ya hF
 have HK := Ya (Kept.refl w (Wr g1 g2 g3))
 have HW := Ya hW
 unfold stepF at h
 simp only at h
 by_cases hc : 0 ≤ rd p 0 ∧ rd p 0 < b.length ∧ b.length ≤ 1000 ∧ d.length = b.length ∧ u.length = b.length ∧ p.length = b.length + 1 ∧ -1000 ≤ rd d ((b.length : Int) - 1 - rd p 0) ∧ rd d ((b.length : Int) - 1 - rd p 0) ≤ 1000 ∧ -1000 ≤ rd b ((b.length : Int) - 1 - rd p 0) ∧ rd b ((b.length : Int) - 1 - rd p 0) ≤ 1000
 rotate_left
 ·rw [if_neg hc] at h; cases h
 rw [if_pos hc] at h
 obtain ⟨J, hJ⟩ : ∃ J, rd p 0 = J := ⟨_, rfl⟩
 rw [hJ] at h hc
 obtain ⟨I, hI⟩ : ∃ I, (b.length : Int) - 1 - J = I := ⟨_, rfl⟩
 rw [hI] at h hc
 obtain ⟨j0, j1, m0, l1, l2, l3, x0, x1, y0, y1⟩ := hc
 have HL := Ya (show (0 ≤ I ∧ I < b.length) ∧ I < d.length ∧ I < u.length ∧ J + 1 < p.length ∧ J < p.length ∧ 0 < p.length ∧ 0 ≤ J from ⟨⟨by omega, by omega⟩, by omega, by omega, by omega, by omega, by omega, by omega⟩)
 have HX := Ya (show (-1000 ≤ rd d I ∧ rd d I ≤ 1000) ∧ -1000 ≤ rd b I ∧ rd b I ≤ 1000 from ⟨⟨x0, x1⟩, y0, y1⟩)
 have k1 : wrap64 ((b.length : Int) - 1) = (b.length : Int) - 1 := by unfold wrap64; omega
 have k2 : wrap64 (J + 1) = J + 1 := by unfold wrap64; omega
 have k1' : IntKind.i64.wrap ((b.length : Int) - 1) = (b.length : Int) - 1 := (i64_w _).trans k1
 have k2' : IntKind.i64.wrap (J + 1) = J + 1 := (i64_w _).trans k2
 have k3 : wrap64 ((b.length : Int) - 1 - J) = I := by rw [← hI]; unfold wrap64; omega
 have k3' : IntKind.i64.wrap ((b.length : Int) - 1 - J) = I := (i64_w _).trans k3
 have b1 : (J == (b.length : Int)) = false := beq_eq_false_iff_ne.mpr (by omega)
 have b2 : (0 ≤ I) = True := eq_true (by omega)
 have b3 : (I < (u.length : Int)) = True := eq_true (by omega)
 have b4 : (I < (d.length : Int)) = True := eq_true (by omega)
 have b5 : (I < (b.length : Int)) = True := eq_true (by omega)
 have b6 : (0 ≤ J) = True := eq_true (by omega)
 have b7 : (J < (p.length : Int)) = True := eq_true (by omega)
 have b8 : (J + 1 < (p.length : Int)) = True := eq_true (by omega)
 have b9 : (0 ≤ J + 1) = True := eq_true (by omega)
 have b10 : (0 < p.length) = True := eq_true (by omega)
 have b11 : ((0 : Int) < (p.length : Int)) = True := eq_true (by omega)
 have HJ := Ya hJ
 obtain ⟨X, hX⟩ : ∃ X, (if rdOf false u I = true then rd d I + 1 else rd d I - 1) = X := ⟨_, rfl⟩
 rw [hX] at h
 have HH := Ya h
 have HXX := Ya hX
 clear hF hb hW h hJ hI hX j0 j1 m0 l1 l2 l3 x0 x1 y0 y1
 go_enter Try.func36, Try.ntmps36
 go_wp2_with fail
 replace BK := Ya (Z27 BK.out)
 replace HF := Ya (FoR.drew HF.out)
 replace HK := Ya (Kept.drew HK.out)
 replace HW := Ya (Z4 HW.out)
 refine start_ (n := 13) (S := fun w' => w'.cell? ⟨g, 0, none⟩ = some (.slice (some ⟨g0, 0, none⟩) b.length c0) ∧ w'.cell? ⟨g, 3, none⟩ = some (.slice (some ⟨g3, 0, none⟩) p.length c3) ∧ w'.cell? ⟨g3, 0, none⟩ = some (.int .i64 J)) (ds := []) (YA 13 0) (by kernel_rfl) rfl rfl ⟨(Z24 BK.out 0).trans HS0.out, (Z24 BK.out 3).trans HS3.out, (by rw [← HJ.out]; exact (FoR.at3 HF.out 0 (by decide) Q20).1)⟩ (fun hHeld => ?_)
 generalize World.drew _ = w1 at BK HF HK HW hHeld ⊢
 refine Yq 0 (some 6) (YA 13 1) rfl ?_
 refine Yq 1 (some 7) (YA 13 3) rfl ?_
 refine Yq 2 (some 8) (YA 13 7) rfl ?_
 refine Yq 5 (some 11) (YA 13 39) rfl ?_
 refine Yq 6 (some 12) (YA 13 103) rfl ?_
 refine Yq 7 (some 13) (YA 13 231) rfl ?_
 refine Ys 3 (some 9) (YA 13 239) rfl hHeld Q22 ?_
 refine Yq 4 (some 10) (YA 13 255) rfl ?_
 refine Yq 11 (some 3) (YA 13 2303) rfl ?_
 refine Ys 8 (some 14) (YA 13 2559) rfl hHeld Q22 ?_
 refine Yq 9 (some 15) (YA 13 3071) rfl ?_
 refine Ys 10 (some 16) (YA 13 4095) rfl hHeld Q22 ?_
 refine Yq 12 (some 4) (YA 13 8191) rfl ?_
 refine done_ (by kernel_rfl) ?_
 have hc0 := (Z24 BK.out 0).trans HS0.out
 have hc1 := (Z24 BK.out 1).trans HS1.out
 have hc2 := (Z24 BK.out 2).trans HS2.out
 have hc3 := (Z24 BK.out 3).trans HS3.out
 have hx := (FoR.at3 HF.out 0 (by decide) Q20).1
 have hz : World.frozen? _ ⟨g3, 0, none⟩ = false := (FoR.at3 HF.out 0 (by decide) Q20).2
 rw [show (0 : Int).toNat = 0 from rfl] at hx
 go_upto_region 6 with fail
 clear hx hz hc0 hc1 hc2 hc3
 replace BK := Ya (show (World.setCell w1 ⟨g3, 0, none⟩ (.int .i64 0)).heap[g]? = _ from blk_far (p := ⟨g3, 0, none⟩) BK.out hne.2.2.2 (.int .i64 0))
 replace HK := Ya (Kept.setCell HK.out (p := ⟨g3, 0, none⟩) (.inl (.inr (.inr rfl))) (.int .i64 0))
 replace HW := Ya (show Below w0.heap.size w0 (World.setCell w1 ⟨g3, 0, none⟩ (.int .i64 0)) from Z6 HW.out (FoR.ge HF.out).2.2.2)
 replace HF := Ya (show FoR (World.setCell w1 ⟨g3, 0, none⟩ (.int .i64 0)) w0.heap.size g0 c0 g1 c1 g2 c2 g3 c3 b d u (p.set 0 0) from FoR.put3 HF.out 0 0)
 generalize World.setCell w1 ⟨g3, 0, none⟩ (.int .i64 0) = w2 at BK HF HK HW ⊢
 have hc0 := (Z24 BK.out 0).trans HS0.out
 have hc1 := (Z24 BK.out 1).trans HS1.out
 have hc2 := (Z24 BK.out 2).trans HS2.out
 have hc3 := (Z24 BK.out 3).trans HS3.out
 have hx2 := (FoR.at2 HF.out I Q20 Q20).1
 go_upto_if 35 with fail
 go_cut [] (fun wc => Aside0 (wc.heap[g]? = some (.cells CS T (0, 0))) ∧ Aside0 (FoR wc w0.heap.size g0 c0 g1 c1 g2 c2 g3 c3 b (d.set I.toNat X) u (p.set 0 0)) ∧ Aside0 (Kept w wc (Wr g1 g2 g3)) ∧ Aside0 (Below w0.heap.size w0 wc))
 case first =>
  have hx1 := (FoR.at1 HF.out I Q20 Q20).1
  have hz1 := (FoR.at1 HF.out I Q20 Q20).2
  have n0_ := Ya (blk_far (p := ⟨g1, I.toNat, none⟩) BK.out hne.2.1 (.int .i64 X))
  have n1_ := Ya (FoR.put1 HF.out I X)
  have n2_ := Ya (Kept.setCell HK.out (p := ⟨g1, I.toNat, none⟩) (.inl (.inl rfl)) (.int .i64 X))
  have n3_ := Ya (Z6 (j := I.toNat) (v := .int .i64 X) HW.out (FoR.ge HF.out).2.1)
  cases hU : rdOf false u I
  ·have hv : rd d I - 1 = X := by have := HXX.out; rw [hU] at this; simpa using this
   have hw : wrap64 (rd d I - 1) = X := by rw [← hv]; have := HX.out; unfold wrap64; omega
   have hw' : IntKind.i64.wrap (rd d I - 1) = X := (i64_w _).trans hw
   clear hv
   rw [hU] at hx2
   go_wp2
   go_meet
   case rel => exact ⟨n0_, n1_, n2_, n3_⟩
  ·have hv : rd d I + 1 = X := by have := HXX.out; rw [hU] at this; simpa using this
   have hw : wrap64 (rd d I + 1) = X := by rw [← hv]; have := HX.out; unfold wrap64; omega
   have hw' : IntKind.i64.wrap (rd d I + 1) = X := (i64_w _).trans hw
   clear hv
   rw [hU] at hx2
   go_wp2
   go_meet
   case rel => exact ⟨n0_, n1_, n2_, n3_⟩
 case rest =>
  clear hx2 hc0 hc1 hc2 hc3 BK HF HK HW
  obtain ⟨BK, HF, HK, HW⟩ := hcut
  have HRD := Ya (show rd (d.set I.toNat X) I = X from by
   have := HL.out
   unfold rd
   rw [List.getD_eq_getElem?_getD, List.getElem?_set_self (by omega)]; rfl)
  go_upto_region 9 with fail
  go_cut [79] (fun v79 wc => ∃ t : Bool, v79 = .bool t ∧ Aside0 (t = decide (X = 0 ∨ X = rd b I - 1)) ∧ Aside0 (wc.heap[g]? = some (.cells CS T (0, 0))) ∧ Aside0 (FoR wc w0.heap.size g0 c0 g1 c1 g2 c2 g3 c3 b (d.set I.toNat X) u (p.set 0 0)) ∧ Aside0 (Kept w wc (Wr g1 g2 g3)) ∧ Aside0 (Below w0.heap.size w0 wc))
  case first =>
   have hw : wrap64 (rd b I - 1) = rd b I - 1 := by have := HX.out; unfold wrap64; omega
   have hw' : IntKind.i64.wrap (rd b I - 1) = rd b I - 1 := (i64_w _).trans hw
   by_cases z : X = 0
   ·have zb : (X == 0) = true := beq_iff_eq.mpr z
    have HT := Ya (Z39 (p := X = 0 ∨ X = rd b I - 1) (Or.inl z))
    clear z
    go_wp2_with fail
    replace BK := Ya (Z27 BK.out)
    replace HF := Ya (FoR.drew HF.out)
    replace HK := Ya (Kept.drew HK.out)
    replace HW := Ya (Z4 HW.out)
    refine start_ (n := 26) (S := fun w' => w'.cell? ⟨g, 0, none⟩ = some (.slice (some ⟨g0, 0, none⟩) b.length c0) ∧ w'.cell? ⟨g, 1, none⟩ = some (.slice (some ⟨g1, 0, none⟩) d.length c1) ∧ w'.cell? ⟨g1, I.toNat, none⟩ = some (.int .i64 X) ∧ w'.cell? ⟨g0, I.toNat, none⟩ = some (.int .i64 (rd b I))) (ds := []) (YA 26 0) (by kernel_rfl) rfl rfl ⟨(Z24 BK.out 0).trans HS0.out, (Z24 BK.out 1).trans HS1.out, ((FoR.at1 HF.out I Q20 Q52).1.trans (by rw [HRD.out])), (FoR.at0 HF.out I Q20 Q20).1⟩ (fun hHeld => ?_)
    generalize World.drew _ = w3 at BK HF HK HW hHeld ⊢
    refine Yq 0 (some 54) (YA 26 1) rfl ?_
    refine Yq 1 (some 55) (YA 26 3) rfl ?_
    refine Yq 2 (some 56) (YA 26 7) rfl ?_
    refine Yq 4 (some 58) (YA 26 23) rfl ?_
    refine Ys 3 (some 57) (YA 26 31) rfl hHeld Q10 ?_
    refine Yq 5 (some 59) (YA 26 63) rfl ?_
    refine Ys 6 (some 60) (YA 26 127) rfl hHeld Q10 ?_
    refine Yq 7 (some 61) (YA 26 255) rfl ?_
    refine Yq 8 (some 62) (YA 26 511) rfl ?_
    refine Yu 9 (some 63) (YA 26 1023) rfl ?_
    refine Yu 10 (some 64) (YA 26 2047) rfl ?_
    refine Yu 11 (some 65) (YA 26 4095) rfl ?_
    refine Yu 12 (some 66) (YA 26 8191) rfl ?_
    refine Yu 13 (some 67) (YA 26 16383) rfl ?_
    refine Yu 14 (some 68) (YA 26 32767) rfl ?_
    refine Yu 15 (some 69) (YA 26 65535) rfl ?_
    refine Yu 16 (some 70) (YA 26 131071) rfl ?_
    refine Yu 17 (some 71) (YA 26 262143) rfl ?_
    refine Yu 18 (some 72) (YA 26 524287) rfl ?_
    refine Yu 19 (some 73) (YA 26 1048575) rfl ?_
    refine Yu 20 (some 74) (YA 26 2097151) rfl ?_
    refine Yu 21 (some 75) (YA 26 4194303) rfl ?_
    refine Yu 22 (some 76) (YA 26 8388607) rfl ?_
    refine Yu 23 (some 77) (YA 26 16777215) rfl ?_
    refine Yu 24 (some 78) (YA 26 33554431) rfl ?_
    refine Yq 25 (some 79) (YA 26 67108863) rfl ?_
    refine done_ (by kernel_rfl) ?_
    go_step
    go_step
    go_meet
    case rel => exact ⟨true, rfl, ⟨HT.out.symm⟩, BK, HF, HK, HW⟩
   ·have zb : (X == 0) = false := beq_eq_false_iff_ne.mpr z
    have HT := Ya (show (X == rd b I - 1) = decide (X = 0 ∨ X = rd b I - 1) from by rw [Bool.eq_iff_iff]; simp [z])
    clear z
    go_wp2_with fail
    replace BK := Ya (Z27 BK.out)
    replace HF := Ya (FoR.drew HF.out)
    replace HK := Ya (Kept.drew HK.out)
    replace HW := Ya (Z4 HW.out)
    refine start_ (n := 26) (S := fun w' => w'.cell? ⟨g, 0, none⟩ = some (.slice (some ⟨g0, 0, none⟩) b.length c0) ∧ w'.cell? ⟨g, 1, none⟩ = some (.slice (some ⟨g1, 0, none⟩) d.length c1) ∧ w'.cell? ⟨g1, I.toNat, none⟩ = some (.int .i64 X) ∧ w'.cell? ⟨g0, I.toNat, none⟩ = some (.int .i64 (rd b I))) (ds := []) (YA 26 0) (by kernel_rfl) rfl rfl ⟨(Z24 BK.out 0).trans HS0.out, (Z24 BK.out 1).trans HS1.out, ((FoR.at1 HF.out I Q20 Q52).1.trans (by rw [HRD.out])), (FoR.at0 HF.out I Q20 Q20).1⟩ (fun hHeld => ?_)
    generalize World.drew _ = w3 at BK HF HK HW hHeld ⊢
    refine Yq 0 (some 54) (YA 26 1) rfl ?_
    refine Yq 1 (some 55) (YA 26 3) rfl ?_
    refine Yq 2 (some 56) (YA 26 7) rfl ?_
    refine Yq 4 (some 58) (YA 26 23) rfl ?_
    refine Ys 3 (some 57) (YA 26 31) rfl hHeld Q10 ?_
    refine Yq 5 (some 59) (YA 26 63) rfl ?_
    refine Ys 6 (some 60) (YA 26 127) rfl hHeld Q10 ?_
    refine Yq 7 (some 61) (YA 26 255) rfl ?_
    refine Yq 8 (some 62) (YA 26 511) rfl ?_
    refine Yq 9 (some 63) (YA 26 1023) rfl ?_
    refine Yq 10 (some 64) (YA 26 2047) rfl ?_
    refine Yq 11 (some 65) (YA 26 4095) rfl ?_
    refine Yq 13 (some 67) (YA 26 12287) rfl ?_
    refine Yq 16 (some 70) (YA 26 77823) rfl ?_
    refine Yq 17 (some 71) (YA 26 208895) rfl ?_
    refine Yq 18 (some 72) (YA 26 471039) rfl ?_
    refine Yq 20 (some 74) (YA 26 1519615) rfl ?_
    refine Ys 12 (some 66) (YA 26 1523711) rfl hHeld Q10 ?_
    refine Yq 14 (some 68) (YA 26 1540095) rfl ?_
    refine Ys 15 (some 69) (YA 26 1572863) rfl hHeld Q10 ?_
    refine Ys 19 (some 73) (YA 26 2097151) rfl hHeld Q10 ?_
    refine Yq 21 (some 75) (YA 26 4194303) rfl ?_
    refine Ys 22 (some 76) (YA 26 8388607) rfl hHeld Q10 ?_
    refine Yq 23 (some 77) (YA 26 16777215) rfl ?_
    refine Yq 24 (some 78) (YA 26 33554431) rfl ?_
    refine Yq 25 (some 79) (YA 26 67108863) rfl ?_
    refine done_ (by kernel_rfl) ?_
    go_step
    go_step
    go_meet
    case rel => exact ⟨_, rfl, HT, BK, HF, HK, HW⟩
  case rest =>
   clear BK HF HK HW
   obtain ⟨t, rfl, HT, BK, HF, HK, HW⟩ := hcut
   cases t
   ·have h := HH.out
    rw [if_neg (fun e => by have h_ := HT.out; rw [Z39 e] at h_; cases h_)] at h
    simp only [Option.some.injEq, Prod.mk.injEq] at h
    obtain ⟨rfl, rfl, rfl, rfl⟩ := h
    go_wp2
    go_ret
    exact ⟨rfl, BK.out.trans HB0.out.symm, HF.out, HK.out, HW.out⟩
   ·have h := HH.out
    rw [if_pos (Z31 HT.out.symm)] at h
    simp only [Option.some.injEq, Prod.mk.injEq] at h
    obtain ⟨rfl, rfl, rfl, rfl⟩ := h
    go_wp2_with fail
    replace BK := Ya (Z27 BK.out)
    replace HF := Ya (FoR.drew HF.out)
    replace HK := Ya (Kept.drew HK.out)
    replace HW := Ya (Z4 HW.out)
    refine start_ (n := 15) (S := fun w' => w'.cell? ⟨g, 2, none⟩ = some (.slice (some ⟨g2, 0, none⟩) u.length c2) ∧ w'.cell? ⟨g2, I.toNat, none⟩ = some (.bool (rdOf false u I))) (ds := [14]) (YA 15 0) (by kernel_rfl) rfl rfl ⟨(Z24 BK.out 2).trans HS2.out, (FoR.at2 HF.out I Q20 Q20).1⟩ (fun hHeld => ?_)
    generalize World.drew _ = w4 at BK HF HK HW hHeld ⊢
    have hxs := (FoR.at2 HF.out I Q20 Q20).1
    have hzs := (FoR.at2 HF.out I Q20 Q20).2
    refine Yq 0 (some 80) (YA 15 1) rfl ?_
    refine Yq 1 (some 81) (YA 15 3) rfl ?_
    refine Yq 2 (some 82) (YA 15 7) rfl ?_
    refine Yq 4 (some 84) (YA 15 23) rfl ?_
    refine Yq 5 (some 85) (YA 15 55) rfl ?_
    refine Yq 6 (some 86) (YA 15 119) rfl ?_
    refine Yq 7 (some 87) (YA 15 247) rfl ?_
    refine Yq 9 (some 89) (YA 15 759) rfl ?_
    refine Ys 3 (some 83) (YA 15 767) rfl hHeld Q35 ?_
    refine Ys 8 (some 88) (YA 15 1023) rfl hHeld Q35 ?_
    refine Yq 10 (some 90) (YA 15 2047) rfl ?_
    refine Ys 11 (some 91) (YA 15 4095) rfl hHeld Q35 ?_
    refine Yq 12 (some 92) (YA 15 8191) rfl ?_
    refine Yq 13 (some 93) (YA 15 16383) rfl ?_
    refine last_ (i := 14) (N := none) (YA 15 32767) rfl rfl (by kernel_rfl) (by decide) (fun K hK => ?_)
    refine skip_ (w1 := ?_) (by rfl) rfl ?_ ?_
    rotate_left
    ·go_simp
     rfl
    refine hK.out _ _ ?_
    clear hK K
    refine done_ (by kernel_rfl) ?_
    clear hxs hzs
    replace BK := Ya (show (World.setCell w4 ⟨g2, I.toNat, none⟩ (.bool (!rdOf false u I))).heap[g]? = _ from blk_far (p := ⟨g2, I.toNat, none⟩) BK.out hne.2.2.1 (.bool (!rdOf false u I)))
    replace HK := Ya (Kept.setCell HK.out (p := ⟨g2, I.toNat, none⟩) (.inl (.inr (.inl rfl))) (.bool (!rdOf false u I)))
    replace HW := Ya (show Below w0.heap.size w0 (World.setCell w4 ⟨g2, I.toNat, none⟩ (.bool (!rdOf false u I))) from Z6 HW.out (FoR.ge HF.out).2.2.1)
    replace HF := Ya (show FoR (World.setCell w4 ⟨g2, I.toNat, none⟩ (.bool (!rdOf false u I))) w0.heap.size g0 c0 g1 c1 g2 c2 g3 c3 b (d.set I.toNat X) (u.set I.toNat (!rdOf false u I)) (p.set 0 0) from FoR.put2 HF.out I _)
    generalize World.setCell w4 ⟨g2, I.toNat, none⟩ (.bool (!rdOf false u I)) = w5 at BK HF HK HW ⊢
    go_wp2_with fail
    replace BK := Ya (Z27 BK.out)
    replace HF := Ya (FoR.drew HF.out)
    replace HK := Ya (Kept.drew HK.out)
    replace HW := Ya (Z4 HW.out)
    refine start_ (n := 15) (S := fun w' => w'.cell? ⟨g, 3, none⟩ = some (.slice (some ⟨g3, 0, none⟩) p.length c3) ∧ w'.cell? ⟨g3, (J + 1).toNat, none⟩ = some (.int .i64 (rd (p.set 0 0) (J + 1)))) (ds := [14]) (YA 15 0) (by kernel_rfl) rfl rfl ⟨(Z24 BK.out 3).trans HS3.out, (FoR.at3 HF.out (J + 1) Q20 Q52).1⟩ (fun hHeld => ?_)
    generalize World.drew _ = w6 at BK HF HK HW hHeld ⊢
    have hxs := (FoR.at3 HF.out J Q20 Q52).1
    have hzs := (FoR.at3 HF.out J Q20 Q52).2
    refine Yq 0 (some 94) (YA 15 1) rfl ?_
    refine Yq 1 (some 95) (YA 15 3) rfl ?_
    refine Yq 2 (some 96) (YA 15 7) rfl ?_
    refine Yq 4 (some 98) (YA 15 23) rfl ?_
    refine Yq 5 (some 99) (YA 15 55) rfl ?_
    refine Yq 6 (some 100) (YA 15 119) rfl ?_
    refine Yq 7 (some 101) (YA 15 247) rfl ?_
    refine Yq 9 (some 103) (YA 15 759) rfl ?_
    refine Yq 10 (some 104) (YA 15 1783) rfl ?_
    refine Ys 3 (some 97) (YA 15 1791) rfl hHeld Q35 ?_
    refine Ys 8 (some 102) (YA 15 2047) rfl hHeld Q35 ?_
    refine Yq 11 (some 105) (YA 15 4095) rfl ?_
    refine Ys 12 (some 106) (YA 15 8191) rfl hHeld Q35 ?_
    refine Yq 13 (some 107) (YA 15 16383) rfl ?_
    refine last_ (i := 14) (N := none) (YA 15 32767) rfl rfl (by kernel_rfl) (by decide) (fun K hK => ?_)
    refine skip_ (w1 := ?_) (by rfl) rfl ?_ ?_
    rotate_left
    ·go_simp
     rfl
    refine hK.out _ _ ?_
    clear hK K
    refine done_ (by kernel_rfl) ?_
    clear hxs hzs
    replace BK := Ya (show (World.setCell w6 ⟨g3, J.toNat, none⟩ (.int .i64 (rd (p.set 0 0) (J + 1)))).heap[g]? = _ from blk_far (p := ⟨g3, J.toNat, none⟩) BK.out hne.2.2.2 (.int .i64 (rd (p.set 0 0) (J + 1))))
    replace HK := Ya (Kept.setCell HK.out (p := ⟨g3, J.toNat, none⟩) (.inl (.inr (.inr rfl))) (.int .i64 (rd (p.set 0 0) (J + 1))))
    replace HW := Ya (show Below w0.heap.size w0 (World.setCell w6 ⟨g3, J.toNat, none⟩ (.int .i64 (rd (p.set 0 0) (J + 1)))) from Z6 HW.out (FoR.ge HF.out).2.2.2)
    replace HF := Ya (show FoR (World.setCell w6 ⟨g3, J.toNat, none⟩ (.int .i64 (rd (p.set 0 0) (J + 1)))) w0.heap.size g0 c0 g1 c1 g2 c2 g3 c3 b (d.set I.toNat X) (u.set I.toNat (!rdOf false u I)) ((p.set 0 0).set J.toNat (rd (p.set 0 0) (J + 1))) from FoR.put3 HF.out J _)
    generalize World.setCell w6 ⟨g3, J.toNat, none⟩ (.int .i64 (rd (p.set 0 0) (J + 1))) = w7 at BK HF HK HW ⊢
    have hc0 := (Z24 BK.out 0).trans HS0.out
    have hc1 := (Z24 BK.out 1).trans HS1.out
    have hc2 := (Z24 BK.out 2).trans HS2.out
    have hc3 := (Z24 BK.out 3).trans HS3.out
    have hxs := (FoR.at3 HF.out (J + 1) Q20 Q75).1
    have hzs := (FoR.at3 HF.out (J + 1) Q20 Q75).2
    go_upto_region 13 with fail
    clear hc0 hc1 hc2 hc3
    clear hxs hzs
    replace BK := Ya (show (World.setCell w7 ⟨g3, (J + 1).toNat, none⟩ (.int .i64 (J + 1))).heap[g]? = _ from blk_far (p := ⟨g3, (J + 1).toNat, none⟩) BK.out hne.2.2.2 (.int .i64 (J + 1)))
    replace HK := Ya (Kept.setCell HK.out (p := ⟨g3, (J + 1).toNat, none⟩) (.inl (.inr (.inr rfl))) (.int .i64 (J + 1)))
    replace HW := Ya (show Below w0.heap.size w0 (World.setCell w7 ⟨g3, (J + 1).toNat, none⟩ (.int .i64 (J + 1))) from Z6 HW.out (FoR.ge HF.out).2.2.2)
    replace HF := Ya (show FoR (World.setCell w7 ⟨g3, (J + 1).toNat, none⟩ (.int .i64 (J + 1))) w0.heap.size g0 c0 g1 c1 g2 c2 g3 c3 b (d.set I.toNat X) (u.set I.toNat (!rdOf false u I)) (((p.set 0 0).set J.toNat (rd (p.set 0 0) (J + 1))).set (J + 1).toNat (J + 1)) from FoR.put3 HF.out (J + 1) _)
    generalize World.setCell w7 ⟨g3, (J + 1).toNat, none⟩ (.int .i64 (J + 1)) = w8 at BK HF HK HW ⊢
    go_wp2
    go_ret
    exact ⟨rfl, BK.out.trans HB0.out.symm, HF.out, HK.out, HW.out⟩
open Go.Proofs.Ytpfakdhfffehaaa.FoW in
theorem impl_Focus_step.calls (w0 : World) (g g0 c0 g1 c1 g2 c2 g3 c3 : Nat) (b d : List Int) (u : List Bool) (p d' : List Int) (u' : List Bool) (p' : List Int) (r : Int) (w : World)
  (hb : w.heap[g]? = some (.cells #[.slice (some ⟨g0, 0, none⟩) b.length c0, .slice (some ⟨g1, 0, none⟩) d.length c1, .slice (some ⟨g2, 0, none⟩) u.length c2, .slice (some ⟨g3, 0, none⟩) p.length c3] 27 (0, 0))) (hF : FoR w w0.heap.size g0 c0 g1 c1 g2 c2 g3 c3 b d u p) (hW : Below w0.heap.size w0 w) (h : stepF b d u p = some (d', u', p', r)) :
  Calls Try.prog 36 #[.pointer (some ⟨g, 0, none⟩)] w fun e w' => e = .returned (.int .i64 r) ∧ w'.heap[g]? = w.heap[g]? ∧ FoR w' w0.heap.size g0 c0 g1 c1 g2 c2 g3 c3 b d' u' p' ∧ Kept w w' (Wr g1 g2 g3) ∧ Below w0.heap.size w0 w' :=
 impl_Focus_step.callsG _ _ (by decide) w0 g g0 c0 g1 c1 g2 c2 g3 c3 b d u p d' u' p' r w rfl rfl rfl rfl hb hF hW h

end Go.Proofs.Ytpfakdhfffehaaa.MFnExactSwapperAt
