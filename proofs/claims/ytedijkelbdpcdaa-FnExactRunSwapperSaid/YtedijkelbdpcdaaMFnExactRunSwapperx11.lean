import Derived.Test.YtedijkelbdpcdaaMFnExactRunSwapperx0
namespace Go.Proofs.Ytedijkelbdpcdaa.MFnExactRunSwapper
open Go.RowKit Go.Proofs.YtedijkelbdpcdaaW.PrintWords Go.Proofs.YtedijkelbdpcdaaW.PrintLast Go.Proofs.YtedijkelbdpcdaaW.PrintMore
attribute [local go_sem] max2_int min2_int max_two min_two max_three min_three max_four min_four   
set_option linter.unusedVariables false
set_option linter.unusedSimpArgs false
open Go.Proofs.Ytedijkelbdpcdaa.FoW in
set_option maxHeartbeats 8000000 in
set_option maxRecDepth 100000 in
theorem impl_Focus_step.callsG (CS : Array Value) (T : TypeId) (hT : T ≠ 3 ∧ T ≠ 4) (w0 : World) (g g0 c0 g1 c1 g2 c2 g3 c3 : Nat) (b d : List Int) (u : List Bool) (p d' : List Int) (u' : List Bool) (p' : List Int) (r : Int) (w : World)
  (hs0 : CS[0]? = some (.slice (some ⟨g0, 0, none⟩) b.length c0)) (hs1 : CS[1]? = some (.slice (some ⟨g1, 0, none⟩) d.length c1)) (hs2 : CS[2]? = some (.slice (some ⟨g2, 0, none⟩) u.length c2)) (hs3 : CS[3]? = some (.slice (some ⟨g3, 0, none⟩) p.length c3))
  (hb : w.heap[g]? = some (.cells CS T (0, 0))) (hF : FoR w w0.heap.size g0 c0 g1 c1 g2 c2 g3 c3 b d u p) (hW : Below w0.heap.size w0 w) (h : stepF b d u p = some (d', u', p', r)) :
  Calls Try.prog 55 #[.pointer (some ⟨g, 0, none⟩)] w fun e w' => e = .returned (.int .i64 r) ∧ w'.heap[g]? = w.heap[g]? ∧ FoR w' w0.heap.size g0 c0 g1 c1 g2 c2 g3 c3 b d' u' p' ∧ Kept w w' (Wr g1 g2 g3) ∧ Below w0.heap.size w0 w' := by
 have hne := FoR.apart hF hb hT.1 hT.2
 have BK := Aside0.mk hb
 have HS0 := Aside0.mk hs0
 have HS1 := Aside0.mk hs1
 have HS2 := Aside0.mk hs2
 have HS3 := Aside0.mk hs3
 clear hs0 hs1 hs2 hs3
 have HB0 := Aside0.mk hb
 have HF := Aside0.mk hF
 have HK := Aside0.mk (Kept.refl w (Wr g1 g2 g3))
 have HW := Aside0.mk hW
 unfold stepF at h
 simp only at h
 by_cases hc : 0 ≤ rd p 0 ∧ rd p 0 < b.length ∧ b.length ≤ 1000 ∧ d.length = b.length ∧ u.length = b.length ∧ p.length = b.length + 1 ∧ -1000 ≤ rd d ((b.length : Int) - 1 - rd p 0) ∧ rd d ((b.length : Int) - 1 - rd p 0) ≤ 1000 ∧ -1000 ≤ rd b ((b.length : Int) - 1 - rd p 0) ∧ rd b ((b.length : Int) - 1 - rd p 0) ≤ 1000
 rotate_left
 ·rw [if_neg hc] at h; cases h
 rw [if_pos hc] at h
 obtain ⟨J, hJ⟩ : ∃ J, rd p 0 = J := ⟨_, rfl⟩
 rw [hJ] at h hc
 obtain ⟨I, hI⟩ : ∃ I, (b.length : Int) - 1 - J = I := ⟨_, rfl⟩
 rw [hI] at h hc
 obtain ⟨j0, j1, m0, l1, l2, l3, x0, x1, y0, y1⟩ := hc
 have HL := Aside0.mk (show (0 ≤ I ∧ I < b.length) ∧ I < d.length ∧ I < u.length ∧ J + 1 < p.length ∧ J < p.length ∧ 0 < p.length ∧ 0 ≤ J from ⟨⟨by omega, by omega⟩, by omega, by omega, by omega, by omega, by omega, by omega⟩)
 have HX := Aside0.mk (show (-1000 ≤ rd d I ∧ rd d I ≤ 1000) ∧ -1000 ≤ rd b I ∧ rd b I ≤ 1000 from ⟨⟨x0, x1⟩, y0, y1⟩)
 have k1 : wrap64 ((b.length : Int) - 1) = (b.length : Int) - 1 := by unfold wrap64; omega
 have k2 : wrap64 (J + 1) = J + 1 := by unfold wrap64; omega
 have k1' : IntKind.i64.wrap ((b.length : Int) - 1) = (b.length : Int) - 1 := (i64_w _).trans k1
 have k2' : IntKind.i64.wrap (J + 1) = J + 1 := (i64_w _).trans k2
 have k3 : wrap64 ((b.length : Int) - 1 - J) = I := by rw [← hI]; unfold wrap64; omega
 have k3' : IntKind.i64.wrap ((b.length : Int) - 1 - J) = I := (i64_w _).trans k3
 have b1 : (J == (b.length : Int)) = false := beq_eq_false_iff_ne.mpr (by omega)
 have b2 : (0 ≤ I) = True := eq_true (by omega)
 have b3 : (I < (u.length : Int)) = True := eq_true (by omega)
 have b4 : (I < (d.length : Int)) = True := eq_true (by omega)
 have b5 : (I < (b.length : Int)) = True := eq_true (by omega)
 have b6 : (0 ≤ J) = True := eq_true (by omega)
 have b7 : (J < (p.length : Int)) = True := eq_true (by omega)
 have b8 : (J + 1 < (p.length : Int)) = True := eq_true (by omega)
 have b9 : (0 ≤ J + 1) = True := eq_true (by omega)
 have b10 : (0 < p.length) = True := eq_true (by omega)
 have b11 : ((0 : Int) < (p.length : Int)) = True := eq_true (by omega)
 have HJ := Aside0.mk hJ
 obtain ⟨X, hX⟩ : ∃ X, (if rdOf false u I = true then rd d I + 1 else rd d I - 1) = X := ⟨_, rfl⟩
 rw [hX] at h
 have HH := Aside0.mk h
 have HXX := Aside0.mk hX
 clear hF hb hW h hJ hI hX j0 j1 m0 l1 l2 l3 x0 x1 y0 y1
 go_enter Try.func55, Try.ntmps55
 go_wp2_with fail
 have n0_ := Aside0.mk (Z27 BK.out)
 have n1_ := Aside0.mk (FoR.drew HF.out)
 have n2_ := Aside0.mk (Kept.drew HK.out)
 have n3_ := Aside0.mk (Z4 HW.out)
 clear BK HF HK HW
 have BK := n0_
 have HF := n1_
 have HK := n2_
 have HW := n3_
 clear n0_ n1_ n2_ n3_
 refine start_ (n := 13) (S := fun w' => w'.cell? ⟨g, 0, none⟩ = some (.slice (some ⟨g0, 0, none⟩) b.length c0) ∧ w'.cell? ⟨g, 3, none⟩ = some (.slice (some ⟨g3, 0, none⟩) p.length c3) ∧ w'.cell? ⟨g3, 0, none⟩ = some (.int .i64 J)) (ds := []) #[false, false, false, false, false, false, false, false, false, false, false, false, false] (by kernel_rfl) rfl rfl ⟨(Z24 BK.out 0).trans HS0.out, (Z24 BK.out 3).trans HS3.out, (by rw [← HJ.out]; exact (FoR.at3 HF.out 0 (by decide) (by have := HL.out; omega)).1)⟩ (fun hHeld => ?_)
 generalize World.drew _ = w1 at BK HF HK HW hHeld ⊢
 refine pure_ (i := 0) (N := some 6) (v := ?_) (a' := ?_) #[true, false, false, false, false, false, false, false, false, false, false, false, false] rfl rfl (by kernel_rfl) (fun _ _ _ h => h) (Or.inl ⟨by rfl, ?_⟩) ?_ ?_
 rotate_left
 ·intro w'
  go_simp
  with_reducible rfl
 rotate_left
 ·simp only [Act.put, Z0, Z1, Z2, i64_w, i32_w]
  rfl
 refine pure_ (i := 1) (N := some 7) (v := ?_) (a' := ?_) #[true, true, false, false, false, false, false, false, false, false, false, false, false] rfl rfl (by kernel_rfl) (fun _ _ _ h => h) (Or.inl ⟨by rfl, ?_⟩) ?_ ?_
 rotate_left
 ·intro w'
  go_simp
  with_reducible rfl
 rotate_left
 ·simp only [Act.put, Z0, Z1, Z2, i64_w, i32_w]
  rfl
 refine pure_ (i := 2) (N := some 8) (v := ?_) (a' := ?_) #[true, true, true, false, false, false, false, false, false, false, false, false, false] rfl rfl (by kernel_rfl) (fun _ _ _ h => h) (Or.inl ⟨by rfl, ?_⟩) ?_ ?_
 rotate_left
 ·intro w'
  go_simp
  with_reducible rfl
 rotate_left
 ·simp only [Act.put, Z0, Z1, Z2, i64_w, i32_w]
  rfl
 refine pure_ (i := 5) (N := some 11) (v := ?_) (a' := ?_) #[true, true, true, false, false, true, false, false, false, false, false, false, false] rfl rfl (by kernel_rfl) (fun _ _ _ h => h) (Or.inl ⟨by rfl, ?_⟩) ?_ ?_
 rotate_left
 ·intro w'
  go_simp
  with_reducible rfl
 rotate_left
 ·simp only [Act.put, Z0, Z1, Z2, i64_w, i32_w]
  rfl
 refine pure_ (i := 6) (N := some 12) (v := ?_) (a' := ?_) #[true, true, true, false, false, true, true, false, false, false, false, false, false] rfl rfl (by kernel_rfl) (fun _ _ _ h => h) (Or.inl ⟨by rfl, ?_⟩) ?_ ?_
 rotate_left
 ·intro w'
  go_simp
  with_reducible rfl
 rotate_left
 ·simp only [Act.put, Z0, Z1, Z2, i64_w, i32_w]
  rfl
 refine pure_ (i := 7) (N := some 13) (v := ?_) (a' := ?_) #[true, true, true, false, false, true, true, true, false, false, false, false, false] rfl rfl (by kernel_rfl) (fun _ _ _ h => h) (Or.inl ⟨by rfl, ?_⟩) ?_ ?_
 rotate_left
 ·intro w'
  go_simp
  with_reducible rfl
 rotate_left
 ·simp only [Act.put, Z0, Z1, Z2, i64_w, i32_w]
  rfl
 refine take_ (i := 3) (N := some 9) (v := ?_) (a' := ?_) #[true, true, true, true, false, true, true, true, false, false, false, false, false] rfl rfl (by kernel_rfl) (fun _ _ _ h => h) (Or.inl ⟨by rfl, ?_⟩) hHeld ?_ ?_
 rotate_left
 ·rintro w' ⟨s0, s1, s2⟩
  go_simp
  with_reducible rfl
 rotate_left
 ·simp only [Act.put, Z0, Z1, Z2, i64_w, i32_w]
  rfl
 refine pure_ (i := 4) (N := some 10) (v := ?_) (a' := ?_) #[true, true, true, true, true, true, true, true, false, false, false, false, false] rfl rfl (by kernel_rfl) (fun _ _ _ h => h) (Or.inl ⟨by rfl, ?_⟩) ?_ ?_
 rotate_left
 ·intro w'
  go_simp
  with_reducible rfl
 rotate_left
 ·simp only [Act.put, Z0, Z1, Z2, i64_w, i32_w]
  rfl
 refine pure_ (i := 11) (N := some 3) (v := ?_) (a' := ?_) #[true, true, true, true, true, true, true, true, false, false, false, true, false] rfl rfl (by kernel_rfl) (fun _ _ _ h => h) (Or.inl ⟨by rfl, ?_⟩) ?_ ?_
 rotate_left
 ·intro w'
  go_simp
  with_reducible rfl
 rotate_left
 ·simp only [Act.put, Z0, Z1, Z2, i64_w, i32_w]
  rfl
 refine take_ (i := 8) (N := some 14) (v := ?_) (a' := ?_) #[true, true, true, true, true, true, true, true, true, false, false, true, false] rfl rfl (by kernel_rfl) (fun _ _ _ h => h) (Or.inl ⟨by rfl, ?_⟩) hHeld ?_ ?_
 rotate_left
 ·rintro w' ⟨s0, s1, s2⟩
  go_simp
  with_reducible rfl
 rotate_left
 ·simp only [Act.put, Z0, Z1, Z2, i64_w, i32_w]
  rfl
 refine pure_ (i := 9) (N := some 15) (v := ?_) (a' := ?_) #[true, true, true, true, true, true, true, true, true, true, false, true, false] rfl rfl (by kernel_rfl) (fun _ _ _ h => h) (Or.inl ⟨by rfl, ?_⟩) ?_ ?_
 rotate_left
 ·intro w'
  go_simp
  with_reducible rfl
 rotate_left
 ·simp only [Act.put, Z0, Z1, Z2, i64_w, i32_w]
  rfl
 refine take_ (i := 10) (N := some 16) (v := ?_) (a' := ?_) #[true, true, true, true, true, true, true, true, true, true, true, true, false] rfl rfl (by kernel_rfl) (fun _ _ _ h => h) (Or.inl ⟨by rfl, ?_⟩) hHeld ?_ ?_
 rotate_left
 ·rintro w' ⟨s0, s1, s2⟩
  go_simp
  with_reducible rfl
 rotate_left
 ·simp only [Act.put, Z0, Z1, Z2, i64_w, i32_w]
  rfl
 refine pure_ (i := 12) (N := some 4) (v := ?_) (a' := ?_) #[true, true, true, true, true, true, true, true, true, true, true, true, true] rfl rfl (by kernel_rfl) (fun _ _ _ h => h) (Or.inl ⟨by rfl, ?_⟩) ?_ ?_
 rotate_left
 ·intro w'
  go_simp
  with_reducible rfl
 rotate_left
 ·simp only [Act.put, Z0, Z1, Z2, i64_w, i32_w]
  rfl
 refine done_ (by kernel_rfl) ?_
 have hc0 := (Z24 BK.out 0).trans HS0.out
 have hc1 := (Z24 BK.out 1).trans HS1.out
 have hc2 := (Z24 BK.out 2).trans HS2.out
 have hc3 := (Z24 BK.out 3).trans HS3.out
 have hx := (FoR.at3 HF.out 0 (by decide) (by have := HL.out; omega)).1
 have hz : World.frozen? _ ⟨g3, 0, none⟩ = false := (FoR.at3 HF.out 0 (by decide) (by have := HL.out; omega)).2
 rw [show (0 : Int).toNat = 0 from rfl] at hx
 go_upto_region 6 with fail
 clear hx hz hc0 hc1 hc2 hc3
 have n0_ := Aside0.mk (show (World.setCell w1 ⟨g3, 0, none⟩ (.int .i64 0)).heap[g]? = _ from blk_far (p := ⟨g3, 0, none⟩) BK.out hne.2.2.2 (.int .i64 0))
 have n1_ := Aside0.mk (show FoR (World.setCell w1 ⟨g3, 0, none⟩ (.int .i64 0)) w0.heap.size g0 c0 g1 c1 g2 c2 g3 c3 b d u (p.set 0 0) from FoR.put3 HF.out 0 0)
 have n2_ := Aside0.mk (Kept.setCell HK.out (p := ⟨g3, 0, none⟩) (.inl (.inr (.inr rfl))) (.int .i64 0))
 have n3_ := Aside0.mk (show Below w0.heap.size w0 (World.setCell w1 ⟨g3, 0, none⟩ (.int .i64 0)) from Z6 HW.out (FoR.ge HF.out).2.2.2)
 clear BK HF HK HW
 have BK := n0_
 have HF := n1_
 have HK := n2_
 have HW := n3_
 clear n0_ n1_ n2_ n3_
 generalize World.setCell w1 ⟨g3, 0, none⟩ (.int .i64 0) = w2 at BK HF HK HW ⊢
 have hc0 := (Z24 BK.out 0).trans HS0.out
 have hc1 := (Z24 BK.out 1).trans HS1.out
 have hc2 := (Z24 BK.out 2).trans HS2.out
 have hc3 := (Z24 BK.out 3).trans HS3.out
 have hx2 := (FoR.at2 HF.out I (by have := HL.out; omega) (by have := HL.out; omega)).1
 go_upto_if 35 with fail
 go_cut [] (fun wc => Aside0 (wc.heap[g]? = some (.cells CS T (0, 0))) ∧ Aside0 (FoR wc w0.heap.size g0 c0 g1 c1 g2 c2 g3 c3 b (d.set I.toNat X) u (p.set 0 0)) ∧ Aside0 (Kept w wc (Wr g1 g2 g3)) ∧ Aside0 (Below w0.heap.size w0 wc))
 case first =>
  have hx1 := (FoR.at1 HF.out I (by have := HL.out; omega) (by have := HL.out; omega)).1
  have hz1 := (FoR.at1 HF.out I (by have := HL.out; omega) (by have := HL.out; omega)).2
  have n0_ := Aside0.mk (blk_far (p := ⟨g1, I.toNat, none⟩) BK.out hne.2.1 (.int .i64 X))
  have n1_ := Aside0.mk (FoR.put1 HF.out I X)
  have n2_ := Aside0.mk (Kept.setCell HK.out (p := ⟨g1, I.toNat, none⟩) (.inl (.inl rfl)) (.int .i64 X))
  have n3_ := Aside0.mk (Z6 (j := I.toNat) (v := .int .i64 X) HW.out (FoR.ge HF.out).2.1)
  cases hU : rdOf false u I
  ·have hv : rd d I - 1 = X := by have := HXX.out; rw [hU] at this; simpa using this
   have hw : wrap64 (rd d I - 1) = X := by rw [← hv]; have := HX.out; unfold wrap64; omega
   have hw' : IntKind.i64.wrap (rd d I - 1) = X := (i64_w _).trans hw
   clear hv
   rw [hU] at hx2
   go_wp2
   go_meet
   case rel => exact ⟨n0_, n1_, n2_, n3_⟩
  ·have hv : rd d I + 1 = X := by have := HXX.out; rw [hU] at this; simpa using this
   have hw : wrap64 (rd d I + 1) = X := by rw [← hv]; have := HX.out; unfold wrap64; omega
   have hw' : IntKind.i64.wrap (rd d I + 1) = X := (i64_w _).trans hw
   clear hv
   rw [hU] at hx2
   go_wp2
   go_meet
   case rel => exact ⟨n0_, n1_, n2_, n3_⟩
 case rest =>
  clear hx2 hc0 hc1 hc2 hc3 BK HF HK HW
  obtain ⟨BK, HF, HK, HW⟩ := hcut
  have HRD := Aside0.mk (show rd (d.set I.toNat X) I = X from by
   have := HL.out
   unfold rd
   rw [List.getD_eq_getElem?_getD, List.getElem?_set_self (by omega)]; rfl)
  go_upto_region 9 with fail
  go_cut [79] (fun v79 wc => ∃ t : Bool, v79 = .bool t ∧ Aside0 (t = decide (X = 0 ∨ X = rd b I - 1)) ∧ Aside0 (wc.heap[g]? = some (.cells CS T (0, 0))) ∧ Aside0 (FoR wc w0.heap.size g0 c0 g1 c1 g2 c2 g3 c3 b (d.set I.toNat X) u (p.set 0 0)) ∧ Aside0 (Kept w wc (Wr g1 g2 g3)) ∧ Aside0 (Below w0.heap.size w0 wc))
  case first =>
   have hw : wrap64 (rd b I - 1) = rd b I - 1 := by have := HX.out; unfold wrap64; omega
   have hw' : IntKind.i64.wrap (rd b I - 1) = rd b I - 1 := (i64_w _).trans hw
   by_cases z : X = 0
   ·have zb : (X == 0) = true := beq_iff_eq.mpr z
    have HT := Aside0.mk (Z39 (p := X = 0 ∨ X = rd b I - 1) (Or.inl z))
    clear z
    go_wp2_with fail
    have n0_ := Aside0.mk (Z27 BK.out)
    have n1_ := Aside0.mk (FoR.drew HF.out)
    have n2_ := Aside0.mk (Kept.drew HK.out)
    have n3_ := Aside0.mk (Z4 HW.out)
    clear BK HF HK HW
    have BK := n0_
    have HF := n1_
    have HK := n2_
    have HW := n3_
    clear n0_ n1_ n2_ n3_
    refine start_ (n := 26) (S := fun w' => w'.cell? ⟨g, 0, none⟩ = some (.slice (some ⟨g0, 0, none⟩) b.length c0) ∧ w'.cell? ⟨g, 1, none⟩ = some (.slice (some ⟨g1, 0, none⟩) d.length c1) ∧ w'.cell? ⟨g1, I.toNat, none⟩ = some (.int .i64 X) ∧ w'.cell? ⟨g0, I.toNat, none⟩ = some (.int .i64 (rd b I))) (ds := []) #[false, false, false, false, false, false, false, false, false, false, false, false, false, false, false, false, false, false, false, false, false, false, false, false, false, false] (by kernel_rfl) rfl rfl ⟨(Z24 BK.out 0).trans HS0.out, (Z24 BK.out 1).trans HS1.out, ((FoR.at1 HF.out I (by have := HL.out; omega) (by rw [List.length_set]; have := HL.out; omega)).1.trans (by rw [HRD.out])), (FoR.at0 HF.out I (by have := HL.out; omega) (by have := HL.out; omega)).1⟩ (fun hHeld => ?_)
    generalize World.drew _ = w3 at BK HF HK HW hHeld ⊢
    refine pure_ (i := 0) (N := some 54) (v := ?_) (a' := ?_) #[true, false, false, false, false, false, false, false, false, false, false, false, false, false, false, false, false, false, false, false, false, false, false, false, false, false] rfl rfl (by kernel_rfl) (fun _ _ _ h => h) (Or.inl ⟨by rfl, ?_⟩) ?_ ?_
    rotate_left
    ·intro w'
     go_simp
     with_reducible rfl
    rotate_left
    ·simp only [Act.put, Z0, Z1, Z2, i64_w, i32_w]
     rfl
    refine pure_ (i := 1) (N := some 55) (v := ?_) (a' := ?_) #[true, true, false, false, false, false, false, false, false, false, false, false, false, false, false, false, false, false, false, false, false, false, false, false, false, false] rfl rfl (by kernel_rfl) (fun _ _ _ h => h) (Or.inl ⟨by rfl, ?_⟩) ?_ ?_
    rotate_left
    ·intro w'
     go_simp
     with_reducible rfl
    rotate_left
    ·simp only [Act.put, Z0, Z1, Z2, i64_w, i32_w]
     rfl
    refine pure_ (i := 2) (N := some 56) (v := ?_) (a' := ?_) #[true, true, true, false, false, false, false, false, false, false, false, false, false, false, false, false, false, false, false, false, false, false, false, false, false, false] rfl rfl (by kernel_rfl) (fun _ _ _ h => h) (Or.inl ⟨by rfl, ?_⟩) ?_ ?_
    rotate_left
    ·intro w'
     go_simp
     with_reducible rfl
    rotate_left
    ·simp only [Act.put, Z0, Z1, Z2, i64_w, i32_w]
     rfl
    refine pure_ (i := 4) (N := some 58) (v := ?_) (a' := ?_) #[true, true, true, false, true, false, false, false, false, false, false, false, false, false, false, false, false, false, false, false, false, false, false, false, false, false] rfl rfl (by kernel_rfl) (fun _ _ _ h => h) (Or.inl ⟨by rfl, ?_⟩) ?_ ?_
    rotate_left
    ·intro w'
     go_simp
     with_reducible rfl
    rotate_left
    ·simp only [Act.put, Z0, Z1, Z2, i64_w, i32_w]
     rfl
    refine take_ (i := 3) (N := some 57) (v := ?_) (a' := ?_) #[true, true, true, true, true, false, false, false, false, false, false, false, false, false, false, false, false, false, false, false, false, false, false, false, false, false] rfl rfl (by kernel_rfl) (fun _ _ _ h => h) (Or.inl ⟨by rfl, ?_⟩) hHeld ?_ ?_
    rotate_left
    ·rintro w' ⟨s0, s1, s2, s3⟩
     go_simp
     with_reducible rfl
    rotate_left
    ·simp only [Act.put, Z0, Z1, Z2, i64_w, i32_w]
     rfl
    refine pure_ (i := 5) (N := some 59) (v := ?_) (a' := ?_) #[true, true, true, true, true, true, false, false, false, false, false, false, false, false, false, false, false, false, false, false, false, false, false, false, false, false] rfl rfl (by kernel_rfl) (fun _ _ _ h => h) (Or.inl ⟨by rfl, ?_⟩) ?_ ?_
    rotate_left
    ·intro w'
     go_simp
     with_reducible rfl
    rotate_left
    ·simp only [Act.put, Z0, Z1, Z2, i64_w, i32_w]
     rfl
    refine take_ (i := 6) (N := some 60) (v := ?_) (a' := ?_) #[true, true, true, true, true, true, true, false, false, false, false, false, false, false, false, false, false, false, false, false, false, false, false, false, false, false] rfl rfl (by kernel_rfl) (fun _ _ _ h => h) (Or.inl ⟨by rfl, ?_⟩) hHeld ?_ ?_
    rotate_left
    ·rintro w' ⟨s0, s1, s2, s3⟩
     go_simp
     with_reducible rfl
    rotate_left
    ·simp only [Act.put, Z0, Z1, Z2, i64_w, i32_w]
     rfl
    refine pure_ (i := 7) (N := some 61) (v := ?_) (a' := ?_) #[true, true, true, true, true, true, true, true, false, false, false, false, false, false, false, false, false, false, false, false, false, false, false, false, false, false] rfl rfl (by kernel_rfl) (fun _ _ _ h => h) (Or.inl ⟨by rfl, ?_⟩) ?_ ?_
    rotate_left
    ·intro w'
     go_simp
     with_reducible rfl
    rotate_left
    ·simp only [Act.put, Z0, Z1, Z2, i64_w, i32_w]
     rfl
    refine pure_ (i := 8) (N := some 62) (v := ?_) (a' := ?_) #[true, true, true, true, true, true, true, true, true, false, false, false, false, false, false, false, false, false, false, false, false, false, false, false, false, false] rfl rfl (by kernel_rfl) (fun _ _ _ h => h) (Or.inl ⟨by rfl, ?_⟩) ?_ ?_
    rotate_left
    ·intro w'
     go_simp
     with_reducible rfl
    rotate_left
    ·simp only [Act.put, Z0, Z1, Z2, i64_w, i32_w]
     rfl
    refine pure_ (i := 9) (N := some 63) (v := undef) (a' := ?_) #[true, true, true, true, true, true, true, true, true, true, false, false, false, false, false, false, false, false, false, false, false, false, false, false, false, false] rfl rfl (by kernel_rfl) (fun _ _ _ h => h) (Or.inr ⟨by rfl, rfl⟩) ?_ ?_
    rotate_left
    ·simp only [Act.put, Z0, Z1, Z2, i64_w, i32_w]
     rfl
    refine pure_ (i := 10) (N := some 64) (v := undef) (a' := ?_) #[true, true, true, true, true, true, true, true, true, true, true, false, false, false, false, false, false, false, false, false, false, false, false, false, false, false] rfl rfl (by kernel_rfl) (fun _ _ _ h => h) (Or.inr ⟨by rfl, rfl⟩) ?_ ?_
    rotate_left
    ·simp only [Act.put, Z0, Z1, Z2, i64_w, i32_w]
     rfl
    refine pure_ (i := 11) (N := some 65) (v := undef) (a' := ?_) #[true, true, true, true, true, true, true, true, true, true, true, true, false, false, false, false, false, false, false, false, false, false, false, false, false, false] rfl rfl (by kernel_rfl) (fun _ _ _ h => h) (Or.inr ⟨by rfl, rfl⟩) ?_ ?_
    rotate_left
    ·simp only [Act.put, Z0, Z1, Z2, i64_w, i32_w]
     rfl
    refine pure_ (i := 12) (N := some 66) (v := undef) (a' := ?_) #[true, true, true, true, true, true, true, true, true, true, true, true, true, false, false, false, false, false, false, false, false, false, false, false, false, false] rfl rfl (by kernel_rfl) (fun _ _ _ h => h) (Or.inr ⟨by rfl, rfl⟩) ?_ ?_
    rotate_left
    ·simp only [Act.put, Z0, Z1, Z2, i64_w, i32_w]
     rfl
    refine pure_ (i := 13) (N := some 67) (v := undef) (a' := ?_) #[true, true, true, true, true, true, true, true, true, true, true, true, true, true, false, false, false, false, false, false, false, false, false, false, false, false] rfl rfl (by kernel_rfl) (fun _ _ _ h => h) (Or.inr ⟨by rfl, rfl⟩) ?_ ?_
    rotate_left
    ·simp only [Act.put, Z0, Z1, Z2, i64_w, i32_w]
     rfl
    refine pure_ (i := 14) (N := some 68) (v := undef) (a' := ?_) #[true, true, true, true, true, true, true, true, true, true, true, true, true, true, true, false, false, false, false, false, false, false, false, false, false, false] rfl rfl (by kernel_rfl) (fun _ _ _ h => h) (Or.inr ⟨by rfl, rfl⟩) ?_ ?_
    rotate_left
    ·simp only [Act.put, Z0, Z1, Z2, i64_w, i32_w]
     rfl
    refine pure_ (i := 15) (N := some 69) (v := undef) (a' := ?_) #[true, true, true, true, true, true, true, true, true, true, true, true, true, true, true, true, false, false, false, false, false, false, false, false, false, false] rfl rfl (by kernel_rfl) (fun _ _ _ h => h) (Or.inr ⟨by rfl, rfl⟩) ?_ ?_
    rotate_left
    ·simp only [Act.put, Z0, Z1, Z2, i64_w, i32_w]
     rfl
    refine pure_ (i := 16) (N := some 70) (v := undef) (a' := ?_) #[true, true, true, true, true, true, true, true, true, true, true, true, true, true, true, true, true, false, false, false, false, false, false, false, false, false] rfl rfl (by kernel_rfl) (fun _ _ _ h => h) (Or.inr ⟨by rfl, rfl⟩) ?_ ?_
    rotate_left
    ·simp only [Act.put, Z0, Z1, Z2, i64_w, i32_w]
     rfl
    refine pure_ (i := 17) (N := some 71) (v := undef) (a' := ?_) #[true, true, true, true, true, true, true, true, true, true, true, true, true, true, true, true, true, true, false, false, false, false, false, false, false, false] rfl rfl (by kernel_rfl) (fun _ _ _ h => h) (Or.inr ⟨by rfl, rfl⟩) ?_ ?_
    rotate_left
    ·simp only [Act.put, Z0, Z1, Z2, i64_w, i32_w]
     rfl
    refine pure_ (i := 18) (N := some 72) (v := undef) (a' := ?_) #[true, true, true, true, true, true, true, true, true, true, true, true, true, true, true, true, true, true, true, false, false, false, false, false, false, false] rfl rfl (by kernel_rfl) (fun _ _ _ h => h) (Or.inr ⟨by rfl, rfl⟩) ?_ ?_
    rotate_left
    ·simp only [Act.put, Z0, Z1, Z2, i64_w, i32_w]
     rfl
    refine pure_ (i := 19) (N := some 73) (v := undef) (a' := ?_) #[true, true, true, true, true, true, true, true, true, true, true, true, true, true, true, true, true, true, true, true, false, false, false, false, false, false] rfl rfl (by kernel_rfl) (fun _ _ _ h => h) (Or.inr ⟨by rfl, rfl⟩) ?_ ?_
    rotate_left
    ·simp only [Act.put, Z0, Z1, Z2, i64_w, i32_w]
     rfl
    refine pure_ (i := 20) (N := some 74) (v := undef) (a' := ?_) #[true, true, true, true, true, true, true, true, true, true, true, true, true, true, true, true, true, true, true, true, true, false, false, false, false, false] rfl rfl (by kernel_rfl) (fun _ _ _ h => h) (Or.inr ⟨by rfl, rfl⟩) ?_ ?_
    rotate_left
    ·simp only [Act.put, Z0, Z1, Z2, i64_w, i32_w]
     rfl
    refine pure_ (i := 21) (N := some 75) (v := undef) (a' := ?_) #[true, true, true, true, true, true, true, true, true, true, true, true, true, true, true, true, true, true, true, true, true, true, false, false, false, false] rfl rfl (by kernel_rfl) (fun _ _ _ h => h) (Or.inr ⟨by rfl, rfl⟩) ?_ ?_
    rotate_left
    ·simp only [Act.put, Z0, Z1, Z2, i64_w, i32_w]
     rfl
    refine pure_ (i := 22) (N := some 76) (v := undef) (a' := ?_) #[true, true, true, true, true, true, true, true, true, true, true, true, true, true, true, true, true, true, true, true, true, true, true, false, false, false] rfl rfl (by kernel_rfl) (fun _ _ _ h => h) (Or.inr ⟨by rfl, rfl⟩) ?_ ?_
    rotate_left
    ·simp only [Act.put, Z0, Z1, Z2, i64_w, i32_w]
     rfl
    refine pure_ (i := 23) (N := some 77) (v := undef) (a' := ?_) #[true, true, true, true, true, true, true, true, true, true, true, true, true, true, true, true, true, true, true, true, true, true, true, true, false, false] rfl rfl (by kernel_rfl) (fun _ _ _ h => h) (Or.inr ⟨by rfl, rfl⟩) ?_ ?_
    rotate_left
    ·simp only [Act.put, Z0, Z1, Z2, i64_w, i32_w]
     rfl
    refine pure_ (i := 24) (N := some 78) (v := undef) (a' := ?_) #[true, true, true, true, true, true, true, true, true, true, true, true, true, true, true, true, true, true, true, true, true, true, true, true, true, false] rfl rfl (by kernel_rfl) (fun _ _ _ h => h) (Or.inr ⟨by rfl, rfl⟩) ?_ ?_
    rotate_left
    ·simp only [Act.put, Z0, Z1, Z2, i64_w, i32_w]
     rfl
    refine pure_ (i := 25) (N := some 79) (v := ?_) (a' := ?_) #[true, true, true, true, true, true, true, true, true, true, true, true, true, true, true, true, true, true, true, true, true, true, true, true, true, true] rfl rfl (by kernel_rfl) (fun _ _ _ h => h) (Or.inl ⟨by rfl, ?_⟩) ?_ ?_
    rotate_left
    ·intro w'
     go_simp
     with_reducible rfl
    rotate_left
    ·simp only [Act.put, Z0, Z1, Z2, i64_w, i32_w]
     rfl
    refine done_ (by kernel_rfl) ?_
    go_step
    go_step
    go_meet
    case rel => exact ⟨true, rfl, ⟨HT.out.symm⟩, BK, HF, HK, HW⟩
   ·have zb : (X == 0) = false := beq_eq_false_iff_ne.mpr z
    have HT := Aside0.mk (show (X == rd b I - 1) = decide (X = 0 ∨ X = rd b I - 1) from by rw [Bool.eq_iff_iff]; simp [z])
    clear z
    go_wp2_with fail
    have n0_ := Aside0.mk (Z27 BK.out)
    have n1_ := Aside0.mk (FoR.drew HF.out)
    have n2_ := Aside0.mk (Kept.drew HK.out)
    have n3_ := Aside0.mk (Z4 HW.out)
    clear BK HF HK HW
    have BK := n0_
    have HF := n1_
    have HK := n2_
    have HW := n3_
    clear n0_ n1_ n2_ n3_
    refine start_ (n := 26) (S := fun w' => w'.cell? ⟨g, 0, none⟩ = some (.slice (some ⟨g0, 0, none⟩) b.length c0) ∧ w'.cell? ⟨g, 1, none⟩ = some (.slice (some ⟨g1, 0, none⟩) d.length c1) ∧ w'.cell? ⟨g1, I.toNat, none⟩ = some (.int .i64 X) ∧ w'.cell? ⟨g0, I.toNat, none⟩ = some (.int .i64 (rd b I))) (ds := []) #[false, false, false, false, false, false, false, false, false, false, false, false, false, false, false, false, false, false, false, false, false, false, false, false, false, false] (by kernel_rfl) rfl rfl ⟨(Z24 BK.out 0).trans HS0.out, (Z24 BK.out 1).trans HS1.out, ((FoR.at1 HF.out I (by have := HL.out; omega) (by rw [List.length_set]; have := HL.out; omega)).1.trans (by rw [HRD.out])), (FoR.at0 HF.out I (by have := HL.out; omega) (by have := HL.out; omega)).1⟩ (fun hHeld => ?_)
    generalize World.drew _ = w3 at BK HF HK HW hHeld ⊢
    refine pure_ (i := 0) (N := some 54) (v := ?_) (a' := ?_) #[true, false, false, false, false, false, false, false, false, false, false, false, false, false, false, false, false, false, false, false, false, false, false, false, false, false] rfl rfl (by kernel_rfl) (fun _ _ _ h => h) (Or.inl ⟨by rfl, ?_⟩) ?_ ?_
    rotate_left
    ·intro w'
     go_simp
     with_reducible rfl
    rotate_left
    ·simp only [Act.put, Z0, Z1, Z2, i64_w, i32_w]
     rfl
    refine pure_ (i := 1) (N := some 55) (v := ?_) (a' := ?_) #[true, true, false, false, false, false, false, false, false, false, false, false, false, false, false, false, false, false, false, false, false, false, false, false, false, false] rfl rfl (by kernel_rfl) (fun _ _ _ h => h) (Or.inl ⟨by rfl, ?_⟩) ?_ ?_
    rotate_left
    ·intro w'
     go_simp
     with_reducible rfl
    rotate_left
    ·simp only [Act.put, Z0, Z1, Z2, i64_w, i32_w]
     rfl
    refine pure_ (i := 2) (N := some 56) (v := ?_) (a' := ?_) #[true, true, true, false, false, false, false, false, false, false, false, false, false, false, false, false, false, false, false, false, false, false, false, false, false, false] rfl rfl (by kernel_rfl) (fun _ _ _ h => h) (Or.inl ⟨by rfl, ?_⟩) ?_ ?_
    rotate_left
    ·intro w'
     go_simp
     with_reducible rfl
    rotate_left
    ·simp only [Act.put, Z0, Z1, Z2, i64_w, i32_w]
     rfl
    refine pure_ (i := 4) (N := some 58) (v := ?_) (a' := ?_) #[true, true, true, false, true, false, false, false, false, false, false, false, false, false, false, false, false, false, false, false, false, false, false, false, false, false] rfl rfl (by kernel_rfl) (fun _ _ _ h => h) (Or.inl ⟨by rfl, ?_⟩) ?_ ?_
    rotate_left
    ·intro w'
     go_simp
     with_reducible rfl
    rotate_left
    ·simp only [Act.put, Z0, Z1, Z2, i64_w, i32_w]
     rfl
    refine take_ (i := 3) (N := some 57) (v := ?_) (a' := ?_) #[true, true, true, true, true, false, false, false, false, false, false, false, false, false, false, false, false, false, false, false, false, false, false, false, false, false] rfl rfl (by kernel_rfl) (fun _ _ _ h => h) (Or.inl ⟨by rfl, ?_⟩) hHeld ?_ ?_
    rotate_left
    ·rintro w' ⟨s0, s1, s2, s3⟩
     go_simp
     with_reducible rfl
    rotate_left
    ·simp only [Act.put, Z0, Z1, Z2, i64_w, i32_w]
     rfl
    refine pure_ (i := 5) (N := some 59) (v := ?_) (a' := ?_) #[true, true, true, true, true, true, false, false, false, false, false, false, false, false, false, false, false, false, false, false, false, false, false, false, false, false] rfl rfl (by kernel_rfl) (fun _ _ _ h => h) (Or.inl ⟨by rfl, ?_⟩) ?_ ?_
    rotate_left
    ·intro w'
     go_simp
     with_reducible rfl
    rotate_left
    ·simp only [Act.put, Z0, Z1, Z2, i64_w, i32_w]
     rfl
    refine take_ (i := 6) (N := some 60) (v := ?_) (a' := ?_) #[true, true, true, true, true, true, true, false, false, false, false, false, false, false, false, false, false, false, false, false, false, false, false, false, false, false] rfl rfl (by kernel_rfl) (fun _ _ _ h => h) (Or.inl ⟨by rfl, ?_⟩) hHeld ?_ ?_
    rotate_left
    ·rintro w' ⟨s0, s1, s2, s3⟩
     go_simp
     with_reducible rfl
    rotate_left
    ·simp only [Act.put, Z0, Z1, Z2, i64_w, i32_w]
     rfl
    refine pure_ (i := 7) (N := some 61) (v := ?_) (a' := ?_) #[true, true, true, true, true, true, true, true, false, false, false, false, false, false, false, false, false, false, false, false, false, false, false, false, false, false] rfl rfl (by kernel_rfl) (fun _ _ _ h => h) (Or.inl ⟨by rfl, ?_⟩) ?_ ?_
    rotate_left
    ·intro w'
     go_simp
     with_reducible rfl
    rotate_left
    ·simp only [Act.put, Z0, Z1, Z2, i64_w, i32_w]
     rfl
    refine pure_ (i := 8) (N := some 62) (v := ?_) (a' := ?_) #[true, true, true, true, true, true, true, true, true, false, false, false, false, false, false, false, false, false, false, false, false, false, false, false, false, false] rfl rfl (by kernel_rfl) (fun _ _ _ h => h) (Or.inl ⟨by rfl, ?_⟩) ?_ ?_
    rotate_left
    ·intro w'
     go_simp
     with_reducible rfl
    rotate_left
    ·simp only [Act.put, Z0, Z1, Z2, i64_w, i32_w]
     rfl
    refine pure_ (i := 9) (N := some 63) (v := ?_) (a' := ?_) #[true, true, true, true, true, true, true, true, true, true, false, false, false, false, false, false, false, false, false, false, false, false, false, false, false, false] rfl rfl (by kernel_rfl) (fun _ _ _ h => h) (Or.inl ⟨by rfl, ?_⟩) ?_ ?_
    rotate_left
    ·intro w'
     go_simp
     with_reducible rfl
    rotate_left
    ·simp only [Act.put, Z0, Z1, Z2, i64_w, i32_w]
     rfl
    refine pure_ (i := 10) (N := some 64) (v := ?_) (a' := ?_) #[true, true, true, true, true, true, true, true, true, true, true, false, false, false, false, false, false, false, false, false, false, false, false, false, false, false] rfl rfl (by kernel_rfl) (fun _ _ _ h => h) (Or.inl ⟨by rfl, ?_⟩) ?_ ?_
    rotate_left
    ·intro w'
     go_simp
     with_reducible rfl
    rotate_left
    ·simp only [Act.put, Z0, Z1, Z2, i64_w, i32_w]
     rfl
    refine pure_ (i := 11) (N := some 65) (v := ?_) (a' := ?_) #[true, true, true, true, true, true, true, true, true, true, true, true, false, false, false, false, false, false, false, false, false, false, false, false, false, false] rfl rfl (by kernel_rfl) (fun _ _ _ h => h) (Or.inl ⟨by rfl, ?_⟩) ?_ ?_
    rotate_left
    ·intro w'
     go_simp
     with_reducible rfl
    rotate_left
    ·simp only [Act.put, Z0, Z1, Z2, i64_w, i32_w]
     rfl
    refine pure_ (i := 13) (N := some 67) (v := ?_) (a' := ?_) #[true, true, true, true, true, true, true, true, true, true, true, true, false, true, false, false, false, false, false, false, false, false, false, false, false, false] rfl rfl (by kernel_rfl) (fun _ _ _ h => h) (Or.inl ⟨by rfl, ?_⟩) ?_ ?_
    rotate_left
    ·intro w'
     go_simp
     with_reducible rfl
    rotate_left
    ·simp only [Act.put, Z0, Z1, Z2, i64_w, i32_w]
     rfl
    refine pure_ (i := 16) (N := some 70) (v := ?_) (a' := ?_) #[true, true, true, true, true, true, true, true, true, true, true, true, false, true, false, false, true, false, false, false, false, false, false, false, false, false] rfl rfl (by kernel_rfl) (fun _ _ _ h => h) (Or.inl ⟨by rfl, ?_⟩) ?_ ?_
    rotate_left
    ·intro w'
     go_simp
     with_reducible rfl
    rotate_left
    ·simp only [Act.put, Z0, Z1, Z2, i64_w, i32_w]
     rfl
    refine pure_ (i := 17) (N := some 71) (v := ?_) (a' := ?_) #[true, true, true, true, true, true, true, true, true, true, true, true, false, true, false, false, true, true, false, false, false, false, false, false, false, false] rfl rfl (by kernel_rfl) (fun _ _ _ h => h) (Or.inl ⟨by rfl, ?_⟩) ?_ ?_
    rotate_left
    ·intro w'
     go_simp
     with_reducible rfl
    rotate_left
    ·simp only [Act.put, Z0, Z1, Z2, i64_w, i32_w]
     rfl
    refine pure_ (i := 18) (N := some 72) (v := ?_) (a' := ?_) #[true, true, true, true, true, true, true, true, true, true, true, true, false, true, false, false, true, true, true, false, false, false, false, false, false, false] rfl rfl (by kernel_rfl) (fun _ _ _ h => h) (Or.inl ⟨by rfl, ?_⟩) ?_ ?_
    rotate_left
    ·intro w'
     go_simp
     with_reducible rfl
    rotate_left
    ·simp only [Act.put, Z0, Z1, Z2, i64_w, i32_w]
     rfl
    refine pure_ (i := 20) (N := some 74) (v := ?_) (a' := ?_) #[true, true, true, true, true, true, true, true, true, true, true, true, false, true, false, false, true, true, true, false, true, false, false, false, false, false] rfl rfl (by kernel_rfl) (fun _ _ _ h => h) (Or.inl ⟨by rfl, ?_⟩) ?_ ?_
    rotate_left
    ·intro w'
     go_simp
     with_reducible rfl
    rotate_left
    ·simp only [Act.put, Z0, Z1, Z2, i64_w, i32_w]
     rfl
    refine take_ (i := 12) (N := some 66) (v := ?_) (a' := ?_) #[true, true, true, true, true, true, true, true, true, true, true, true, true, true, false, false, true, true, true, false, true, false, false, false, false, false] rfl rfl (by kernel_rfl) (fun _ _ _ h => h) (Or.inl ⟨by rfl, ?_⟩) hHeld ?_ ?_
    rotate_left
    ·rintro w' ⟨s0, s1, s2, s3⟩
     go_simp
     with_reducible rfl
    rotate_left
    ·simp only [Act.put, Z0, Z1, Z2, i64_w, i32_w]
     rfl
    refine pure_ (i := 14) (N := some 68) (v := ?_) (a' := ?_) #[true, true, true, true, true, true, true, true, true, true, true, true, true, true, true, false, true, true, true, false, true, false, false, false, false, false] rfl rfl (by kernel_rfl) (fun _ _ _ h => h) (Or.inl ⟨by rfl, ?_⟩) ?_ ?_
    rotate_left
    ·intro w'
     go_simp
     with_reducible rfl
    rotate_left
    ·simp only [Act.put, Z0, Z1, Z2, i64_w, i32_w]
     rfl
    refine take_ (i := 15) (N := some 69) (v := ?_) (a' := ?_) #[true, true, true, true, true, true, true, true, true, true, true, true, true, true, true, true, true, true, true, false, true, false, false, false, false, false] rfl rfl (by kernel_rfl) (fun _ _ _ h => h) (Or.inl ⟨by rfl, ?_⟩) hHeld ?_ ?_
    rotate_left
    ·rintro w' ⟨s0, s1, s2, s3⟩
     go_simp
     with_reducible rfl
    rotate_left
    ·simp only [Act.put, Z0, Z1, Z2, i64_w, i32_w]
     rfl
    refine take_ (i := 19) (N := some 73) (v := ?_) (a' := ?_) #[true, true, true, true, true, true, true, true, true, true, true, true, true, true, true, true, true, true, true, true, true, false, false, false, false, false] rfl rfl (by kernel_rfl) (fun _ _ _ h => h) (Or.inl ⟨by rfl, ?_⟩) hHeld ?_ ?_
    rotate_left
    ·rintro w' ⟨s0, s1, s2, s3⟩
     go_simp
     with_reducible rfl
    rotate_left
    ·simp only [Act.put, Z0, Z1, Z2, i64_w, i32_w]
     rfl
    refine pure_ (i := 21) (N := some 75) (v := ?_) (a' := ?_) #[true, true, true, true, true, true, true, true, true, true, true, true, true, true, true, true, true, true, true, true, true, true, false, false, false, false] rfl rfl (by kernel_rfl) (fun _ _ _ h => h) (Or.inl ⟨by rfl, ?_⟩) ?_ ?_
    rotate_left
    ·intro w'
     go_simp
     with_reducible rfl
    rotate_left
    ·simp only [Act.put, Z0, Z1, Z2, i64_w, i32_w]
     rfl
    refine take_ (i := 22) (N := some 76) (v := ?_) (a' := ?_) #[true, true, true, true, true, true, true, true, true, true, true, true, true, true, true, true, true, true, true, true, true, true, true, false, false, false] rfl rfl (by kernel_rfl) (fun _ _ _ h => h) (Or.inl ⟨by rfl, ?_⟩) hHeld ?_ ?_
    rotate_left
    ·rintro w' ⟨s0, s1, s2, s3⟩
     go_simp
     with_reducible rfl
    rotate_left
    ·simp only [Act.put, Z0, Z1, Z2, i64_w, i32_w]
     rfl
    refine pure_ (i := 23) (N := some 77) (v := ?_) (a' := ?_) #[true, true, true, true, true, true, true, true, true, true, true, true, true, true, true, true, true, true, true, true, true, true, true, true, false, false] rfl rfl (by kernel_rfl) (fun _ _ _ h => h) (Or.inl ⟨by rfl, ?_⟩) ?_ ?_
    rotate_left
    ·intro w'
     go_simp
     with_reducible rfl
    rotate_left
    ·simp only [Act.put, Z0, Z1, Z2, i64_w, i32_w]
     rfl
    refine pure_ (i := 24) (N := some 78) (v := ?_) (a' := ?_) #[true, true, true, true, true, true, true, true, true, true, true, true, true, true, true, true, true, true, true, true, true, true, true, true, true, false] rfl rfl (by kernel_rfl) (fun _ _ _ h => h) (Or.inl ⟨by rfl, ?_⟩) ?_ ?_
    rotate_left
    ·intro w'
     go_simp
     with_reducible rfl
    rotate_left
    ·simp only [Act.put, Z0, Z1, Z2, i64_w, i32_w]
     rfl
    refine pure_ (i := 25) (N := some 79) (v := ?_) (a' := ?_) #[true, true, true, true, true, true, true, true, true, true, true, true, true, true, true, true, true, true, true, true, true, true, true, true, true, true] rfl rfl (by kernel_rfl) (fun _ _ _ h => h) (Or.inl ⟨by rfl, ?_⟩) ?_ ?_
    rotate_left
    ·intro w'
     go_simp
     with_reducible rfl
    rotate_left
    ·simp only [Act.put, Z0, Z1, Z2, i64_w, i32_w]
     rfl
    refine done_ (by kernel_rfl) ?_
    go_step
    go_step
    go_meet
    case rel => exact ⟨_, rfl, HT, BK, HF, HK, HW⟩
  case rest =>
   clear BK HF HK HW
   obtain ⟨t, rfl, HT, BK, HF, HK, HW⟩ := hcut
   cases t
   ·have h := HH.out
    rw [if_neg (fun e => by have h_ := HT.out; rw [Z39 e] at h_; cases h_)] at h
    simp only [Option.some.injEq, Prod.mk.injEq] at h
    obtain ⟨rfl, rfl, rfl, rfl⟩ := h
    go_wp2
    go_ret
    exact ⟨rfl, BK.out.trans HB0.out.symm, HF.out, HK.out, HW.out⟩
   ·have h := HH.out
    rw [if_pos (Z31 HT.out.symm)] at h
    simp only [Option.some.injEq, Prod.mk.injEq] at h
    obtain ⟨rfl, rfl, rfl, rfl⟩ := h
    go_wp2_with fail
    have n0_ := Aside0.mk (Z27 BK.out)
    have n1_ := Aside0.mk (FoR.drew HF.out)
    have n2_ := Aside0.mk (Kept.drew HK.out)
    have n3_ := Aside0.mk (Z4 HW.out)
    clear BK HF HK HW
    have BK := n0_
    have HF := n1_
    have HK := n2_
    have HW := n3_
    clear n0_ n1_ n2_ n3_
    refine start_ (n := 15) (S := fun w' => w'.cell? ⟨g, 2, none⟩ = some (.slice (some ⟨g2, 0, none⟩) u.length c2) ∧ w'.cell? ⟨g2, I.toNat, none⟩ = some (.bool (rdOf false u I))) (ds := [14]) #[false, false, false, false, false, false, false, false, false, false, false, false, false, false, false] (by kernel_rfl) rfl rfl ⟨(Z24 BK.out 2).trans HS2.out, (FoR.at2 HF.out I (by have := HL.out; omega) (by have := HL.out; omega)).1⟩ (fun hHeld => ?_)
    generalize World.drew _ = w4 at BK HF HK HW hHeld ⊢
    have hxs := (FoR.at2 HF.out I (by have := HL.out; omega) (by have := HL.out; omega)).1
    have hzs := (FoR.at2 HF.out I (by have := HL.out; omega) (by have := HL.out; omega)).2
    refine pure_ (i := 0) (N := some 80) (v := ?_) (a' := ?_) #[true, false, false, false, false, false, false, false, false, false, false, false, false, false, false] rfl rfl (by kernel_rfl) (fun _ _ _ h => h) (Or.inl ⟨by rfl, ?_⟩) ?_ ?_
    rotate_left
    ·intro w'
     go_simp
     with_reducible rfl
    rotate_left
    ·simp only [Act.put, Z0, Z1, Z2, i64_w, i32_w]
     rfl
    refine pure_ (i := 1) (N := some 81) (v := ?_) (a' := ?_) #[true, true, false, false, false, false, false, false, false, false, false, false, false, false, false] rfl rfl (by kernel_rfl) (fun _ _ _ h => h) (Or.inl ⟨by rfl, ?_⟩) ?_ ?_
    rotate_left
    ·intro w'
     go_simp
     with_reducible rfl
    rotate_left
    ·simp only [Act.put, Z0, Z1, Z2, i64_w, i32_w]
     rfl
    refine pure_ (i := 2) (N := some 82) (v := ?_) (a' := ?_) #[true, true, true, false, false, false, false, false, false, false, false, false, false, false, false] rfl rfl (by kernel_rfl) (fun _ _ _ h => h) (Or.inl ⟨by rfl, ?_⟩) ?_ ?_
    rotate_left
    ·intro w'
     go_simp
     with_reducible rfl
    rotate_left
    ·simp only [Act.put, Z0, Z1, Z2, i64_w, i32_w]
     rfl
    refine pure_ (i := 4) (N := some 84) (v := ?_) (a' := ?_) #[true, true, true, false, true, false, false, false, false, false, false, false, false, false, false] rfl rfl (by kernel_rfl) (fun _ _ _ h => h) (Or.inl ⟨by rfl, ?_⟩) ?_ ?_
    rotate_left
    ·intro w'
     go_simp
     with_reducible rfl
    rotate_left
    ·simp only [Act.put, Z0, Z1, Z2, i64_w, i32_w]
     rfl
    refine pure_ (i := 5) (N := some 85) (v := ?_) (a' := ?_) #[true, true, true, false, true, true, false, false, false, false, false, false, false, false, false] rfl rfl (by kernel_rfl) (fun _ _ _ h => h) (Or.inl ⟨by rfl, ?_⟩) ?_ ?_
    rotate_left
    ·intro w'
     go_simp
     with_reducible rfl
    rotate_left
    ·simp only [Act.put, Z0, Z1, Z2, i64_w, i32_w]
     rfl
    refine pure_ (i := 6) (N := some 86) (v := ?_) (a' := ?_) #[true, true, true, false, true, true, true, false, false, false, false, false, false, false, false] rfl rfl (by kernel_rfl) (fun _ _ _ h => h) (Or.inl ⟨by rfl, ?_⟩) ?_ ?_
    rotate_left
    ·intro w'
     go_simp
     with_reducible rfl
    rotate_left
    ·simp only [Act.put, Z0, Z1, Z2, i64_w, i32_w]
     rfl
    refine pure_ (i := 7) (N := some 87) (v := ?_) (a' := ?_) #[true, true, true, false, true, true, true, true, false, false, false, false, false, false, false] rfl rfl (by kernel_rfl) (fun _ _ _ h => h) (Or.inl ⟨by rfl, ?_⟩) ?_ ?_
    rotate_left
    ·intro w'
     go_simp
     with_reducible rfl
    rotate_left
    ·simp only [Act.put, Z0, Z1, Z2, i64_w, i32_w]
     rfl
    refine pure_ (i := 9) (N := some 89) (v := ?_) (a' := ?_) #[true, true, true, false, true, true, true, true, false, true, false, false, false, false, false] rfl rfl (by kernel_rfl) (fun _ _ _ h => h) (Or.inl ⟨by rfl, ?_⟩) ?_ ?_
    rotate_left
    ·intro w'
     go_simp
     with_reducible rfl
    rotate_left
    ·simp only [Act.put, Z0, Z1, Z2, i64_w, i32_w]
     rfl
    refine take_ (i := 3) (N := some 83) (v := ?_) (a' := ?_) #[true, true, true, true, true, true, true, true, false, true, false, false, false, false, false] rfl rfl (by kernel_rfl) (fun _ _ _ h => h) (Or.inl ⟨by rfl, ?_⟩) hHeld ?_ ?_
    rotate_left
    ·rintro w' ⟨s0, s1⟩
     go_simp
     with_reducible rfl
    rotate_left
    ·simp only [Act.put, Z0, Z1, Z2, i64_w, i32_w]
     rfl
    refine take_ (i := 8) (N := some 88) (v := ?_) (a' := ?_) #[true, true, true, true, true, true, true, true, true, true, false, false, false, false, false] rfl rfl (by kernel_rfl) (fun _ _ _ h => h) (Or.inl ⟨by rfl, ?_⟩) hHeld ?_ ?_
    rotate_left
    ·rintro w' ⟨s0, s1⟩
     go_simp
     with_reducible rfl
    rotate_left
    ·simp only [Act.put, Z0, Z1, Z2, i64_w, i32_w]
     rfl
    refine pure_ (i := 10) (N := some 90) (v := ?_) (a' := ?_) #[true, true, true, true, true, true, true, true, true, true, true, false, false, false, false] rfl rfl (by kernel_rfl) (fun _ _ _ h => h) (Or.inl ⟨by rfl, ?_⟩) ?_ ?_
    rotate_left
    ·intro w'
     go_simp
     with_reducible rfl
    rotate_left
    ·simp only [Act.put, Z0, Z1, Z2, i64_w, i32_w]
     rfl
    refine take_ (i := 11) (N := some 91) (v := ?_) (a' := ?_) #[true, true, true, true, true, true, true, true, true, true, true, true, false, false, false] rfl rfl (by kernel_rfl) (fun _ _ _ h => h) (Or.inl ⟨by rfl, ?_⟩) hHeld ?_ ?_
    rotate_left
    ·rintro w' ⟨s0, s1⟩
     go_simp
     with_reducible rfl
    rotate_left
    ·simp only [Act.put, Z0, Z1, Z2, i64_w, i32_w]
     rfl
    refine pure_ (i := 12) (N := some 92) (v := ?_) (a' := ?_) #[true, true, true, true, true, true, true, true, true, true, true, true, true, false, false] rfl rfl (by kernel_rfl) (fun _ _ _ h => h) (Or.inl ⟨by rfl, ?_⟩) ?_ ?_
    rotate_left
    ·intro w'
     go_simp
     with_reducible rfl
    rotate_left
    ·simp only [Act.put, Z0, Z1, Z2, i64_w, i32_w]
     rfl
    refine pure_ (i := 13) (N := some 93) (v := ?_) (a' := ?_) #[true, true, true, true, true, true, true, true, true, true, true, true, true, true, false] rfl rfl (by kernel_rfl) (fun _ _ _ h => h) (Or.inl ⟨by rfl, ?_⟩) ?_ ?_
    rotate_left
    ·intro w'
     go_simp
     with_reducible rfl
    rotate_left
    ·simp only [Act.put, Z0, Z1, Z2, i64_w, i32_w]
     rfl
    refine last_ (i := 14) (N := none) #[true, true, true, true, true, true, true, true, true, true, true, true, true, true, true] rfl rfl (by kernel_rfl) (by decide) (fun K hK => ?_)
    refine skip_ (w1 := ?_) (by rfl) rfl ?_ ?_
    rotate_left
    ·go_simp
     rfl
    refine hK.out _ _ ?_
    clear hK K
    refine done_ (by kernel_rfl) ?_
    clear hxs hzs
    have n0_ := Aside0.mk (show (World.setCell w4 ⟨g2, I.toNat, none⟩ (.bool (!rdOf false u I))).heap[g]? = _ from blk_far (p := ⟨g2, I.toNat, none⟩) BK.out hne.2.2.1 (.bool (!rdOf false u I)))
    have n1_ := Aside0.mk (show FoR (World.setCell w4 ⟨g2, I.toNat, none⟩ (.bool (!rdOf false u I))) w0.heap.size g0 c0 g1 c1 g2 c2 g3 c3 b (d.set I.toNat X) (u.set I.toNat (!rdOf false u I)) (p.set 0 0) from FoR.put2 HF.out I _)
    have n2_ := Aside0.mk (Kept.setCell HK.out (p := ⟨g2, I.toNat, none⟩) (.inl (.inr (.inl rfl))) (.bool (!rdOf false u I)))
    have n3_ := Aside0.mk (show Below w0.heap.size w0 (World.setCell w4 ⟨g2, I.toNat, none⟩ (.bool (!rdOf false u I))) from Z6 HW.out (FoR.ge HF.out).2.2.1)
    clear BK HF HK HW
    have BK := n0_
    have HF := n1_
    have HK := n2_
    have HW := n3_
    clear n0_ n1_ n2_ n3_
    generalize World.setCell w4 ⟨g2, I.toNat, none⟩ (.bool (!rdOf false u I)) = w5 at BK HF HK HW ⊢
    go_wp2_with fail
    have n0_ := Aside0.mk (Z27 BK.out)
    have n1_ := Aside0.mk (FoR.drew HF.out)
    have n2_ := Aside0.mk (Kept.drew HK.out)
    have n3_ := Aside0.mk (Z4 HW.out)
    clear BK HF HK HW
    have BK := n0_
    have HF := n1_
    have HK := n2_
    have HW := n3_
    clear n0_ n1_ n2_ n3_
    refine start_ (n := 15) (S := fun w' => w'.cell? ⟨g, 3, none⟩ = some (.slice (some ⟨g3, 0, none⟩) p.length c3) ∧ w'.cell? ⟨g3, (J + 1).toNat, none⟩ = some (.int .i64 (rd (p.set 0 0) (J + 1)))) (ds := [14]) #[false, false, false, false, false, false, false, false, false, false, false, false, false, false, false] (by kernel_rfl) rfl rfl ⟨(Z24 BK.out 3).trans HS3.out, (FoR.at3 HF.out (J + 1) (by have := HL.out; omega) (by rw [List.length_set]; have := HL.out; omega)).1⟩ (fun hHeld => ?_)
    generalize World.drew _ = w6 at BK HF HK HW hHeld ⊢
    have hxs := (FoR.at3 HF.out J (by have := HL.out; omega) (by rw [List.length_set]; have := HL.out; omega)).1
    have hzs := (FoR.at3 HF.out J (by have := HL.out; omega) (by rw [List.length_set]; have := HL.out; omega)).2
    refine pure_ (i := 0) (N := some 94) (v := ?_) (a' := ?_) #[true, false, false, false, false, false, false, false, false, false, false, false, false, false, false] rfl rfl (by kernel_rfl) (fun _ _ _ h => h) (Or.inl ⟨by rfl, ?_⟩) ?_ ?_
    rotate_left
    ·intro w'
     go_simp
     with_reducible rfl
    rotate_left
    ·simp only [Act.put, Z0, Z1, Z2, i64_w, i32_w]
     rfl
    refine pure_ (i := 1) (N := some 95) (v := ?_) (a' := ?_) #[true, true, false, false, false, false, false, false, false, false, false, false, false, false, false] rfl rfl (by kernel_rfl) (fun _ _ _ h => h) (Or.inl ⟨by rfl, ?_⟩) ?_ ?_
    rotate_left
    ·intro w'
     go_simp
     with_reducible rfl
    rotate_left
    ·simp only [Act.put, Z0, Z1, Z2, i64_w, i32_w]
     rfl
    refine pure_ (i := 2) (N := some 96) (v := ?_) (a' := ?_) #[true, true, true, false, false, false, false, false, false, false, false, false, false, false, false] rfl rfl (by kernel_rfl) (fun _ _ _ h => h) (Or.inl ⟨by rfl, ?_⟩) ?_ ?_
    rotate_left
    ·intro w'
     go_simp
     with_reducible rfl
    rotate_left
    ·simp only [Act.put, Z0, Z1, Z2, i64_w, i32_w]
     rfl
    refine pure_ (i := 4) (N := some 98) (v := ?_) (a' := ?_) #[true, true, true, false, true, false, false, false, false, false, false, false, false, false, false] rfl rfl (by kernel_rfl) (fun _ _ _ h => h) (Or.inl ⟨by rfl, ?_⟩) ?_ ?_
    rotate_left
    ·intro w'
     go_simp
     with_reducible rfl
    rotate_left
    ·simp only [Act.put, Z0, Z1, Z2, i64_w, i32_w]
     rfl
    refine pure_ (i := 5) (N := some 99) (v := ?_) (a' := ?_) #[true, true, true, false, true, true, false, false, false, false, false, false, false, false, false] rfl rfl (by kernel_rfl) (fun _ _ _ h => h) (Or.inl ⟨by rfl, ?_⟩) ?_ ?_
    rotate_left
    ·intro w'
     go_simp
     with_reducible rfl
    rotate_left
    ·simp only [Act.put, Z0, Z1, Z2, i64_w, i32_w]
     rfl
    refine pure_ (i := 6) (N := some 100) (v := ?_) (a' := ?_) #[true, true, true, false, true, true, true, false, false, false, false, false, false, false, false] rfl rfl (by kernel_rfl) (fun _ _ _ h => h) (Or.inl ⟨by rfl, ?_⟩) ?_ ?_
    rotate_left
    ·intro w'
     go_simp
     with_reducible rfl
    rotate_left
    ·simp only [Act.put, Z0, Z1, Z2, i64_w, i32_w]
     rfl
    refine pure_ (i := 7) (N := some 101) (v := ?_) (a' := ?_) #[true, true, true, false, true, true, true, true, false, false, false, false, false, false, false] rfl rfl (by kernel_rfl) (fun _ _ _ h => h) (Or.inl ⟨by rfl, ?_⟩) ?_ ?_
    rotate_left
    ·intro w'
     go_simp
     with_reducible rfl
    rotate_left
    ·simp only [Act.put, Z0, Z1, Z2, i64_w, i32_w]
     rfl
    refine pure_ (i := 9) (N := some 103) (v := ?_) (a' := ?_) #[true, true, true, false, true, true, true, true, false, true, false, false, false, false, false] rfl rfl (by kernel_rfl) (fun _ _ _ h => h) (Or.inl ⟨by rfl, ?_⟩) ?_ ?_
    rotate_left
    ·intro w'
     go_simp
     with_reducible rfl
    rotate_left
    ·simp only [Act.put, Z0, Z1, Z2, i64_w, i32_w]
     rfl
    refine pure_ (i := 10) (N := some 104) (v := ?_) (a' := ?_) #[true, true, true, false, true, true, true, true, false, true, true, false, false, false, false] rfl rfl (by kernel_rfl) (fun _ _ _ h => h) (Or.inl ⟨by rfl, ?_⟩) ?_ ?_
    rotate_left
    ·intro w'
     go_simp
     with_reducible rfl
    rotate_left
    ·simp only [Act.put, Z0, Z1, Z2, i64_w, i32_w]
     rfl
    refine take_ (i := 3) (N := some 97) (v := ?_) (a' := ?_) #[true, true, true, true, true, true, true, true, false, true, true, false, false, false, false] rfl rfl (by kernel_rfl) (fun _ _ _ h => h) (Or.inl ⟨by rfl, ?_⟩) hHeld ?_ ?_
    rotate_left
    ·rintro w' ⟨s0, s1⟩
     go_simp
     with_reducible rfl
    rotate_left
    ·simp only [Act.put, Z0, Z1, Z2, i64_w, i32_w]
     rfl
    refine take_ (i := 8) (N := some 102) (v := ?_) (a' := ?_) #[true, true, true, true, true, true, true, true, true, true, true, false, false, false, false] rfl rfl (by kernel_rfl) (fun _ _ _ h => h) (Or.inl ⟨by rfl, ?_⟩) hHeld ?_ ?_
    rotate_left
    ·rintro w' ⟨s0, s1⟩
     go_simp
     with_reducible rfl
    rotate_left
    ·simp only [Act.put, Z0, Z1, Z2, i64_w, i32_w]
     rfl
    refine pure_ (i := 11) (N := some 105) (v := ?_) (a' := ?_) #[true, true, true, true, true, true, true, true, true, true, true, true, false, false, false] rfl rfl (by kernel_rfl) (fun _ _ _ h => h) (Or.inl ⟨by rfl, ?_⟩) ?_ ?_
    rotate_left
    ·intro w'
     go_simp
     with_reducible rfl
    rotate_left
    ·simp only [Act.put, Z0, Z1, Z2, i64_w, i32_w]
     rfl
    refine take_ (i := 12) (N := some 106) (v := ?_) (a' := ?_) #[true, true, true, true, true, true, true, true, true, true, true, true, true, false, false] rfl rfl (by kernel_rfl) (fun _ _ _ h => h) (Or.inl ⟨by rfl, ?_⟩) hHeld ?_ ?_
    rotate_left
    ·rintro w' ⟨s0, s1⟩
     go_simp
     with_reducible rfl
    rotate_left
    ·simp only [Act.put, Z0, Z1, Z2, i64_w, i32_w]
     rfl
    refine pure_ (i := 13) (N := some 107) (v := ?_) (a' := ?_) #[true, true, true, true, true, true, true, true, true, true, true, true, true, true, false] rfl rfl (by kernel_rfl) (fun _ _ _ h => h) (Or.inl ⟨by rfl, ?_⟩) ?_ ?_
    rotate_left
    ·intro w'
     go_simp
     with_reducible rfl
    rotate_left
    ·simp only [Act.put, Z0, Z1, Z2, i64_w, i32_w]
     rfl
    refine last_ (i := 14) (N := none) #[true, true, true, true, true, true, true, true, true, true, true, true, true, true, true] rfl rfl (by kernel_rfl) (by decide) (fun K hK => ?_)
    refine skip_ (w1 := ?_) (by rfl) rfl ?_ ?_
    rotate_left
    ·go_simp
     rfl
    refine hK.out _ _ ?_
    clear hK K
    refine done_ (by kernel_rfl) ?_
    clear hxs hzs
    have n0_ := Aside0.mk (show (World.setCell w6 ⟨g3, J.toNat, none⟩ (.int .i64 (rd (p.set 0 0) (J + 1)))).heap[g]? = _ from blk_far (p := ⟨g3, J.toNat, none⟩) BK.out hne.2.2.2 (.int .i64 (rd (p.set 0 0) (J + 1))))
    have n1_ := Aside0.mk (show FoR (World.setCell w6 ⟨g3, J.toNat, none⟩ (.int .i64 (rd (p.set 0 0) (J + 1)))) w0.heap.size g0 c0 g1 c1 g2 c2 g3 c3 b (d.set I.toNat X) (u.set I.toNat (!rdOf false u I)) ((p.set 0 0).set J.toNat (rd (p.set 0 0) (J + 1))) from FoR.put3 HF.out J _)
    have n2_ := Aside0.mk (Kept.setCell HK.out (p := ⟨g3, J.toNat, none⟩) (.inl (.inr (.inr rfl))) (.int .i64 (rd (p.set 0 0) (J + 1))))
    have n3_ := Aside0.mk (show Below w0.heap.size w0 (World.setCell w6 ⟨g3, J.toNat, none⟩ (.int .i64 (rd (p.set 0 0) (J + 1)))) from Z6 HW.out (FoR.ge HF.out).2.2.2)
    clear BK HF HK HW
    have BK := n0_
    have HF := n1_
    have HK := n2_
    have HW := n3_
    clear n0_ n1_ n2_ n3_
    generalize World.setCell w6 ⟨g3, J.toNat, none⟩ (.int .i64 (rd (p.set 0 0) (J + 1))) = w7 at BK HF HK HW ⊢
    have hc0 := (Z24 BK.out 0).trans HS0.out
    have hc1 := (Z24 BK.out 1).trans HS1.out
    have hc2 := (Z24 BK.out 2).trans HS2.out
    have hc3 := (Z24 BK.out 3).trans HS3.out
    have hxs := (FoR.at3 HF.out (J + 1) (by have := HL.out; omega) (by rw [List.length_set, List.length_set]; have := HL.out; omega)).1
    have hzs := (FoR.at3 HF.out (J + 1) (by have := HL.out; omega) (by rw [List.length_set, List.length_set]; have := HL.out; omega)).2
    go_upto_region 13 with fail
    clear hc0 hc1 hc2 hc3
    clear hxs hzs
    have n0_ := Aside0.mk (show (World.setCell w7 ⟨g3, (J + 1).toNat, none⟩ (.int .i64 (J + 1))).heap[g]? = _ from blk_far (p := ⟨g3, (J + 1).toNat, none⟩) BK.out hne.2.2.2 (.int .i64 (J + 1)))
    have n1_ := Aside0.mk (show FoR (World.setCell w7 ⟨g3, (J + 1).toNat, none⟩ (.int .i64 (J + 1))) w0.heap.size g0 c0 g1 c1 g2 c2 g3 c3 b (d.set I.toNat X) (u.set I.toNat (!rdOf false u I)) (((p.set 0 0).set J.toNat (rd (p.set 0 0) (J + 1))).set (J + 1).toNat (J + 1)) from FoR.put3 HF.out (J + 1) _)
    have n2_ := Aside0.mk (Kept.setCell HK.out (p := ⟨g3, (J + 1).toNat, none⟩) (.inl (.inr (.inr rfl))) (.int .i64 (J + 1)))
    have n3_ := Aside0.mk (show Below w0.heap.size w0 (World.setCell w7 ⟨g3, (J + 1).toNat, none⟩ (.int .i64 (J + 1))) from Z6 HW.out (FoR.ge HF.out).2.2.2)
    clear BK HF HK HW
    have BK := n0_
    have HF := n1_
    have HK := n2_
    have HW := n3_
    clear n0_ n1_ n2_ n3_
    generalize World.setCell w7 ⟨g3, (J + 1).toNat, none⟩ (.int .i64 (J + 1)) = w8 at BK HF HK HW ⊢
    go_wp2
    go_ret
    exact ⟨rfl, BK.out.trans HB0.out.symm, HF.out, HK.out, HW.out⟩
open Go.Proofs.Ytedijkelbdpcdaa.FoW in
theorem impl_Focus_step.calls (w0 : World) (g g0 c0 g1 c1 g2 c2 g3 c3 : Nat) (b d : List Int) (u : List Bool) (p d' : List Int) (u' : List Bool) (p' : List Int) (r : Int) (w : World)
  (hb : w.heap[g]? = some (.cells #[.slice (some ⟨g0, 0, none⟩) b.length c0, .slice (some ⟨g1, 0, none⟩) d.length c1, .slice (some ⟨g2, 0, none⟩) u.length c2, .slice (some ⟨g3, 0, none⟩) p.length c3] 29 (0, 0))) (hF : FoR w w0.heap.size g0 c0 g1 c1 g2 c2 g3 c3 b d u p) (hW : Below w0.heap.size w0 w) (h : stepF b d u p = some (d', u', p', r)) :
  Calls Try.prog 55 #[.pointer (some ⟨g, 0, none⟩)] w fun e w' => e = .returned (.int .i64 r) ∧ w'.heap[g]? = w.heap[g]? ∧ FoR w' w0.heap.size g0 c0 g1 c1 g2 c2 g3 c3 b d' u' p' ∧ Kept w w' (Wr g1 g2 g3) ∧ Below w0.heap.size w0 w' :=
 impl_Focus_step.callsG _ _ (by decide) w0 g g0 c0 g1 c1 g2 c2 g3 c3 b d u p d' u' p' r w rfl rfl rfl rfl hb hF hW h
end Go.Proofs.Ytedijkelbdpcdaa.MFnExactRunSwapper
