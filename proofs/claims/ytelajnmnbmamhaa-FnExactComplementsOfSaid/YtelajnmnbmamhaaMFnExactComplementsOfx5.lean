/- Functions of the program as Lean functions, each with the proof that its call comes to just that: laid for this claim by this session's own program. -/
import Derived.Test.YtelajnmnbmamhaaMFnExactComplementsOfx0
import Derived.Test.YtelajnmnbmamhaaMFnExactComplementsOfx1
import Derived.Test.YtelajnmnbmamhaaMFnExactComplementsOfx2
import Derived.Test.YtelajnmnbmamhaaMFnExactComplementsOfx3
import Derived.Test.YtelajnmnbmamhaaMFnExactComplementsOfx4
namespace Go.Proofs.Ytelajnmnbmamhaa.MFnExactComplementsOf
open Go.RowKit Go.Proofs.YtelajnmnbmamhaaW.PrintWords Go.Proofs.YtelajnmnbmamhaaW.PrintLast Go.Proofs.YtelajnmnbmamhaaW.PrintMore
attribute [local go_sem] max2_int min2_int max_two min_two max_three min_three max_four min_four   -- for this text's walks alone
set_option linter.unusedVariables false
set_option linter.unusedSimpArgs false

/-! ### laws_FnExactComplementsOf: function 4 -/
/-- What is to be shown where nothing is too long: both sides come to one list, and the law's own functions go through. -/
def laws_FnExactComplementsOf.Main (k : Nat) (a0 : Int) (l1 : List (List Int)) : Prop := ∃ (L L' : List (List Int)) (b : Bool) (m : Int) (e1 : List (List Int)) (K1 : Int), laws_toIntSS.f k l1 = some l1 ∧ laws_eqIntSS.f k l1 l1 = some true ∧ laws_markIntSS.f k l1 1 = some (K1, e1) ∧ 0 ≤ K1 ∧ spec_ComplementsOf.f k a0 l1 = some (L, b) ∧ impl_ComplementsOf.f k a0 l1 = some (L, b) ∧ laws_eqIntSS.f k L L = some true ∧ laws_markIntSS.f k L 1 = some (m, L') ∧ laws_heldIntSS.f k L' 1 = some m ∧ 0 ≤ m ∧ L'.length = L.length
/-- What is to be shown. -/
def laws_FnExactComplementsOf.Fine (k : Nat) (a0 : Int) (l1 : List (List Int)) : Prop := ∃ s0, laws_szIntSS.f k l1 1048576 = some s0 ∧ (s0 < 0 ∨ (0 ≤ s0 ∧ laws_FnExactComplementsOf.Main k a0 l1))
set_option maxHeartbeats 8000000 in
set_option maxRecDepth 100000 in
theorem laws_FnExactComplementsOf.calls (k : Nat) (a0 : Int) (A1 : Option Addr) (c1 : Nat) (l1 : List (List Int)) (w : World) (hr1 : Kd.C (Kd.slice 3 (Kd.int .i64)) w A1 l1.length l1) (hc1 : l1.length ≤ c1) (h : laws_FnExactComplementsOf.Fine k a0 l1) :
    Calls Try.prog 4 #[.int .i64 a0, .slice A1 l1.length c1] w fun e w' => e = .returned (.bool true) ∧ Below w.heap.size w w' := by
  have HR1 := Aside0.mk hr1
  have HC1 := Aside0.mk hc1
  clear hr1 hc1
  unfold laws_FnExactComplementsOf.Fine at h
  obtain ⟨s0, hs, h⟩ := h
  have HS0_ := Aside0.mk hs
  clear hs
  rcases h with h | ⟨h0, h⟩
  · have cs0 : decide (s0 < 0) = true := decide_eq_true h
    clear h
    go_enter Try.func4, Try.ntmps4
    go_wp2_with fail
    refine (laws_szIntSS.calls k A1 c1 l1 1048576 s0 _ (Kd.C_below HR1.out (Below.refl _ _)) HC1.out HS0_.out).mono ?_
    rintro e wq0 ⟨rfl, hd⟩
    have HBq0 := Aside0.mk (Drawn0.below hd)
    clear hd
    go_wp2
    go_ret
    exact ⟨rfl, HBq0.out⟩
  have cs0 : decide (s0 < 0) = false := decide_eq_false (by omega)
  clear h0
  unfold laws_FnExactComplementsOf.Main at h
  obtain ⟨L, L', b, m, e1, K1, t1, q1, k1, hK, hs, hi, hq, hm, hh, h0, hl⟩ := h
  have Ht1 := Aside0.mk t1
  have Hq1 := Aside0.mk q1
  have Hk1 := Aside0.mk k1
  have Hhs := Aside0.mk hs
  have Hhi := Aside0.mk hi
  have Hhq := Aside0.mk hq
  have Hhm := Aside0.mk hm
  have Hhh := Aside0.mk hh
  have Hhl := Aside0.mk hl
  clear t1 q1 k1 hs hi hq hm hh hl
  have cK : decide (K1 < 0) = false := decide_eq_false (by omega)
  have cm : decide (m < 0) = false := decide_eq_false (by omega)
  clear hK h0
  cases b <;>
  · skip
    go_enter Try.func4, Try.ntmps4
    go_wp2_with fail
    refine (laws_szIntSS.calls k A1 c1 l1 1048576 s0 _ (Kd.C_below HR1.out (Below.refl _ _)) HC1.out HS0_.out).mono ?_
    rintro e wq0 ⟨rfl, hd⟩
    have HBq0 := Aside0.mk (Drawn0.below hd)
    clear hd
    obtain ⟨w1, hw1⟩ : ∃ w1_ : World, w1_ = wq0 := ⟨_, rfl⟩
    subst hw1
    have HB := HBq0
    clear HBq0
    go_wp2_with fail
    refine (laws_toIntSS.calls k A1 c1 l1 l1 _ (Kd.C_below HR1.out HB.out) HC1.out Ht1.out).mono ?_
    rintro e w2 ⟨v2, rfl, ho, hd⟩
    have hb : Below w1.heap.size w1 w2 := by first | exact hd | exact Drawn0.below hd
    clear hd
    have HZs_1_2 := Aside0.mk hb.size
    have n0_ := Aside0.mk (HB.out.trans (hb.mono HB.out.size))
    clear HB
    have HB := n0_
    clear hb n0_
    obtain ⟨Xs1, ys1, rfl⟩ := Kd.R_slice (Kd.S_R ho)
    have HXs1 := Aside0.mk (Kd.R_reads' (Kd.S_R ho))
    clear ho
    have HYs1 := Aside0.mk HXs1.out.2.1
    have HZs1 := Aside0.mk HXs1.out.2.2
    clear HXs1
    go_wp2_with fail
    refine (spec_ComplementsOf.calls k a0 Xs1 ys1 l1 L _ _ HZs1.out HYs1.out Hhs.out).mono ?_
    rintro e w3 ⟨v3, rfl, ho, hd⟩
    have hb : Below w2.heap.size w2 w3 := by first | exact hd | exact Drawn0.below hd
    clear hd
    have HZs_2_3 := Aside0.mk hb.size
    have n0_ := Aside0.mk (HB.out.trans (hb.mono HB.out.size))
    have n1_ := Aside0.mk (Kd.C_below HZs1.out hb)
    clear HB
    clear HZs1
    have HB := n0_
    have HZs1 := n1_
    clear hb n0_ n1_
    clear HZs1 HYs1
    obtain ⟨A0_, c0_, rfl, hc0_, hC0_⟩ : ∃ A c, v3 = .slice A L.length c ∧ L.length ≤ c ∧ Kd.C (Kd.slice 3 (Kd.int .i64)) w3 A L.length L := by
      first
      | (obtain ⟨A, c, rfl⟩ := Kd.N_slice ho; exact ⟨A, c, rfl, (Kd.N_reads' ho).2.1, (Kd.N_reads' ho).2.2⟩)
      | (obtain ⟨A, c, rfl⟩ := Kd.R_slice ho; exact ⟨A, c, rfl, (Kd.R_reads' ho).2.1, (Kd.R_reads' ho).2.2⟩)
      | (obtain ⟨A, c, rfl⟩ := Kd.R_slice (Kd.S_R ho); exact ⟨A, c, rfl, (Kd.R_reads' (Kd.S_R ho)).2.1, (Kd.R_reads' (Kd.S_R ho)).2.2⟩)
    have HC0_ := Aside0.mk hC0_
    have Hc0_ := Aside0.mk hc0_
    clear hC0_ hc0_ ho
    have HBa := Aside0.mk (Below.refl w3.heap.size w3)
    have HBwa := Aside0.mk HB.out
    have HC0a := Aside0.mk HC0_.out
    go_wp2_with fail
    refine (laws_toIntSS.calls k A1 c1 l1 l1 _ (Kd.C_below HR1.out HB.out) HC1.out Ht1.out).mono ?_
    rintro e w4 ⟨v4, rfl, ho, hd⟩
    have hb : Below w3.heap.size w3 w4 := by first | exact hd | exact Drawn0.below hd
    clear hd
    have HZs_3_4 := Aside0.mk hb.size
    have n0_ := Aside0.mk (HB.out.trans (hb.mono HB.out.size))
    have n1_ := Aside0.mk (Kd.C_below HC0_.out hb)
    have n2_ := Aside0.mk (HBa.out.trans (hb.mono HBa.out.size))
    clear HB
    clear HC0_
    clear HBa
    have HB := n0_
    have HC0_ := n1_
    have HBa := n2_
    clear hb n0_ n1_ n2_
    obtain ⟨Xx1, yx1, rfl⟩ := Kd.R_slice (Kd.S_R ho)
    have HO1 := Aside0.mk (show Kd.S (Kd.slice 3 (Kd.int .i64)) 22 w4 w3.heap.size (fun k_ => w3.heap.size ≤ k_ ∧ k_ < w4.heap.size) (.slice Xx1 l1.length yx1) l1 from Kd.S_lower (Kd.S_mono (Kd.S_bound ho) (fun k_ hk => by first | exact ⟨hk.2.1, hk.2.2⟩ | (and_intros <;> first | exact hk.1 | exact hk.2 | exact hk.1.1 | exact hk.1.2 | exact hk.2.1 | exact hk.2.2 | exact hk.1.1.1 | exact hk.1.1.2 | exact hk.1.2.1 | exact hk.1.2.2 | exact hk.2.1.1 | exact hk.2.1.2 | exact hk.2.2.1 | exact hk.2.2.2 | trivial))) (Nat.le_refl _))
    clear ho
    have HBa_4 := Aside0.mk HBa.out
    go_wp2_with fail
    refine (impl_ComplementsOf.calls k a0 Xx1 yx1 l1 L _ _ (Kd.R_reads' (Kd.S_R HO1.out)).2.2 (Kd.R_reads' (Kd.S_R HO1.out)).2.1 Hhi.out).mono ?_
    rintro e w5 ⟨v5, rfl, ho, hd⟩
    have hb : Below w4.heap.size w4 w5 := by first | exact hd | exact Drawn0.below hd
    clear hd
    have HZs_4_5 := Aside0.mk hb.size
    have n0_ := Aside0.mk (HB.out.trans (hb.mono HB.out.size))
    have n1_ := Aside0.mk (Kd.C_below HC0_.out hb)
    have n2_ := Aside0.mk (Kd.S_below HO1.out hb)
    have n3_ := Aside0.mk (HBa.out.trans (hb.mono HBa.out.size))
    clear HB
    clear HC0_
    clear HO1
    clear HBa
    have HB := n0_
    have HC0_ := n1_
    have HO1 := n2_
    have HBa := n3_
    clear hb n0_ n1_ n2_ n3_
    obtain ⟨A1_, c1_, rfl⟩ := Kd.R_slice (Kd.S_R ho)
    have HG := Aside0.mk (show Kd.S (Kd.slice 3 (Kd.int .i64)) 22 w5 w3.heap.size (fun k_ => w4.heap.size ≤ k_) (.slice A1_ L.length c1_) L from Kd.S_lower (Kd.S_mono (Kd.S_bound ho) (fun k_ hk => by first | exact hk.2.1 | (and_intros <;> first | exact hk.1 | exact hk.2 | exact hk.1.1 | exact hk.1.2 | exact hk.2.1 | exact hk.2.2 | exact hk.1.1.1 | exact hk.1.1.2 | exact hk.1.2.1 | exact hk.1.2.2 | exact hk.2.1.1 | exact hk.2.1.2 | exact hk.2.2.1 | exact hk.2.2.2 | trivial))) HBa_4.out.size)
    clear ho
    go_wp2_with fail
    refine (laws_eqIntSS.calls k A1_ c1_ L A0_ c0_ L true _ (Kd.R_reads' (Kd.S_R HG.out)).2.2 (Kd.R_reads' (Kd.S_R HG.out)).2.1 HC0_.out Hc0_.out Hhq.out).mono ?_
    rintro e w6 ⟨rfl, hd⟩
    have hb : Below w5.heap.size w5 w6 := by first | exact hd | exact Drawn0.below hd
    clear hd
    have HZs_5_6 := Aside0.mk hb.size
    have n0_ := Aside0.mk (HB.out.trans (hb.mono HB.out.size))
    have n1_ := Aside0.mk (Kd.C_below HC0_.out hb)
    have n2_ := Aside0.mk (Kd.S_below HO1.out hb)
    have n3_ := Aside0.mk (Kd.S_below HG.out hb)
    have n4_ := Aside0.mk (HBa.out.trans (hb.mono HBa.out.size))
    clear HB
    clear HC0_
    clear HO1
    clear HG
    clear HBa
    have HB := n0_
    have HC0_ := n1_
    have HO1 := n2_
    have HG := n3_
    have HBa := n4_
    clear hb n0_ n1_ n2_ n3_ n4_
    go_wp2_with fail
    refine (laws_toIntSS.calls k A1 c1 l1 l1 _ (Kd.C_below HR1.out HB.out) HC1.out Ht1.out).mono ?_
    rintro e w7 ⟨v7, rfl, ho, hd⟩
    have hb : Below w6.heap.size w6 w7 := by first | exact hd | exact Drawn0.below hd
    clear hd
    have HZs_6_7 := Aside0.mk hb.size
    have n0_ := Aside0.mk (HB.out.trans (hb.mono HB.out.size))
    have n1_ := Aside0.mk (Kd.C_below HC0_.out hb)
    have n2_ := Aside0.mk (Kd.S_below HO1.out hb)
    have n3_ := Aside0.mk (Kd.S_below HG.out hb)
    have n4_ := Aside0.mk (HBa.out.trans (hb.mono HBa.out.size))
    clear HB
    clear HC0_
    clear HO1
    clear HG
    clear HBa
    have HB := n0_
    have HC0_ := n1_
    have HO1 := n2_
    have HG := n3_
    have HBa := n4_
    clear hb n0_ n1_ n2_ n3_ n4_
    obtain ⟨Xz1, yz1, rfl⟩ := Kd.R_slice (Kd.S_R ho)
    have HXz := Aside0.mk (Kd.R_reads' (Kd.S_R ho))
    clear ho
    go_wp2_with fail
    refine (laws_eqIntSS.calls k Xx1 yx1 l1 Xz1 yz1 l1 true _ (Kd.R_reads' (Kd.S_R HO1.out)).2.2 (Kd.R_reads' (Kd.S_R HO1.out)).2.1 HXz.out.2.2 HXz.out.2.1 Hq1.out).mono ?_
    rintro e w8 ⟨rfl, hd⟩
    have hb : Below w7.heap.size w7 w8 := by first | exact hd | exact Drawn0.below hd
    clear hd
    have HZs_7_8 := Aside0.mk hb.size
    have n0_ := Aside0.mk (HB.out.trans (hb.mono HB.out.size))
    have n1_ := Aside0.mk (Kd.C_below HC0_.out hb)
    have n2_ := Aside0.mk (Kd.S_below HO1.out hb)
    have n3_ := Aside0.mk (Kd.S_below HG.out hb)
    have n4_ := Aside0.mk (HBa.out.trans (hb.mono HBa.out.size))
    clear HB
    clear HC0_
    clear HO1
    clear HG
    clear HBa
    have HB := n0_
    have HC0_ := n1_
    have HO1 := n2_
    have HG := n3_
    have HBa := n4_
    clear hb n0_ n1_ n2_ n3_ n4_
    clear HXz
    go_wp2_with fail
    refine (laws_markIntSS.calls k (fun k_ => w3.heap.size ≤ k_ ∧ k_ < w4.heap.size) (.slice Xx1 l1.length yx1) l1 1 K1 e1 w3 w8 HBa.out HO1.out Hk1.out).mono ?_
    rintro e w9 ⟨rfl, ho, hb, hk⟩
    have HBn := Aside0.mk hb
    have HKn := Aside0.mk hk
    clear ho hb hk
    have n0_ := Aside0.mk (Kd.S_step HG.out (fun k_ hk h_ => HKn.out.2 k_ h_ (fun ho_ => absurd (Nat.lt_of_le_of_lt hk ho_.2) (Nat.not_lt.2 (Nat.le_refl _)))))
    have n1_ := Aside0.mk (Kd.C_below HC0a.out HBn.out)
    have n2_ := Aside0.mk (HBwa.out.trans (HBn.out.mono HBwa.out.size))
    have n3_ := Aside0.mk (HBn.out)
    clear HG
    clear HC0_
    clear HB
    clear HBa
    have HG := n0_
    have HC0_ := n1_
    have HB := n2_
    have HBa := n3_
    clear HKn HBn HO1 n0_ n1_ n2_ n3_
    go_wp2_with fail
    refine (laws_eqIntSS.calls k A1_ c1_ L A0_ c0_ L true _ (Kd.R_reads' (Kd.S_R HG.out)).2.2 (Kd.R_reads' (Kd.S_R HG.out)).2.1 HC0_.out Hc0_.out Hhq.out).mono ?_
    rintro e w10 ⟨rfl, hd⟩
    have hb : Below w9.heap.size w9 w10 := by first | exact hd | exact Drawn0.below hd
    clear hd
    have HZs_9_10 := Aside0.mk hb.size
    have n0_ := Aside0.mk (HB.out.trans (hb.mono HB.out.size))
    have n1_ := Aside0.mk (Kd.C_below HC0_.out hb)
    have n2_ := Aside0.mk (Kd.S_below HG.out hb)
    have n3_ := Aside0.mk (HBa.out.trans (hb.mono HBa.out.size))
    clear HB
    clear HC0_
    clear HG
    clear HBa
    have HB := n0_
    have HC0_ := n1_
    have HG := n2_
    have HBa := n3_
    clear hb n0_ n1_ n2_ n3_
    go_wp2_with fail
    refine (laws_markIntSS.calls k (fun k_ => w4.heap.size ≤ k_) (.slice A1_ L.length c1_) L 1 m L' w3 w10 HBa.out HG.out Hhm.out).mono ?_
    rintro e w11 ⟨rfl, ho, hb, hk⟩
    have HBn := Aside0.mk hb
    have HGn := Aside0.mk ho
    clear ho hb hk HG
    have n0_ := Aside0.mk (Kd.C_below HC0a.out HBn.out)
    have n1_ := Aside0.mk (HBwa.out.trans (HBn.out.mono HBwa.out.size))
    have n2_ := Aside0.mk (HBn.out)
    clear HC0_
    clear HB
    clear HBa
    have HC0_ := n0_
    have HB := n1_
    have HBa := n2_
    clear HBn n0_ n1_ n2_
    obtain ⟨hn4, hc4, hC4⟩ := Kd.R_reads' (Kd.S_R HGn.out)
    have HC4 := Aside0.mk hC4
    have Hc4 := Aside0.mk (show L'.length ≤ c1_ by have := Hhl.out; omega)
    clear hn4 hc4 hC4 HGn
    clear HBa
    go_wp2_with fail
    have h40 := laws_heldIntSS.calls k A1_ c1_ L' 1 m w11 HC4.out Hc4.out Hhh.out
    rw [Hhl.out] at h40
    refine h40.mono ?_
    clear h40
    rintro e w12 ⟨rfl, hd⟩
    have hb : Below w11.heap.size w11 w12 := by first | exact hd | exact Drawn0.below hd
    clear hd
    have n0_ := Aside0.mk (HB.out.trans (hb.mono HB.out.size))
    have n1_ := Aside0.mk (Kd.C_below HC0_.out hb)
    have n2_ := Aside0.mk (Kd.C_below HC4.out hb)
    clear HB
    clear HC0_
    clear HC4
    have HB := n0_
    have HC0_ := n1_
    have HC4 := n2_
    clear hb n0_ n1_ n2_
    go_wp2_with fail
    refine (laws_toIntSS.calls k A1 c1 l1 l1 _ (Kd.C_below HR1.out HB.out) HC1.out Ht1.out).mono ?_
    rintro e w13 ⟨v13, rfl, ho, hd⟩
    have hb : Below w12.heap.size w12 w13 := by first | exact hd | exact Drawn0.below hd
    clear hd
    have HZs_12_13 := Aside0.mk hb.size
    have n0_ := Aside0.mk (HB.out.trans (hb.mono HB.out.size))
    have n1_ := Aside0.mk (Kd.C_below HC0_.out hb)
    have n2_ := Aside0.mk (Kd.C_below HC4.out hb)
    clear HB
    clear HC0_
    clear HC4
    have HB := n0_
    have HC0_ := n1_
    have HC4 := n2_
    clear hb n0_ n1_ n2_
    obtain ⟨Xh1, yh1, rfl⟩ := Kd.R_slice (Kd.S_R ho)
    have HXh1 := Aside0.mk (Kd.R_reads' (Kd.S_R ho))
    clear ho
    have HYh1 := Aside0.mk HXh1.out.2.1
    have HZh1 := Aside0.mk HXh1.out.2.2
    clear HXh1
    go_wp2_with fail
    refine (impl_ComplementsOf.calls k a0 Xh1 yh1 l1 L _ _ HZh1.out HYh1.out Hhi.out).mono ?_
    rintro e w14 ⟨v14, rfl, ho, hd⟩
    have hb : Below w13.heap.size w13 w14 := by first | exact hd | exact Drawn0.below hd
    clear hd
    have HZs_13_14 := Aside0.mk hb.size
    have n0_ := Aside0.mk (HB.out.trans (hb.mono HB.out.size))
    have n1_ := Aside0.mk (Kd.C_below HC0_.out hb)
    have n2_ := Aside0.mk (Kd.C_below HC4.out hb)
    have n3_ := Aside0.mk (Kd.C_below HZh1.out hb)
    clear HB
    clear HC0_
    clear HC4
    clear HZh1
    have HB := n0_
    have HC0_ := n1_
    have HC4 := n2_
    have HZh1 := n3_
    clear hb n0_ n1_ n2_ n3_
    clear HZh1 HYh1
    obtain ⟨A2_, c2_, rfl⟩ := Kd.R_slice (Kd.S_R ho)
    have HXh := Aside0.mk (Kd.R_reads' (Kd.S_R ho))
    clear ho
    go_wp2_with fail
    refine (laws_eqIntSS.calls k A2_ c2_ L A0_ c0_ L true _ HXh.out.2.2 HXh.out.2.1 HC0_.out Hc0_.out Hhq.out).mono ?_
    rintro e w15 ⟨rfl, hd⟩
    have hb : Below w14.heap.size w14 w15 := by first | exact hd | exact Drawn0.below hd
    clear hd
    have HZs_14_15 := Aside0.mk hb.size
    have n0_ := Aside0.mk (HB.out.trans (hb.mono HB.out.size))
    have n1_ := Aside0.mk (Kd.C_below HC0_.out hb)
    have n2_ := Aside0.mk (Kd.C_below HC4.out hb)
    clear HB
    clear HC0_
    clear HC4
    have HB := n0_
    have HC0_ := n1_
    have HC4 := n2_
    clear hb n0_ n1_ n2_
    go_wp2_with fail
    have h40 := laws_heldIntSS.calls k A1_ c1_ L' 1 m w15 HC4.out Hc4.out Hhh.out
    rw [Hhl.out] at h40
    refine h40.mono ?_
    clear h40
    rintro e w16 ⟨rfl, hd⟩
    have hb : Below w15.heap.size w15 w16 := by first | exact hd | exact Drawn0.below hd
    clear hd
    have n0_ := Aside0.mk (HB.out.trans (hb.mono HB.out.size))
    have n1_ := Aside0.mk (Kd.C_below HC0_.out hb)
    have n2_ := Aside0.mk (Kd.C_below HC4.out hb)
    clear HB
    clear HC0_
    clear HC4
    have HB := n0_
    have HC0_ := n1_
    have HC4 := n2_
    clear hb n0_ n1_ n2_
    go_wp2
    go_ret
    exact ⟨rfl, HB.out⟩

end Go.Proofs.Ytelajnmnbmamhaa.MFnExactComplementsOf
