/- Functions of the program as Lean functions, each with the proof that its call comes to just that: laid for this claim by this session's own program. -/
import Derived.Test.YtpfakdhfffehaaaMFnExactSwapperAtx0
import Derived.Test.YtpfakdhfffehaaaMFnExactSwapperAtx7
import Derived.Test.YtpfakdhfffehaaaMFnExactSwapperAtx12
import Derived.Test.YtpfakdhfffehaaaMFnExactSwapperAtx13
namespace Go.Proofs.Ytpfakdhfffehaaa.MFnExactSwapperAt
open Go.RowKit Go.Proofs.YtpfakdhfffehaaaW.PrintWords Go.Proofs.YtpfakdhfffehaaaW.PrintLast Go.Proofs.YtpfakdhfffehaaaW.PrintMore
attribute [local go_sem] max2_int min2_int max_two min_two max_three min_three max_four min_four   -- for this text's walks alone
set_option linter.unusedVariables false
set_option linter.unusedSimpArgs false

/-! ### laws_FnExactSwapperAt: function 4 -/
/-- What is to be shown: both sides come to one state, and the law's own functions go through. -/
def laws_FnExactSwapperAt.Fine (k : Nat) (a0 a1 : Int) : Prop := ∃ (b : List Int) (d : List Int) (u : List Bool) (p : List Int) (it : List Int) (wh : List Int) (b1 : List Int) (d1 : List Int) (u1 : List Bool) (p1 : List Int) (it1 : List Int) (wh1 : List Int) (o : Bool) (m : Int), spec_SwapperAt.f k a0 a1 = some (b, d, u, p, it, wh, o) ∧ impl_SwapperAt.f k a0 a1 = some (b, d, u, p, it, wh, o) ∧ laws_eqSwapper.f k b d u p it wh b d u p it wh = some true ∧ laws_markSwapper.f k b d u p it wh 1 = some (m, b1, d1, u1, p1, it1, wh1) ∧ laws_heldSwapper.f k b1 d1 u1 p1 it1 wh1 1 = some m ∧ 0 ≤ m
open Go.Proofs.Ytpfakdhfffehaaa.FoW Go.Proofs.Ytpfakdhfffehaaa.SwW Go.Proofs.Ytpfakdhfffehaaa.SwL in
theorem laws_FnExactSwapperAt.eqS {k : Nat} {w : World} {s1 s2 : Nat} {A0 : Option Addr} {c0 : Nat} {A1 : Option Addr} {c1 : Nat} {A2 : Option Addr} {c2 : Nat} {A3 : Option Addr} {c3 : Nat} {A4 : Option Addr} {c4 : Nat} {A5 : Option Addr} {c5 : Nat} {B0 : Option Addr} {e0 : Nat} {B1 : Option Addr} {e1 : Nat} {B2 : Option Addr} {e2 : Nat} {B3 : Option Addr} {e3 : Nat} {B4 : Option Addr} {e4 : Nat} {B5 : Option Addr} {e5 : Nat} {b : List Int} {d : List Int} {u : List Bool} {p : List Int} {it : List Int} {wh : List Int} (h1 : SwC w s1 (.slice A0 b.length c0) (.slice A1 d.length c1) (.slice A2 u.length c2) (.slice A3 p.length c3) (.slice A4 it.length c4) (.slice A5 wh.length c5) b d u p it wh) (h2 : SwC w s2 (.slice B0 b.length e0) (.slice B1 d.length e1) (.slice B2 u.length e2) (.slice B3 p.length e3) (.slice B4 it.length e4) (.slice B5 wh.length e5) b d u p it wh) (he : laws_eqSwapper.f k b d u p it wh b d u p it wh = some true) :
  Calls Try.prog 17 #[.agg #[.slice A0 b.length c0, .slice A1 d.length c1, .slice A2 u.length c2, .slice A3 p.length c3, .slice A4 it.length c4, .slice A5 wh.length c5], .agg #[.slice B0 b.length e0, .slice B1 d.length e1, .slice B2 u.length e2, .slice B3 p.length e3, .slice B4 it.length e4, .slice B5 wh.length e5]] w fun e w' => e = .returned (.bool true) ∧ Below w.heap.size w w' :=
 laws_eqSwapper.calls k _ _ b _ _ d _ _ u _ _ p _ _ it _ _ wh _ _ b _ _ d _ _ u _ _ p _ _ it _ _ wh true w (Kd.R_reads' h1.r0).2.2 (Kd.R_reads' h1.r0).2.1 (Kd.R_reads' h1.r1).2.2 (Kd.R_reads' h1.r1).2.1 (Kd.R_reads' h1.r2).2.2 (Kd.R_reads' h1.r2).2.1 (Kd.R_reads' h1.r3).2.2 (Kd.R_reads' h1.r3).2.1 (Kd.R_reads' h1.r4).2.2 (Kd.R_reads' h1.r4).2.1 (Kd.R_reads' h1.r5).2.2 (Kd.R_reads' h1.r5).2.1 (Kd.R_reads' h2.r0).2.2 (Kd.R_reads' h2.r0).2.1 (Kd.R_reads' h2.r1).2.2 (Kd.R_reads' h2.r1).2.1 (Kd.R_reads' h2.r2).2.2 (Kd.R_reads' h2.r2).2.1 (Kd.R_reads' h2.r3).2.2 (Kd.R_reads' h2.r3).2.1 (Kd.R_reads' h2.r4).2.2 (Kd.R_reads' h2.r4).2.1 (Kd.R_reads' h2.r5).2.2 (Kd.R_reads' h2.r5).2.1 he
open Go.Proofs.Ytpfakdhfffehaaa.FoW Go.Proofs.Ytpfakdhfffehaaa.SwW Go.Proofs.Ytpfakdhfffehaaa.SwL in
theorem laws_FnExactSwapperAt.heldS {k : Nat} {w : World} {s : Nat} {m : Int} {A0 : Option Addr} {c0 : Nat} {A1 : Option Addr} {c1 : Nat} {A2 : Option Addr} {c2 : Nat} {A3 : Option Addr} {c3 : Nat} {A4 : Option Addr} {c4 : Nat} {A5 : Option Addr} {c5 : Nat} {b : List Int} {d : List Int} {u : List Bool} {p : List Int} {it : List Int} {wh : List Int} {b1 : List Int} {d1 : List Int} {u1 : List Bool} {p1 : List Int} {it1 : List Int} {wh1 : List Int} (h : SwC w s (.slice A0 b.length c0) (.slice A1 d.length c1) (.slice A2 u.length c2) (.slice A3 p.length c3) (.slice A4 it.length c4) (.slice A5 wh.length c5) b1 d1 u1 p1 it1 wh1) (hh : laws_heldSwapper.f k b1 d1 u1 p1 it1 wh1 1 = some m) :
  Calls Try.prog 19 #[.agg #[.slice A0 b.length c0, .slice A1 d.length c1, .slice A2 u.length c2, .slice A3 p.length c3, .slice A4 it.length c4, .slice A5 wh.length c5], .int .i64 1] w fun e w' => e = .returned (.int .i64 m) ∧ Below w.heap.size w w' := by
 rw [(Kd.R_reads' h.r0).1, (Kd.R_reads' h.r1).1, (Kd.R_reads' h.r2).1, (Kd.R_reads' h.r3).1, (Kd.R_reads' h.r4).1, (Kd.R_reads' h.r5).1]
 exact laws_heldSwapper.calls k _ _ b1 _ _ d1 _ _ u1 _ _ p1 _ _ it1 _ _ wh1 1 m w (Kd.R_reads' h.r0).2.2 (by have h_ := Kd.R_reads' h.r0; omega) (Kd.R_reads' h.r1).2.2 (by have h_ := Kd.R_reads' h.r1; omega) (Kd.R_reads' h.r2).2.2 (by have h_ := Kd.R_reads' h.r2; omega) (Kd.R_reads' h.r3).2.2 (by have h_ := Kd.R_reads' h.r3; omega) (Kd.R_reads' h.r4).2.2 (by have h_ := Kd.R_reads' h.r4; omega) (Kd.R_reads' h.r5).2.2 (by have h_ := Kd.R_reads' h.r5; omega) hh
open Go.Proofs.Ytpfakdhfffehaaa.FoW Go.Proofs.Ytpfakdhfffehaaa.SwW Go.Proofs.Ytpfakdhfffehaaa.SwL in
theorem laws_FnExactSwapperAt.markS {k : Nat} {w0 w : World} {m : Int} {v0 v1 v2 v3 v4 v5 : Value} {b : List Int} {d : List Int} {u : List Bool} {p : List Int} {it : List Int} {wh : List Int} {b1 : List Int} {d1 : List Int} {u1 : List Bool} {p1 : List Int} {it1 : List Int} {wh1 : List Int} (hB : Below w0.heap.size w0 w) (h : SwV w w0.heap.size v0 v1 v2 v3 v4 v5 b d u p it wh) (hm : laws_markSwapper.f k b d u p it wh 1 = some (m, b1, d1, u1, p1, it1, wh1)) :
  Calls Try.prog 18 #[.agg #[v0, v1, v2, v3, v4, v5], .int .i64 1] w fun e w' => e = .returned (.int .i64 m) ∧ SwC w' w0.heap.size v0 v1 v2 v3 v4 v5 b1 d1 u1 p1 it1 wh1 ∧ Below w0.heap.size w0 w' ∧ Kept w w' (OwnS v0 v1 v2 v3 v4 v5) := by
 refine (laws_markSwapper.calls k (fun k_ => some k_ = v0.ownBlock) v0 b (fun k_ => some k_ = v1.ownBlock) v1 d (fun k_ => some k_ = v2.ownBlock) v2 u (fun k_ => some k_ = v3.ownBlock) v3 p (fun k_ => some k_ = v4.ownBlock) v4 it (fun k_ => some k_ = v5.ownBlock) v5 wh 1 m b1 d1 u1 p1 it1 wh1 w0 w hB (Kd.R_tight rfl h.r0) (fun k_ h0_ h1_ => (h.r0.1 k_ h0_.symm).1 h1_) (fun k_ h0_ h1_ => (h.r0.1 k_ h0_.symm).2.1 h1_) (fun k_ h0_ h1_ => (h.r0.1 k_ h0_.symm).2.2.1 h1_) (fun k_ h0_ h1_ => (h.r0.1 k_ h0_.symm).2.2.2 h1_) (Kd.R_tight rfl h.r1) (fun k_ h0_ h1_ => (h.r1.1 k_ h0_.symm).1 h1_) (fun k_ h0_ h1_ => (h.r1.1 k_ h0_.symm).2.1 h1_) (fun k_ h0_ h1_ => (h.r1.1 k_ h0_.symm).2.2.1 h1_) (fun k_ h0_ h1_ => (h.r1.1 k_ h0_.symm).2.2.2 h1_) (Kd.R_tight rfl h.r2) (Kd.R_tight rfl h.r3) (fun k_ h0_ h1_ => (h.r3.1 k_ h0_.symm).1 h1_) (fun k_ h0_ h1_ => (h.r3.1 k_ h0_.symm).2.1 h1_) (fun k_ h0_ h1_ => (h.r3.1 k_ h0_.symm).2.2.1 h1_) (fun k_ h0_ h1_ => (h.r3.1 k_ h0_.symm).2.2.2 h1_) (Kd.R_tight rfl h.r4) (fun k_ h0_ h1_ => (h.r4.1 k_ h0_.symm).1 h1_) (fun k_ h0_ h1_ => (h.r4.1 k_ h0_.symm).2.1 h1_) (fun k_ h0_ h1_ => (h.r4.1 k_ h0_.symm).2.2.1 h1_) (fun k_ h0_ h1_ => (h.r4.1 k_ h0_.symm).2.2.2 h1_) (Kd.R_tight rfl h.r5) (fun k_ h0_ h1_ => (h.r5.1 k_ h0_.symm).1 h1_) (fun k_ h0_ h1_ => (h.r5.1 k_ h0_.symm).2.1 h1_) (fun k_ h0_ h1_ => (h.r5.1 k_ h0_.symm).2.2.1 h1_) (fun k_ h0_ h1_ => (h.r5.1 k_ h0_.symm).2.2.2 h1_) hm).mono ?_
 rintro e w' ⟨rfl, h0, h1, h2, h3, h4, h5, hb, hk⟩
 refine ⟨rfl, ⟨Z12 h0 (fun _ _ => trivial), Z12 h1 (fun _ _ => trivial), Z12 h2 (fun _ _ => trivial), Z12 h3 (fun _ _ => trivial), Z12 h4 (fun _ _ => trivial), Z12 h5 (fun _ _ => trivial)⟩, hb, hk.1, fun k_ hl_ hn_ => hk.2 k_ hl_ (fun hP_ => hn_ ?_)⟩
 rcases hP_ with e | e | e | e | e | e
 ·exact .inl e.symm
 ·exact .inr (.inl e.symm)
 ·exact .inr (.inr (.inl e.symm))
 ·exact .inr (.inr (.inr (.inl e.symm)))
 ·exact .inr (.inr (.inr (.inr (.inl e.symm))))
 ·exact .inr (.inr (.inr (.inr (.inr (e.symm)))))
open Go.Proofs.Ytpfakdhfffehaaa.FoW Go.Proofs.Ytpfakdhfffehaaa.SwW Go.Proofs.Ytpfakdhfffehaaa.SwL in
set_option maxHeartbeats 8000000 in
set_option maxRecDepth 100000 in
theorem laws_FnExactSwapperAt.calls (k : Nat) (a0 a1 : Int) (w : World) (h : laws_FnExactSwapperAt.Fine k a0 a1) :
  Calls Try.prog 4 #[.int .i64 a0, .int .i64 a1] w fun e w' => e = .returned (.bool true) ∧ Below w.heap.size w w' := by
 obtain ⟨b, d, u, p, it, wh, b1, d1, u1, p1, it1, wh1, o, m, hs, hi, hq, hm, hh, h0⟩ := h
 have hu := Try.underlying35
 have Hs := Ya hs
 have Hi := Ya hi
 have Hq := Ya hq
 have Hm := Ya hm
 have Hh := Ya hh
 have HB := Ya (Below.refl w.heap.size w)
 have p0 : decide (m < 0) = false := Z38 (by omega)
 clear hs hi hq hm hh
 cases o <;>
 ·go_enter Try.func4, Try.ntmps4
  go_upto_region 3 with (first | ((with_reducible refine gate_callee (f := 15) rfl ?_); refine goesL_ (some 16) rfl rfl Try.func15 (by kernel_rfl) rfl #[.int .i64 a0, .int .i64 a1] rfl Q62 ?_; (with_reducible refine (spec_SwapperAt.calls k a0 a1 b d u p it wh _ _ Hs.out).mono ?_); rintro e w1 ⟨v0, v1, v2, v3, v4, v5, rfl, ho0, ho1, ho2, ho3, ho4, ho5, hb⟩; refine ⟨_, rfl, ?_⟩; replace HB := Ya (Z8 Q0 hb); have HV := Ya (SwV.weak (SwV.mk ho0 ho1 ho2 ho3 ho4 ho5)); clear hb ho0 ho1 ho2 ho3 ho4 ho5; obtain ⟨A0, c0, A1, c1, A2, c2, A3, c3, A4, c4, A5, c5, q0, q1, q2, q3, q4, q5⟩ := SwC.slices HV.out; subst q0 q1 q2 q3 q4 q5) | ((with_reducible refine gate_dst (N := 5) rfl ?_); refine Yx 5 #[.slice none 0 0, .slice none 0 0, .slice none 0 0, .slice none 0 0, .slice none 0 0, .slice none 0 0] 35 ?_; intro gb1 hg w2 hbox hb; replace HV := Ya (SwC.below (Qm0 HV.out) hb); have BK1 := Ya hbox; have GE1 := Ya ((by rw [hg]; exact Z7 Q0 : w.heap.size ≤ gb1)); replace HB := Ya (Z8 Q0 hb); clear hb hbox hg; have hca0 := (Z24 BK1.out 0).trans rfl; have hfa0 := Z25 BK1.out 0; have hca1 := (Z24 BK1.out 1).trans rfl; have hfa1 := Z25 BK1.out 1; have hca2 := (Z24 BK1.out 2).trans rfl; have hfa2 := Z25 BK1.out 2; have hca3 := (Z24 BK1.out 3).trans rfl; have hfa3 := Z25 BK1.out 3; have hca4 := (Z24 BK1.out 4).trans rfl; have hfa4 := Z25 BK1.out 4; have hca5 := (Z24 BK1.out 5).trans rfl; have hfa5 := Z25 BK1.out 5) | ((with_reducible refine gate_callee (f := 16) rfl ?_); refine goesL_ (some 22) rfl rfl Try.func16 (by kernel_rfl) rfl #[.int .i64 a0, .int .i64 a1] rfl Q62 ?_; (with_reducible refine (impl_SwapperAt.calls k a0 a1 b d u p it wh _ _ Hi.out).mono ?_); rintro e w3 ⟨v0, v1, v2, v3, v4, v5, rfl, ho0, ho1, ho2, ho3, ho4, ho5, hb⟩; refine ⟨_, rfl, ?_⟩; clear hca0 hfa0 hca1 hfa1 hca2 hfa2 hca3 hfa3 hca4 hfa4 hca5 hfa5; have HW0 := Ya (Q51); replace HB := Ya (Z8 Q51 hb); have HLT := Ya (SwC.lt (SwC.set6 HV.out BK1.out (by decide) (by decide) (.slice A0 b.length c0) (.slice A1 d.length c1) (.slice A2 u.length c2) (.slice A3 p.length c3) (.slice A4 it.length c4) (.slice A5 wh.length c5))); replace HV := Ya (SwC.below (by (with_reducible repeat (first | apply SwC.drewN | apply SwC.drew)); exact SwC.set6 HV.out BK1.out (by decide) (by decide) (.slice A0 b.length c0) (.slice A1 d.length c1) (.slice A2 u.length c2) (.slice A3 p.length c3) (.slice A4 it.length c4) (.slice A5 wh.length c5)) hb); replace BK1 := Ya (Z29 (by first | exact (set6_at BK1.out (.slice A0 b.length c0) (.slice A1 d.length c1) (.slice A2 u.length c2) (.slice A3 p.length c3) (.slice A4 it.length c4) (.slice A5 wh.length c5)) | exact Z27 (set6_at BK1.out (.slice A0 b.length c0) (.slice A1 d.length c1) (.slice A2 u.length c2) (.slice A3 p.length c3) (.slice A4 it.length c4) (.slice A5 wh.length c5)) | exact Z26 (set6_at BK1.out (.slice A0 b.length c0) (.slice A1 d.length c1) (.slice A2 u.length c2) (.slice A3 p.length c3) (.slice A4 it.length c4) (.slice A5 wh.length c5)) _) hb); have HN := Ya hb; have HV2 := Ya (SwV.mk ho0 ho1 ho2 ho3 ho4 ho5); clear hb ho0 ho1 ho2 ho3 ho4 ho5; obtain ⟨B0, e0, B1, e1, B2, e2, B3, e3, B4, e4, B5, e5, q0, q1, q2, q3, q4, q5⟩ := SwC.slices HV2.out.weak; subst q0 q1 q2 q3 q4 q5) | ((with_reducible refine gate_dst (N := 7) rfl ?_); refine Yx 7 #[.slice none 0 0, .slice none 0 0, .slice none 0 0, .slice none 0 0, .slice none 0 0, .slice none 0 0] 35 ?_; intro gb2 hg w4 hbox hb; replace HV := Ya (SwC.below (Qm0 HV.out) hb); replace HV2 := Ya (SwV.below (by (with_reducible repeat (first | apply SwV.drewN | apply SwV.drew)); exact HV2.out) hb); have GN := Ya ((by rw [hg]; exact Z7 (by repeat (first | (with_reducible first | exact (HN.out) | apply Z5 | apply Z3 | apply Z4) | exact (HN.out))) : _ ≤ gb2)); replace HN := Ya (Z8 (by repeat (first | (with_reducible first | exact (HN.out) | apply Z5 | apply Z3 | apply Z4) | exact (HN.out))) hb); have NE := Ya ((by rw [hg]; exact Nat.ne_of_lt (blk_lt Q63) : gb1 ≠ gb2)); replace BK1 := Ya (Z29 Q63 hb); have BK2 := Ya hbox; have GE2 := Ya ((by rw [hg]; exact Z7 Q0 : w.heap.size ≤ gb2)); replace HB := Ya (Z8 Q0 hb); clear hb hbox hg; have hcb0 := (Z24 BK2.out 0).trans rfl; have hfb0 := Z25 BK2.out 0; have hcb1 := (Z24 BK2.out 1).trans rfl; have hfb1 := Z25 BK2.out 1; have hcb2 := (Z24 BK2.out 2).trans rfl; have hfb2 := Z25 BK2.out 2; have hcb3 := (Z24 BK2.out 3).trans rfl; have hfb3 := Z25 BK2.out 3; have hcb4 := (Z24 BK2.out 4).trans rfl; have hfb4 := Z25 BK2.out 4; have hcb5 := (Z24 BK2.out 5).trans rfl; have hfb5 := Z25 BK2.out 5))
  have hnb := NE.out
  have hnc := NE.out.symm
  have hca0 := (Z24 BK1.out 0).trans rfl
  have hfa0 := Z25 BK1.out 0
  have hca1 := (Z24 BK1.out 1).trans rfl
  have hfa1 := Z25 BK1.out 1
  have hca2 := (Z24 BK1.out 2).trans rfl
  have hfa2 := Z25 BK1.out 2
  have hca3 := (Z24 BK1.out 3).trans rfl
  have hfa3 := Z25 BK1.out 3
  have hca4 := (Z24 BK1.out 4).trans rfl
  have hfa4 := Z25 BK1.out 4
  have hca5 := (Z24 BK1.out 5).trans rfl
  have hfa5 := Z25 BK1.out 5
  go_wp2_with fail
  refine (laws_FnExactSwapperAt.eqS (SwV.set6 HV2.out BK2.out (by decide) (by decide) (.slice B0 b.length e0) (.slice B1 d.length e1) (.slice B2 u.length e2) (.slice B3 p.length e3) (.slice B4 it.length e4) (.slice B5 wh.length e5) |>.weak) (SwC.set6 HV.out BK2.out (by decide) (by decide) (.slice B0 b.length e0) (.slice B1 d.length e1) (.slice B2 u.length e2) (.slice B3 p.length e3) (.slice B4 it.length e4) (.slice B5 wh.length e5)) Hq.out).mono ?_
  rintro e w5 ⟨rfl, hb⟩
  clear hca0 hfa0 hca1 hfa1 hca2 hfa2 hca3 hfa3 hca4 hfa4 hca5 hfa5
  clear hcb0 hfb0 hcb1 hfb1 hcb2 hfb2 hcb3 hfb3 hcb4 hfb4 hcb5 hfb5
  replace HV := Ya (SwC.below (SwC.set6 HV.out BK2.out (by decide) (by decide) (.slice B0 b.length e0) (.slice B1 d.length e1) (.slice B2 u.length e2) (.slice B3 p.length e3) (.slice B4 it.length e4) (.slice B5 wh.length e5)) hb)
  replace HV2 := Ya (SwV.below (SwV.set6 HV2.out BK2.out (by decide) (by decide) (.slice B0 b.length e0) (.slice B1 d.length e1) (.slice B2 u.length e2) (.slice B3 p.length e3) (.slice B4 it.length e4) (.slice B5 wh.length e5)) hb)
  replace BK1 := Ya (Z29 ((set6_far _ gb2 (.slice B0 b.length e0) (.slice B1 d.length e1) (.slice B2 u.length e2) (.slice B3 p.length e3) (.slice B4 it.length e4) (.slice B5 wh.length e5) gb1 NE.out).trans BK1.out) hb)
  replace BK2 := Ya (Z29 (set6_at BK2.out (.slice B0 b.length e0) (.slice B1 d.length e1) (.slice B2 u.length e2) (.slice B3 p.length e3) (.slice B4 it.length e4) (.slice B5 wh.length e5)) hb)
  replace HB := Ya (Z8 (set6_below HB.out GE2.out (.slice B0 b.length e0) (.slice B1 d.length e1) (.slice B2 u.length e2) (.slice B3 p.length e3) (.slice B4 it.length e4) (.slice B5 wh.length e5)) hb)
  replace HN := Ya (Z8 (set6_below HN.out GN.out (.slice B0 b.length e0) (.slice B1 d.length e1) (.slice B2 u.length e2) (.slice B3 p.length e3) (.slice B4 it.length e4) (.slice B5 wh.length e5)) hb)
  clear hb
  have hcb0 := (Z24 BK2.out 0).trans rfl
  have hfb0 := Z25 BK2.out 0
  have hcb1 := (Z24 BK2.out 1).trans rfl
  have hfb1 := Z25 BK2.out 1
  have hcb2 := (Z24 BK2.out 2).trans rfl
  have hfb2 := Z25 BK2.out 2
  have hcb3 := (Z24 BK2.out 3).trans rfl
  have hfb3 := Z25 BK2.out 3
  have hcb4 := (Z24 BK2.out 4).trans rfl
  have hfb4 := Z25 BK2.out 4
  have hcb5 := (Z24 BK2.out 5).trans rfl
  have hfb5 := Z25 BK2.out 5
  go_wp2_with fail
  refine (laws_FnExactSwapperAt.markS HN.out HV2.out Hm.out).mono ?_
  rintro e w6 ⟨rfl, hC, hb, hk⟩
  clear hcb0 hfb0 hcb1 hfb1 hcb2 hfb2 hcb3 hfb3 hcb4 hfb4 hcb5 hfb5
  replace HV := Ya (SwC.kept HV.out hk (fun k_ h1_ h2_ => Nat.not_lt.2 (SwC.ge HV2.out.weak k_ h2_) (HLT.out k_ h1_)))
  replace BK1 := Ya (blk_kept BK1.out hk (fun hs_ => SwV.apart HV2.out BK1.out (by decide) (by decide) _ hs_ rfl))
  replace BK2 := Ya (blk_kept BK2.out hk (fun hs_ => SwV.apart HV2.out BK2.out (by decide) (by decide) _ hs_ rfl))
  replace HB := Ya (Z8 HW0.out hb)
  replace HV2 := Ya hC
  clear hb hk hC HN HLT GN
  have hcb0 := (Z24 BK2.out 0).trans rfl
  have hfb0 := Z25 BK2.out 0
  have hcb1 := (Z24 BK2.out 1).trans rfl
  have hfb1 := Z25 BK2.out 1
  have hcb2 := (Z24 BK2.out 2).trans rfl
  have hfb2 := Z25 BK2.out 2
  have hcb3 := (Z24 BK2.out 3).trans rfl
  have hfb3 := Z25 BK2.out 3
  have hcb4 := (Z24 BK2.out 4).trans rfl
  have hfb4 := Z25 BK2.out 4
  have hcb5 := (Z24 BK2.out 5).trans rfl
  have hfb5 := Z25 BK2.out 5
  go_wp2_with fail
  refine (laws_FnExactSwapperAt.heldS HV2.out Hh.out).mono ?_
  rintro e w7 ⟨rfl, hb⟩
  clear hcb0 hfb0 hcb1 hfb1 hcb2 hfb2 hcb3 hfb3 hcb4 hfb4 hcb5 hfb5
  replace HV := Ya (SwC.below HV.out hb)
  replace HV2 := Ya (SwC.below HV2.out hb)
  replace BK1 := Ya (Z29 BK1.out hb)
  replace BK2 := Ya (Z29 BK2.out hb)
  replace HB := Ya (Z8 HB.out hb)
  clear hb
  go_upto_region 14 with (first | ((with_reducible refine gate_callee (f := 16) rfl ?_); refine goesL_ (some 48) rfl rfl Try.func16 (by kernel_rfl) rfl #[.int .i64 a0, .int .i64 a1] rfl Q62 ?_; (with_reducible refine (impl_SwapperAt.calls k a0 a1 b d u p it wh _ _ Hi.out).mono ?_); rintro e w8 ⟨v0, v1, v2, v3, v4, v5, rfl, ho0, ho1, ho2, ho3, ho4, ho5, hb⟩; refine ⟨_, rfl, ?_⟩; replace HB := Ya (Z8 Q0 hb); replace HV := Ya (SwC.below (Qm0 HV.out) hb); replace HV2 := Ya (SwC.below (Qm0 HV2.out) hb); replace BK1 := Ya (Z29 Q63 hb); replace BK2 := Ya (Z29 Q81 hb); have HV3 := Ya (SwV.weak (SwV.mk ho0 ho1 ho2 ho3 ho4 ho5)); clear hb ho0 ho1 ho2 ho3 ho4 ho5; obtain ⟨D0, f0, D1, f1, D2, f2, D3, f3, D4, f4, D5, f5, q0, q1, q2, q3, q4, q5⟩ := SwC.slices HV3.out; subst q0 q1 q2 q3 q4 q5) | ((with_reducible refine gate_dst (N := 11) rfl ?_); refine Yx 11 #[.slice none 0 0, .slice none 0 0, .slice none 0 0, .slice none 0 0, .slice none 0 0, .slice none 0 0] 35 ?_; intro gb3 hg w9 hbox hb; replace HV := Ya (SwC.below (Qm0 HV.out) hb); replace HV2 := Ya (SwC.below (Qm0 HV2.out) hb); replace HV3 := Ya (SwC.below (Qm0 HV3.out) hb); have NE1 := Ya ((by rw [hg]; exact Nat.ne_of_lt (blk_lt Q63) : gb1 ≠ gb3)); have NE2 := Ya ((by rw [hg]; exact Nat.ne_of_lt (blk_lt Q81) : gb2 ≠ gb3)); replace BK1 := Ya (Z29 Q63 hb); replace BK2 := Ya (Z29 Q81 hb); have BK3 := Ya hbox; have GE3 := Ya ((by rw [hg]; exact Z7 Q0 : w.heap.size ≤ gb3)); replace HB := Ya (Z8 Q0 hb); clear hb hbox hg; have hcd0 := (Z24 BK3.out 0).trans rfl; have hfd0 := Z25 BK3.out 0; have hcd1 := (Z24 BK3.out 1).trans rfl; have hfd1 := Z25 BK3.out 1; have hcd2 := (Z24 BK3.out 2).trans rfl; have hfd2 := Z25 BK3.out 2; have hcd3 := (Z24 BK3.out 3).trans rfl; have hfd3 := Z25 BK3.out 3; have hcd4 := (Z24 BK3.out 4).trans rfl; have hfd4 := Z25 BK3.out 4; have hcd5 := (Z24 BK3.out 5).trans rfl; have hfd5 := Z25 BK3.out 5))
  have hnd := NE1.out
  have hne := NE1.out.symm
  have hnf := NE2.out
  have hng := NE2.out.symm
  have hca0 := (Z24 BK1.out 0).trans rfl
  have hfa0 := Z25 BK1.out 0
  have hca1 := (Z24 BK1.out 1).trans rfl
  have hfa1 := Z25 BK1.out 1
  have hca2 := (Z24 BK1.out 2).trans rfl
  have hfa2 := Z25 BK1.out 2
  have hca3 := (Z24 BK1.out 3).trans rfl
  have hfa3 := Z25 BK1.out 3
  have hca4 := (Z24 BK1.out 4).trans rfl
  have hfa4 := Z25 BK1.out 4
  have hca5 := (Z24 BK1.out 5).trans rfl
  have hfa5 := Z25 BK1.out 5
  go_wp2_with fail
  refine (laws_FnExactSwapperAt.eqS (SwC.set6 HV3.out BK3.out (by decide) (by decide) (.slice D0 b.length f0) (.slice D1 d.length f1) (.slice D2 u.length f2) (.slice D3 p.length f3) (.slice D4 it.length f4) (.slice D5 wh.length f5)) (SwC.set6 HV.out BK3.out (by decide) (by decide) (.slice D0 b.length f0) (.slice D1 d.length f1) (.slice D2 u.length f2) (.slice D3 p.length f3) (.slice D4 it.length f4) (.slice D5 wh.length f5)) Hq.out).mono ?_
  rintro e w10 ⟨rfl, hb⟩
  clear hca0 hfa0 hca1 hfa1 hca2 hfa2 hca3 hfa3 hca4 hfa4 hca5 hfa5
  clear hcd0 hfd0 hcd1 hfd1 hcd2 hfd2 hcd3 hfd3 hcd4 hfd4 hcd5 hfd5
  replace HV2 := Ya (SwC.below (SwC.set6 HV2.out BK3.out (by decide) (by decide) (.slice D0 b.length f0) (.slice D1 d.length f1) (.slice D2 u.length f2) (.slice D3 p.length f3) (.slice D4 it.length f4) (.slice D5 wh.length f5)) hb)
  replace BK2 := Ya (Z29 ((set6_far _ gb3 (.slice D0 b.length f0) (.slice D1 d.length f1) (.slice D2 u.length f2) (.slice D3 p.length f3) (.slice D4 it.length f4) (.slice D5 wh.length f5) gb2 NE2.out).trans BK2.out) hb)
  replace HB := Ya (Z8 (set6_below HB.out GE3.out (.slice D0 b.length f0) (.slice D1 d.length f1) (.slice D2 u.length f2) (.slice D3 p.length f3) (.slice D4 it.length f4) (.slice D5 wh.length f5)) hb)
  clear hb
  have hcb0 := (Z24 BK2.out 0).trans rfl
  have hfb0 := Z25 BK2.out 0
  have hcb1 := (Z24 BK2.out 1).trans rfl
  have hfb1 := Z25 BK2.out 1
  have hcb2 := (Z24 BK2.out 2).trans rfl
  have hfb2 := Z25 BK2.out 2
  have hcb3 := (Z24 BK2.out 3).trans rfl
  have hfb3 := Z25 BK2.out 3
  have hcb4 := (Z24 BK2.out 4).trans rfl
  have hfb4 := Z25 BK2.out 4
  have hcb5 := (Z24 BK2.out 5).trans rfl
  have hfb5 := Z25 BK2.out 5
  go_wp2_with fail
  refine (laws_FnExactSwapperAt.heldS HV2.out Hh.out).mono ?_
  rintro e w11 ⟨rfl, hb⟩
  have n0_ := Z8 HB.out hb
  go_wp2
  go_ret
  exact ⟨rfl, n0_⟩

end Go.Proofs.Ytpfakdhfffehaaa.MFnExactSwapperAt
