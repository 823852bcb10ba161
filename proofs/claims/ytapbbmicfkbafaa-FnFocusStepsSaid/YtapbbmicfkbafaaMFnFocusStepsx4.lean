import Derived.Test.YtapbbmicfkbafaaMFnFocusStepsx0
import Derived.Test.YtapbbmicfkbafaaMFnFocusStepsx3
namespace Go.Proofs.Ytapbbmicfkbafaa.MFnFocusSteps
open Go.RowKit Go.Proofs.YtapbbmicfkbafaaW.PrintWords Go.Proofs.YtapbbmicfkbafaaW.PrintLast Go.Proofs.YtapbbmicfkbafaaW.PrintMore
attribute [local go_sem] max2_int min2_int max_two min_two max_three min_three max_four min_four   
set_option linter.unusedVariables false
set_option linter.unusedSimpArgs false
mutual
def spec_l1Cur_bases.l0 : Nat → List Int → Int → List Int → Int → Int → Option (List Int × Int × Int)
 | 0, _, _, _, _, _ => none
 | k + 1, x5, x6, x1000, x1001, x1002 => if x6 > 0 then ((spec_l1Cur_pick.f x1000 x1001 x1002 4).bind fun bt219 => (if x5.length < 17592186044416 then (spec_l1Cur_bases.l0 k (x5 ++ [wrap64 (2 + bt219.1)]) (wrap64 (x6 - 1)) x1000 bt219.2.1 bt219.2.2) else (none))) else ((spec_l1Cur_pick.f x1000 x1001 x1002 20).bind fun bt225 => (if bt225.1 = 0 then ((spec_l1Cur_among.f x1000 bt225.2.1 bt225.2.2 (([0, 1, (-3), 12, 13] : List Int))).bind fun bt231 => (if x5.length < 17592186044416 then (some ((x5 ++ [bt231.1]), bt231.2.1, bt231.2.2)) else (none))) else (if bt225.1 = 1 then ((spec_l1Cur_pick.f x1000 bt225.2.1 bt225.2.2 3).bind fun bt237 => (spec_l1Cur_bases.l1 k x5 (wrap64 (5 + bt237.1)) x1000 bt237.2.1 bt237.2.2)) else (if bt225.1 = 2 then ((spec_l1Cur_pick.f x1000 bt225.2.1 bt225.2.2 2).bind fun bt243 => (spec_l1Cur_bases.l2 k ([] : List Int) (wrap64 (12 + bt243.1)) x1000 bt243.2.1 bt243.2.2)) else (some (x5, bt225.2.1, bt225.2.2))))))
def spec_l1Cur_bases.l1 : Nat → List Int → Int → List Int → Int → Int → Option (List Int × Int × Int)
 | 0, _, _, _, _, _ => none
 | k + 1, x5, x7, x1000, x1001, x1002 => if x7 > 0 then (if x5.length < 17592186044416 then (spec_l1Cur_bases.l1 k (x5 ++ [12]) (wrap64 (x7 - 1)) x1000 x1001 x1002) else (none)) else (some (x5, x1001, x1002))
def spec_l1Cur_bases.l2 : Nat → List Int → Int → List Int → Int → Int → Option (List Int × Int × Int)
 | 0, _, _, _, _, _ => none
 | k + 1, x5, x8, x1000, x1001, x1002 => if x8 > 0 then (if x5.length < 17592186044416 then (spec_l1Cur_bases.l2 k (x5 ++ [2]) (wrap64 (x8 - 1)) x1000 x1001 x1002) else (none)) else (some (x5, x1001, x1002))
end
def spec_l1Cur_bases.f (k : Nat) (s0_0 : List Int) (s0_1 : Int) (s0_2 : Int) (a1 : Int) : Option (List Int × Int × Int) := (spec_l1Cur_pick.f s0_0 s0_1 s0_2 (wrap64 (a1 + 1))).bind fun bt216 => (spec_l1Cur_bases.l0 k ([] : List Int) bt216.1 s0_0 bt216.2.1 bt216.2.2)
theorem spec_l1Cur_bases.mono_l : ∀ k, (∀ y0 y1 y2 y3 y4, LeO (spec_l1Cur_bases.l0 k y0 y1 y2 y3 y4) (spec_l1Cur_bases.l0 (k + 1) y0 y1 y2 y3 y4)) ∧ (∀ y0 y1 y2 y3 y4, LeO (spec_l1Cur_bases.l1 k y0 y1 y2 y3 y4) (spec_l1Cur_bases.l1 (k + 1) y0 y1 y2 y3 y4)) ∧ (∀ y0 y1 y2 y3 y4, LeO (spec_l1Cur_bases.l2 k y0 y1 y2 y3 y4) (spec_l1Cur_bases.l2 (k + 1) y0 y1 y2 y3 y4))
 | 0 => ⟨fun _ _ _ _ _ r h => by simp [spec_l1Cur_bases.l0] at h, fun _ _ _ _ _ r h => by simp [spec_l1Cur_bases.l1] at h, fun _ _ _ _ _ r h => by simp [spec_l1Cur_bases.l2] at h⟩
 | k + 1 => by
  obtain ⟨ih0, ih1, ih2⟩ := spec_l1Cur_bases.mono_l k
  refine ⟨?_, ?_, ?_⟩
  ·intro y0 y1 y2 y3 y4
   unfold spec_l1Cur_bases.l0
   repeat' first
   | (with_reducible exact ih0 _ _ _ _ _)
   | (with_reducible exact ih1 _ _ _ _ _)
   | (with_reducible exact ih2 _ _ _ _ _)
   | (with_reducible exact LeO.refl _)
   | (with_reducible exact LeO.none _)
   | (with_reducible refine LeO.ite ?_ ?_)
   | (with_reducible refine LeO.bind ?_ (fun _ => ?_))
   | exact ih0 _ _ _ _ _
   | exact ih1 _ _ _ _ _
   | exact ih2 _ _ _ _ _
   | exact LeO.none _
   | refine LeO.ite ?_ ?_
   | refine LeO.bind ?_ (fun _ => ?_)
  ·intro y0 y1 y2 y3 y4
   unfold spec_l1Cur_bases.l1
   repeat' first
   | (with_reducible exact ih0 _ _ _ _ _)
   | (with_reducible exact ih1 _ _ _ _ _)
   | (with_reducible exact ih2 _ _ _ _ _)
   | (with_reducible exact LeO.refl _)
   | (with_reducible exact LeO.none _)
   | (with_reducible refine LeO.ite ?_ ?_)
   | (with_reducible refine LeO.bind ?_ (fun _ => ?_))
   | exact ih0 _ _ _ _ _
   | exact ih1 _ _ _ _ _
   | exact ih2 _ _ _ _ _
   | exact LeO.none _
   | refine LeO.ite ?_ ?_
   | refine LeO.bind ?_ (fun _ => ?_)
  ·intro y0 y1 y2 y3 y4
   unfold spec_l1Cur_bases.l2
   repeat' first
   | (with_reducible exact ih0 _ _ _ _ _)
   | (with_reducible exact ih1 _ _ _ _ _)
   | (with_reducible exact ih2 _ _ _ _ _)
   | (with_reducible exact LeO.refl _)
   | (with_reducible exact LeO.none _)
   | (with_reducible refine LeO.ite ?_ ?_)
   | (with_reducible refine LeO.bind ?_ (fun _ => ?_))
   | exact ih0 _ _ _ _ _
   | exact ih1 _ _ _ _ _
   | exact ih2 _ _ _ _ _
   | exact LeO.none _
   | refine LeO.ite ?_ ?_
   | refine LeO.bind ?_ (fun _ => ?_)
theorem spec_l1Cur_bases.mono : ∀ a0 a1 a2 a3 k, LeO (spec_l1Cur_bases.f k a0 a1 a2 a3) (spec_l1Cur_bases.f (k + 1) a0 a1 a2 a3) := by
 intro a0 a1 a2 a3 k
 obtain ⟨ih0, ih1, ih2⟩ := spec_l1Cur_bases.mono_l k
 unfold spec_l1Cur_bases.f
 repeat' first
   | (with_reducible exact ih0 _ _ _ _ _)
   | (with_reducible exact ih1 _ _ _ _ _)
   | (with_reducible exact ih2 _ _ _ _ _)
   | (with_reducible exact LeO.refl _)
   | (with_reducible exact LeO.none _)
   | (with_reducible refine LeO.ite ?_ ?_)
   | (with_reducible refine LeO.bind ?_ (fun _ => ?_))
   | exact ih0 _ _ _ _ _
   | exact ih1 _ _ _ _ _
   | exact ih2 _ _ _ _ _
   | exact LeO.none _
   | refine LeO.ite ?_ ?_
   | refine LeO.bind ?_ (fun _ => ?_)
set_option maxHeartbeats 8000000 in
set_option maxRecDepth 100000 in
theorem spec_l1Cur_bases.calls (k : Nat) (g : Nat) (s0_0 : List Int) (s0_1 : Int) (s0_2 : Int) (a1 : Int) (r1 : List Int) (r2 : Int) (r3 : Int) (w0 w : World) (hI : IsS52 w0 w g s0_0 s0_1 s0_2) (hB : Below w0.heap.size w0 w) (h : spec_l1Cur_bases.f k s0_0 s0_1 s0_2 a1 = some (r1, r2, r3)) :
  Calls Try.prog 55 #[.pointer (some ⟨g, 0, none⟩), .int .i64 a1] w fun e w' => ∃ v0_ : Value, e = .returned (v0_) ∧ Kd.R (Kd.int .i64) 3 w' w.heap.size (fun _ => True) v0_ r1 ∧ IsS52 w0 w' g s0_0 r2 r3 ∧ Below w0.heap.size w0 w' ∧ KeepBut w w' g none := by
 have HI0 := Ya hI
 have HK := Ya (KeepBut.refl w g none)
 have HL := Ya hB.size
 clear hI
 have HW0 := Ya hB.size
 have HB := Ya hB
 clear hB
 have H : ((spec_l1Cur_pick.f s0_0 s0_1 s0_2 (wrap64 (a1 + 1))).bind fun bt216 => (spec_l1Cur_bases.l0 k ([] : List Int) bt216.1 s0_0 bt216.2.1 bt216.2.2)) = some (r1, r2, r3) := h
 clear h
 replace H := Z37.mp H
 obtain ⟨⟨t216, t217, t218⟩, A30, H⟩ := H
 replace H : (spec_l1Cur_bases.l0 k ([] : List Int) t216 s0_0 t217 t218) = some (r1, r2, r3) := H
 have A3 := Ya A30
 clear A30
 have H' := Ya H
 clear H
 go_enter Try.func55, Try.ntmps55
 go_wp2_with (first | ((with_reducible refine gate_callee (f := 56) rfl ?_); refine Yz 12 Try.func56 #[.pointer (some ⟨g, 0, none⟩), .int .i64 (wrap64 (a1 + 1))] ?_; (with_reducible refine (spec_l1Cur_pick.calls g s0_0 s0_1 s0_2 (wrap64 (a1 + 1)) t216 t217 t218 w0 _ ?side1 ?side2 A3.out).mono ?_); (case side1 => repeat (first | (with_reducible first | exact HI0.out | apply IsS52.alloc | apply IsS52.drewN | apply IsS52.drew | apply IsS52.set_1 | apply IsS52.set_2) | exact HI0.out)); (case side2 => repeat (first | (with_reducible first | exact HB.out | apply Z5 | apply Z3 | apply Z4 | refine Z6 ?_ (IsS52.ge HI0.out)) | exact HB.out)); rintro e w4 ⟨rfl, hi, hb, hk⟩; refine ⟨_, rfl, ?_⟩; replace HK := Ya (KeepBut.trans Q3 hk (.inl rfl)); replace HB := Ya hb; replace HI0 := Ya hi; (try clear hb hk hi)))
 go_loopg [5, 6] k (fun kq v5 v6 w' => ∃ (x5_1 : List Int) (x6_1 : Int) (x1001_1 : Int) (x1002_1 : Int), v6 = .int .i64 x6_1 ∧ Aside0 (spec_l1Cur_bases.l0 kq x5_1 x6_1 s0_0 x1001_1 x1002_1 = some (r1, r2, r3)) ∧ Aside0 (kq ≤ k) ∧ Aside0 (Kd.R (Kd.int .i64) 3 w' w.heap.size (fun _ => True) v5 x5_1) ∧ Aside0 (IsS52 w0 w' g s0_0 x1001_1 x1002_1) ∧ Aside0 (KeepBut w w' g none) ∧ Aside0 (Below w0.heap.size w0 w'))
 case atStart => exact ⟨(([] : List Int)), (t216), (t217), (t218), Q9, H', ⟨Nat.le_refl _⟩, ⟨Q14⟩, ⟨Q7⟩, ⟨Q13⟩, ⟨Q11⟩⟩
 case round =>
  clear H'
  try clear p2
  obtain ⟨x5_1, x6_1, x1001_1, x1002_1, rfl, HA, HK1, HO_5, HI0, HK, HB⟩ := hrel
  cases gk with
  | zero => exact absurd HA.out (by simp [spec_l1Cur_bases.l0])
  | succ k1 =>
   have H := HA.out
   clear HA
   simp only [spec_l1Cur_bases.l0] at H
   by_cases c5 : x6_1 > 0
   ·rw [if_pos c5] at H
    have c5b0 : decide (0 < x6_1) = true := Z39 c5
    clear c5
    replace H := Z37.mp H
    obtain ⟨⟨t219, t220, t221⟩, A60, H⟩ := H
    replace H : (if x5_1.length < 17592186044416 then (spec_l1Cur_bases.l0 k1 (x5_1 ++ [wrap64 (2 + t219)]) (wrap64 (x6_1 - 1)) s0_0 t220 t221) else (none)) = some (r1, r2, r3) := H
    have A6 := Ya A60
    clear A60
    by_cases c7 : x5_1.length < 17592186044416
    ·rw [if_pos c7] at H
     have LMc7 := Ya c7
     clear c7
     obtain ⟨y222, hy222⟩ : ∃ y_ : List Int, y_ = (x5_1 ++ [wrap64 (2 + t219)]) := ⟨_, rfl⟩
     replace H : (spec_l1Cur_bases.l0 k1 y222 (wrap64 (x6_1 - 1)) s0_0 t220 t221) = some (r1, r2, r3) := by first | (rw [hy222]; with_reducible exact H) | (have H2_ := (Option.bind_some _ _).symm.trans H; rw [hy222]; with_reducible exact H2_) | (have H2_ := (Option.bind_some _ _).symm.trans H; with_reducible exact H2_) | with_reducible exact H | (rw [hy222]; exact H) | exact H
     have Ny222 := Ya hy222
     clear hy222
     have H' := Ya H
     clear H
     go_wp2_with (first | ((with_reducible refine gate_callee (f := 56) rfl ?_); refine Yz 19 Try.func56 #[.pointer (some ⟨g, 0, none⟩), .int .i64 4] ?_; (with_reducible refine (spec_l1Cur_pick.calls g s0_0 x1001_1 x1002_1 4 t219 t220 t221 w0 _ ?side1 ?side2 A6.out).mono ?_); (case side1 => repeat (first | (with_reducible first | exact HI0.out | apply IsS52.alloc | apply IsS52.drewN | apply IsS52.drew | apply IsS52.set_1 | apply IsS52.set_2) | exact HI0.out)); (case side2 => repeat (first | (with_reducible first | exact HB.out | apply Z5 | apply Z3 | apply Z4 | refine Z6 ?_ (IsS52.ge HI0.out)) | exact HB.out)); rintro e w8 ⟨rfl, hi, hb, hk⟩; refine ⟨_, rfl, ?_⟩; replace HO_5 := Ya (Z12 (Kd.R_keep (IsS52.apart (show IsS52 w0 _ g s0_0 x1001_1 x1002_1 from by repeat (first | (with_reducible first | exact HI0.out | apply IsS52.alloc | apply IsS52.drewN | apply IsS52.drew | apply IsS52.set_1 | apply IsS52.set_2) | exact HI0.out)) (Yr HO_5.out) (by decide)) hk (fun _ h => h.2)) (fun _ h => h.1)); replace HK := Ya (KeepBut.trans Q3 hk (.inl rfl)); replace HB := Ya hb; replace HI0 := Ya hi; (try clear hb hk hi)) | ((with_reducible refine gate_builtin (b := .append) (xs := #[.tmp 17, .tmp 21]) rfl ?_); at_builtin; refine Kd.R_append (Kd.int .i64) w.heap.size rfl (.tmp 17) (.tmp 21) 24 3 (.int .i64 0) 8 rfl Try.underlying24 info3 rfl (by decide) (by omega) u5 x5_1 (wrap64 (2 + t219)) [.int .i64 (wrap64 (2 + t219))] (fun _ => True) (fun _ => False) rfl rfl ?aP (fun _ hk => hk.elim) ?aF ?aO (Below.refl _ _) ?aS ?aL ?_; (case aP => exact rfl); (case aF => exact (fun _ _ => trivial)); (case aO => exact (Yr HO_5.out)); (case aS => exact (keep_size (w := w) (g := g) (row := none) Q3)); (case aL => have := LMc7.out; omega); intro v223 w9 ho hb hg hat; rw [← Ny222.out] at ho; replace HB := Ya (below_weaken Q21 HL.out hb); replace HI0 := Ya (IsS52.grown Q20 hg (IsS52.own_ne HI0.out HO_5.out (by decide))); replace HK := Ya (KeepBut.trans Q3 (KeepBut.of_grown hg g) (Kd.R_base2 HO_5.out)); have HO224 := Ya ho; clear HO_5; clear ho hb hg hat))
     go_roundg k1
     case measure => have := HK1.out; omega
     case rel => exact ⟨(y222), (wrap64 (x6_1 - 1)), (t220), (t221), Q9, H', ⟨Q45⟩, ⟨by (with_reducible repeat (first | apply Z9 | apply Z10 | apply Z11)); exact HO224.out⟩, ⟨Q7⟩, ⟨Q13⟩, ⟨Q11⟩⟩
    ·rw [if_neg c7] at H
     exact absurd H (by simp)
   ·rw [if_neg c5] at H
    have c5b0 : decide (0 < x6_1) = false := Z38 c5
    clear c5
    replace H := Z37.mp H
    obtain ⟨⟨t225, t226, t227⟩, A100, H⟩ := H
    replace H : (if t225 = 0 then ((spec_l1Cur_among.f s0_0 t226 t227 (([0, 1, (-3), 12, 13] : List Int))).bind fun bt231 => (if x5_1.length < 17592186044416 then (some ((x5_1 ++ [bt231.1]), bt231.2.1, bt231.2.2)) else (none))) else (if t225 = 1 then ((spec_l1Cur_pick.f s0_0 t226 t227 3).bind fun bt237 => (spec_l1Cur_bases.l1 k1 x5_1 (wrap64 (5 + bt237.1)) s0_0 bt237.2.1 bt237.2.2)) else (if t225 = 2 then ((spec_l1Cur_pick.f s0_0 t226 t227 2).bind fun bt243 => (spec_l1Cur_bases.l2 k1 ([] : List Int) (wrap64 (12 + bt243.1)) s0_0 bt243.2.1 bt243.2.2)) else (some (x5_1, t226, t227))))) = some (r1, r2, r3) := H
    have A10 := Ya A100
    clear A100
    by_cases c11 : t225 = 0
    ·rw [if_pos c11] at H
     have c11b0 : (t225 == 0) = true := beq_iff_eq.mpr c11
     have c11b1 : (t225 != 0) = false := bne_eq_false_iff_eq.mpr c11
     clear c11
     obtain ⟨y228, hy228⟩ : ∃ y_ : List Int, y_ = (([0, 1, (-3), 12, 13] : List Int)) := ⟨_, rfl⟩
     replace H : ((spec_l1Cur_among.f s0_0 t226 t227 y228).bind fun bt231 => (if x5_1.length < 17592186044416 then (some ((x5_1 ++ [bt231.1]), bt231.2.1, bt231.2.2)) else (none))) = some (r1, r2, r3) := by first | (rw [hy228]; with_reducible exact H) | (have H2_ := (Option.bind_some _ _).symm.trans H; rw [hy228]; with_reducible exact H2_) | (have H2_ := (Option.bind_some _ _).symm.trans H; with_reducible exact H2_) | with_reducible exact H | (rw [hy228]; exact H) | exact H
     have Ny228 := Ya hy228
     clear hy228
     replace H := Z37.mp H
     obtain ⟨⟨t231, t232, t233⟩, A120, H⟩ := H
     replace H : (if x5_1.length < 17592186044416 then (some ((x5_1 ++ [t231]), t232, t233)) else (none)) = some (r1, r2, r3) := H
     have A12 := Ya A120
     clear A120
     by_cases c13 : x5_1.length < 17592186044416
     ·rw [if_pos c13] at H
      have LMc13 := Ya c13
      clear c13
      obtain ⟨y234, hy234⟩ : ∃ y_ : List Int, y_ = (x5_1 ++ [t231]) := ⟨_, rfl⟩
      replace H : (some (y234, t232, t233)) = some (r1, r2, r3) := by first | (rw [hy234]; with_reducible exact H) | (have H2_ := (Option.bind_some _ _).symm.trans H; rw [hy234]; with_reducible exact H2_) | (have H2_ := (Option.bind_some _ _).symm.trans H; with_reducible exact H2_) | with_reducible exact H | (rw [hy234]; exact H) | exact H
      have Ny234 := Ya hy234
      clear hy234
      simp only [Option.some.injEq, Prod.mk.injEq] at H
      obtain ⟨rfl, rfl, rfl⟩ := H
      go_wp2_with (first | ((with_reducible refine gate_callee (f := 56) rfl ?_); refine Yz 24 Try.func56 #[.pointer (some ⟨g, 0, none⟩), .int .i64 20] ?_; (with_reducible refine (spec_l1Cur_pick.calls g s0_0 x1001_1 x1002_1 20 t225 t226 t227 w0 _ ?side1 ?side2 A10.out).mono ?_); (case side1 => repeat (first | (with_reducible first | exact HI0.out | apply IsS52.alloc | apply IsS52.drewN | apply IsS52.drew | apply IsS52.set_1 | apply IsS52.set_2) | exact HI0.out)); (case side2 => repeat (first | (with_reducible first | exact HB.out | apply Z5 | apply Z3 | apply Z4 | refine Z6 ?_ (IsS52.ge HI0.out)) | exact HB.out)); rintro e w14 ⟨rfl, hi, hb, hk⟩; refine ⟨_, rfl, ?_⟩; replace HO_5 := Ya (Z12 (Kd.R_keep (IsS52.apart (show IsS52 w0 _ g s0_0 x1001_1 x1002_1 from by repeat (first | (with_reducible first | exact HI0.out | apply IsS52.alloc | apply IsS52.drewN | apply IsS52.drew | apply IsS52.set_1 | apply IsS52.set_2) | exact HI0.out)) (Yr HO_5.out) (by decide)) hk (fun _ h => h.2)) (fun _ h => h.1)); replace HK := Ya (KeepBut.trans Q3 hk (.inl rfl)); replace HB := Ya hb; replace HI0 := Ya hi; (try clear hb hk hi)) | ((with_reducible refine gate_dst (N := 29) rfl ?_); refine Kd.R_lit (Kd.int .i64) _ 3 ?hg (N := 29) ?hd (xs := ([0, 1, (-3), 12, 13] : List Int)) (inner := [.int .i64 0, .int .i64 1, .int .i64 (-3), .int .i64 12, .int .i64 13]) (ok := fun _ => True) (okp := fun _ => True) ?hr ?hp (fun _ hk => hk) trivial (Below.refl _ _) (Nat.le_refl _) (by simp) ?_; (case hd => rfl); (case hg => rfl); (case hr => first | (go_simp; done) | (go_simp; rfl)); (case hp => exact (Reps.one (show Kd.M (Kd.int .i64) _ _ _ 0 [.int .i64 0] from rfl) (Reps.one (show Kd.M (Kd.int .i64) _ _ _ 1 [.int .i64 1] from rfl) (Reps.one (show Kd.M (Kd.int .i64) _ _ _ (-3) [.int .i64 (-3)] from rfl) (Reps.one (show Kd.M (Kd.int .i64) _ _ _ 12 [.int .i64 12] from rfl) (Reps.one (show Kd.M (Kd.int .i64) _ _ _ 13 [.int .i64 13] from rfl) (Reps.none _ _))))))); intro v229 w15 ho16 hb hg_ hnew_; clear hg_ hnew_; (first | rw [← Ny228.out] at ho16 | (simp only [Int.reduceToNat] at ho16; rw [← Ny228.out] at ho16)); have HO230 := Ya (Kd.R_lower (Kd.R_new' ho16 (Z18 (Yr HO_5.out))) (keep_size (w := w) (g := g) (row := none) Q3)); replace HO_5 := Ya (Kd.R_elder' (Yr HO_5.out) (Kd.R_base ho16) hb); replace HK := Ya (KeepBut.trans Q3 (KeepBut.of_below hb g none) (.inl rfl)); replace HB := Ya (Z8 Q21 hb); replace HI0 := Ya (IsS52.below Q20 hb); clear hb ho16; obtain ⟨Ao17, co17, rfl⟩ := Z19 HO230.out) | ((with_reducible refine gate_callee (f := 28) rfl ?_); refine Yz 30 Try.func28 #[.pointer (some ⟨g, 0, none⟩), .slice Ao17 y228.length co17] ?_; (with_reducible refine (spec_l1Cur_among.calls g s0_0 t226 t227 _ _ y228 t231 t232 t233 w0 _ ?side1 ?side2 (Yc (Kd.R_reads' HO230.out).2.2) ((Kd.R_reads' HO230.out).2.1) ?side5 A12.out).mono ?_); (case side1 => repeat (first | (with_reducible first | exact HI0.out | apply IsS52.alloc | apply IsS52.drewN | apply IsS52.drew | apply IsS52.set_1 | apply IsS52.set_2) | exact HI0.out)); (case side2 => repeat (first | (with_reducible first | exact HB.out | apply Z5 | apply Z3 | apply Z4 | refine Z6 ?_ (IsS52.ge HI0.out)) | exact HB.out)); (case side5 => exact far_slice (IsS52.own_ne HI0.out HO230.out (by decide))); rintro e w18 ⟨rfl, hi, hb, hk⟩; refine ⟨_, rfl, ?_⟩; replace HO_5 := Ya (Z12 (Kd.R_keep (IsS52.apart (show IsS52 w0 _ g s0_0 t226 t227 from by repeat (first | (with_reducible first | exact HI0.out | apply IsS52.alloc | apply IsS52.drewN | apply IsS52.drew | apply IsS52.set_1 | apply IsS52.set_2) | exact HI0.out)) (Yr HO_5.out) (by decide)) hk (fun _ h => h.2)) (fun _ h => h.1)); replace HO230 := Ya (Z12 (Kd.R_keep (IsS52.apart (show IsS52 w0 _ g s0_0 t226 t227 from by repeat (first | (with_reducible first | exact HI0.out | apply IsS52.alloc | apply IsS52.drewN | apply IsS52.drew | apply IsS52.set_1 | apply IsS52.set_2) | exact HI0.out)) (Yr HO230.out) (by decide)) hk (fun _ h => h.2)) (fun _ h => h.1)); replace HK := Ya (KeepBut.trans Q3 hk (.inl rfl)); replace HB := Ya hb; replace HI0 := Ya hi; (try clear hb hk hi)) | ((with_reducible refine gate_builtin (b := .append) (xs := #[.tmp 27, .tmp 31]) rfl ?_); at_builtin; refine Kd.R_append (Kd.int .i64) w.heap.size rfl (.tmp 27) (.tmp 31) 24 3 (.int .i64 0) 8 rfl Try.underlying24 info3 rfl (by decide) (by omega) u5 x5_1 t231 [.int .i64 t231] (fun k_ => some k_ ≠ (.slice Ao17 y228.length co17 : Value).ownBlock) (fun _ => False) rfl rfl ?aP (fun _ hk => hk.elim) ?aF ?aO (Below.refl _ _) ?aS ?aL ?_; (case aP => exact rfl); (case aF => exact (fun k_ hk => Kd.fresh' (Z18 (Yr HO230.out)) k_ hk)); (case aO => exact (Yj HO_5.out (fun _ hk => hk.2))); (case aS => exact (keep_size (w := w) (g := g) (row := none) Q3)); (case aL => have := LMc13.out; omega); intro v235 w19 ho hb hg hat; rw [← Ny234.out] at ho; replace HO230 := Ya (Kd.R_after (ok := (fun _ => True)) (Yr HO230.out) hg hat); replace HB := Ya (below_weaken Q21 HL.out hb); replace HI0 := Ya (IsS52.grown Q20 hg (IsS52.own_ne HI0.out HO_5.out (by decide))); replace HK := Ya (KeepBut.trans Q3 (KeepBut.of_grown hg g) (Kd.R_base2 HO_5.out)); have HO236 := Ya ho; clear HO_5; clear ho hb hg hat))
      go_ret
      exact ⟨_, Q1, Yj HO236.out (fun _ hk => trivial), Q7, Q11, Q13⟩
     ·rw [if_neg c13] at H
      exact absurd H (by simp)
    ·rw [if_neg c11] at H
     have c11b0 : (t225 == 0) = false := beq_eq_false_iff_ne.mpr c11
     have c11b1 : (t225 != 0) = true := bne_iff_ne.mpr c11
     by_cases c20 : t225 = 1
     ·rw [if_pos c20] at H
      have c20b0 : (t225 == 1) = true := beq_iff_eq.mpr c20
      have c20b1 : (t225 != 1) = false := bne_eq_false_iff_eq.mpr c20
      clear c20
      replace H := Z37.mp H
      obtain ⟨⟨t237, t238, t239⟩, A210, H⟩ := H
      replace H : (spec_l1Cur_bases.l1 k1 x5_1 (wrap64 (5 + t237)) s0_0 t238 t239) = some (r1, r2, r3) := H
      have A21 := Ya A210
      clear A210
      have H' := Ya H
      clear H
      go_wp2_with (first | ((with_reducible refine gate_callee (f := 56) rfl ?_); refine Yz 24 Try.func56 #[.pointer (some ⟨g, 0, none⟩), .int .i64 20] ?_; (with_reducible refine (spec_l1Cur_pick.calls g s0_0 x1001_1 x1002_1 20 t225 t226 t227 w0 _ ?side1 ?side2 A10.out).mono ?_); (case side1 => repeat (first | (with_reducible first | exact HI0.out | apply IsS52.alloc | apply IsS52.drewN | apply IsS52.drew | apply IsS52.set_1 | apply IsS52.set_2) | exact HI0.out)); (case side2 => repeat (first | (with_reducible first | exact HB.out | apply Z5 | apply Z3 | apply Z4 | refine Z6 ?_ (IsS52.ge HI0.out)) | exact HB.out)); rintro e w22 ⟨rfl, hi, hb, hk⟩; refine ⟨_, rfl, ?_⟩; replace HO_5 := Ya (Z12 (Kd.R_keep (IsS52.apart (show IsS52 w0 _ g s0_0 x1001_1 x1002_1 from by repeat (first | (with_reducible first | exact HI0.out | apply IsS52.alloc | apply IsS52.drewN | apply IsS52.drew | apply IsS52.set_1 | apply IsS52.set_2) | exact HI0.out)) (Yr HO_5.out) (by decide)) hk (fun _ h => h.2)) (fun _ h => h.1)); replace HK := Ya (KeepBut.trans Q3 hk (.inl rfl)); replace HB := Ya hb; replace HI0 := Ya hi; (try clear hb hk hi)) | ((with_reducible refine gate_callee (f := 56) rfl ?_); refine Yz 36 Try.func56 #[.pointer (some ⟨g, 0, none⟩), .int .i64 3] ?_; (with_reducible refine (spec_l1Cur_pick.calls g s0_0 t226 t227 3 t237 t238 t239 w0 _ ?side1 ?side2 A21.out).mono ?_); (case side1 => repeat (first | (with_reducible first | exact HI0.out | apply IsS52.alloc | apply IsS52.drewN | apply IsS52.drew | apply IsS52.set_1 | apply IsS52.set_2) | exact HI0.out)); (case side2 => repeat (first | (with_reducible first | exact HB.out | apply Z5 | apply Z3 | apply Z4 | refine Z6 ?_ (IsS52.ge HI0.out)) | exact HB.out)); rintro e w23 ⟨rfl, hi, hb, hk⟩; refine ⟨_, rfl, ?_⟩; replace HO_5 := Ya (Z12 (Kd.R_keep (IsS52.apart (show IsS52 w0 _ g s0_0 t226 t227 from by repeat (first | (with_reducible first | exact HI0.out | apply IsS52.alloc | apply IsS52.drewN | apply IsS52.drew | apply IsS52.set_1 | apply IsS52.set_2) | exact HI0.out)) (Yr HO_5.out) (by decide)) hk (fun _ h => h.2)) (fun _ h => h.1)); replace HK := Ya (KeepBut.trans Q3 hk (.inl rfl)); replace HB := Ya hb; replace HI0 := Ya hi; (try clear hb hk hi)))
      go_loopg [5, 7] k1 (fun kq v5 v7 w' => ∃ (x5_2 : List Int) (x7_2 : Int), v7 = .int .i64 x7_2 ∧ Aside0 (spec_l1Cur_bases.l1 kq x5_2 x7_2 s0_0 t238 t239 = some (r1, r2, r3)) ∧ Aside0 (kq ≤ k1) ∧ Aside0 (Kd.R (Kd.int .i64) 3 w' w.heap.size (fun _ => True) v5 x5_2) ∧ Aside0 (IsS52 w0 w' g s0_0 t238 t239) ∧ Aside0 (KeepBut w w' g none) ∧ Aside0 (Below w0.heap.size w0 w'))
      case atStart => exact ⟨(x5_1), (wrap64 (5 + t237)), Q9, H', ⟨Nat.le_refl _⟩, ⟨Q63⟩, ⟨Q7⟩, ⟨Q13⟩, ⟨Q11⟩⟩
      case round =>
       clear H'
       try clear c1
       try clear c2
       try clear p2
       try clear c5
       try clear c5b0
       try clear p6
       try clear c7
       try clear c11
       try clear c11b0
       try clear c11b1
       try clear c13
       try clear c20
       try clear c20b0
       try clear c20b1
       try clear p2
       obtain ⟨x5_2, x7_2, rfl, HA, HK2, HO_5, HI0, HK, HB⟩ := hrel
       cases gk with
       | zero => exact absurd HA.out (by simp [spec_l1Cur_bases.l1])
       | succ k2 =>
        have H := HA.out
        clear HA
        simp only [spec_l1Cur_bases.l1] at H
        by_cases c24 : x7_2 > 0
        ·rw [if_pos c24] at H
         have c24b0 : decide (0 < x7_2) = true := Z39 c24
         clear c24
         by_cases c25 : x5_2.length < 17592186044416
         ·rw [if_pos c25] at H
          have LMc25 := Ya c25
          clear c25
          obtain ⟨y240, hy240⟩ : ∃ y_ : List Int, y_ = (x5_2 ++ [12]) := ⟨_, rfl⟩
          replace H : (spec_l1Cur_bases.l1 k2 y240 (wrap64 (x7_2 - 1)) s0_0 t238 t239) = some (r1, r2, r3) := by first | (rw [hy240]; with_reducible exact H) | (have H2_ := (Option.bind_some _ _).symm.trans H; rw [hy240]; with_reducible exact H2_) | (have H2_ := (Option.bind_some _ _).symm.trans H; with_reducible exact H2_) | with_reducible exact H | (rw [hy240]; exact H) | exact H
          have Ny240 := Ya hy240
          clear hy240
          have H' := Ya H
          clear H
          go_wp2_with (first | ((with_reducible refine gate_builtin (b := .append) (xs := #[.tmp 42, .tmp 43]) rfl ?_); at_builtin; refine Kd.R_append (Kd.int .i64) w.heap.size rfl (.tmp 42) (.tmp 43) 24 3 (.int .i64 0) 8 rfl Try.underlying24 info3 rfl (by decide) (by omega) u5 x5_2 12 [.int .i64 12] (fun _ => True) (fun _ => False) rfl rfl ?aP (fun _ hk => hk.elim) ?aF ?aO (Below.refl _ _) ?aS ?aL ?_; (case aP => exact rfl); (case aF => exact (fun _ _ => trivial)); (case aO => exact (Yr HO_5.out)); (case aS => exact (keep_size (w := w) (g := g) (row := none) Q3)); (case aL => have := LMc25.out; omega); intro v241 w26 ho hb hg hat; rw [← Ny240.out] at ho; replace HB := Ya (below_weaken Q21 HL.out hb); replace HI0 := Ya (IsS52.grown Q20 hg (IsS52.own_ne HI0.out HO_5.out (by decide))); replace HK := Ya (KeepBut.trans Q3 (KeepBut.of_grown hg g) (Kd.R_base2 HO_5.out)); have HO242 := Ya ho; clear HO_5; clear ho hb hg hat))
          go_roundg k2
          case measure => have := HK1.out; have := HK2.out; omega
          case rel => exact ⟨(y240), (wrap64 (x7_2 - 1)), Q9, H', ⟨by have := HK1.out; have := HK2.out; omega⟩, ⟨by (with_reducible repeat (first | apply Z9 | apply Z10 | apply Z11)); exact HO242.out⟩, ⟨Q7⟩, ⟨Q13⟩, ⟨Q11⟩⟩
         ·rw [if_neg c25] at H
          exact absurd H (by simp)
        ·rw [if_neg c24] at H
         have c24b0 : decide (0 < x7_2) = false := Z38 c24
         clear c24
         simp only [Option.some.injEq, Prod.mk.injEq] at H
         obtain ⟨rfl, rfl, rfl⟩ := H
         go_wp2
         go_ret
         exact ⟨_, Q1, Q63, Q7, Q11, Q13⟩
     ·rw [if_neg c20] at H
      have c20b0 : (t225 == 1) = false := beq_eq_false_iff_ne.mpr c20
      have c20b1 : (t225 != 1) = true := bne_iff_ne.mpr c20
      by_cases c27 : t225 = 2
      ·rw [if_pos c27] at H
       have c27b0 : (t225 == 2) = true := beq_iff_eq.mpr c27
       have c27b1 : (t225 != 2) = false := bne_eq_false_iff_eq.mpr c27
       clear c27
       replace H := Z37.mp H
       obtain ⟨⟨t243, t244, t245⟩, A280, H⟩ := H
       replace H : (spec_l1Cur_bases.l2 k1 ([] : List Int) (wrap64 (12 + t243)) s0_0 t244 t245) = some (r1, r2, r3) := H
       have A28 := Ya A280
       clear A280
       have H' := Ya H
       clear H
       go_wp2_with (first | ((with_reducible refine gate_callee (f := 56) rfl ?_); refine Yz 24 Try.func56 #[.pointer (some ⟨g, 0, none⟩), .int .i64 20] ?_; (with_reducible refine (spec_l1Cur_pick.calls g s0_0 x1001_1 x1002_1 20 t225 t226 t227 w0 _ ?side1 ?side2 A10.out).mono ?_); (case side1 => repeat (first | (with_reducible first | exact HI0.out | apply IsS52.alloc | apply IsS52.drewN | apply IsS52.drew | apply IsS52.set_1 | apply IsS52.set_2) | exact HI0.out)); (case side2 => repeat (first | (with_reducible first | exact HB.out | apply Z5 | apply Z3 | apply Z4 | refine Z6 ?_ (IsS52.ge HI0.out)) | exact HB.out)); rintro e w29 ⟨rfl, hi, hb, hk⟩; refine ⟨_, rfl, ?_⟩; replace HO_5 := Ya (Z12 (Kd.R_keep (IsS52.apart (show IsS52 w0 _ g s0_0 x1001_1 x1002_1 from by repeat (first | (with_reducible first | exact HI0.out | apply IsS52.alloc | apply IsS52.drewN | apply IsS52.drew | apply IsS52.set_1 | apply IsS52.set_2) | exact HI0.out)) (Yr HO_5.out) (by decide)) hk (fun _ h => h.2)) (fun _ h => h.1)); replace HK := Ya (KeepBut.trans Q3 hk (.inl rfl)); replace HB := Ya hb; replace HI0 := Ya hi; (try clear hb hk hi)) | ((with_reducible refine gate_callee (f := 56) rfl ?_); refine Yz 48 Try.func56 #[.pointer (some ⟨g, 0, none⟩), .int .i64 2] ?_; (with_reducible refine (spec_l1Cur_pick.calls g s0_0 t226 t227 2 t243 t244 t245 w0 _ ?side1 ?side2 A28.out).mono ?_); (case side1 => repeat (first | (with_reducible first | exact HI0.out | apply IsS52.alloc | apply IsS52.drewN | apply IsS52.drew | apply IsS52.set_1 | apply IsS52.set_2) | exact HI0.out)); (case side2 => repeat (first | (with_reducible first | exact HB.out | apply Z5 | apply Z3 | apply Z4 | refine Z6 ?_ (IsS52.ge HI0.out)) | exact HB.out)); rintro e w30 ⟨rfl, hi, hb, hk⟩; refine ⟨_, rfl, ?_⟩; replace HO_5 := Ya (Z12 (Kd.R_keep (IsS52.apart (show IsS52 w0 _ g s0_0 t226 t227 from by repeat (first | (with_reducible first | exact HI0.out | apply IsS52.alloc | apply IsS52.drewN | apply IsS52.drew | apply IsS52.set_1 | apply IsS52.set_2) | exact HI0.out)) (Yr HO_5.out) (by decide)) hk (fun _ h => h.2)) (fun _ h => h.1)); replace HK := Ya (KeepBut.trans Q3 hk (.inl rfl)); replace HB := Ya hb; replace HI0 := Ya hi; (try clear hb hk hi)))
       go_loopg [5, 8] k1 (fun kq v5 v8 w' => ∃ (x5_2 : List Int) (x8_2 : Int), v8 = .int .i64 x8_2 ∧ Aside0 (spec_l1Cur_bases.l2 kq x5_2 x8_2 s0_0 t244 t245 = some (r1, r2, r3)) ∧ Aside0 (kq ≤ k1) ∧ Aside0 (Kd.R (Kd.int .i64) 3 w' w.heap.size (fun _ => True) v5 x5_2) ∧ Aside0 (IsS52 w0 w' g s0_0 t244 t245) ∧ Aside0 (KeepBut w w' g none) ∧ Aside0 (Below w0.heap.size w0 w'))
       case atStart => exact ⟨(([] : List Int)), (wrap64 (12 + t243)), Q9, H', ⟨Nat.le_refl _⟩, ⟨Q14⟩, ⟨Q7⟩, ⟨Q13⟩, ⟨Q11⟩⟩
       case round =>
        clear H'
        try clear c1
        try clear c2
        try clear p2
        try clear c5
        try clear c5b0
        try clear p6
        try clear c7
        try clear c11
        try clear c11b0
        try clear c11b1
        try clear c13
        try clear c20
        try clear c20b0
        try clear c20b1
        try clear c24
        try clear c24b0
        try clear c25
        try clear c27
        try clear c27b0
        try clear c27b1
        try clear c28
        try clear p2
        try clear p6
        obtain ⟨x5_2, x8_2, rfl, HA, HK2, HO_5, HI0, HK, HB⟩ := hrel
        cases gk with
        | zero => exact absurd HA.out (by simp [spec_l1Cur_bases.l2])
        | succ k2 =>
         have H := HA.out
         clear HA
         simp only [spec_l1Cur_bases.l2] at H
         by_cases c31 : x8_2 > 0
         ·rw [if_pos c31] at H
          have c31b0 : decide (0 < x8_2) = true := Z39 c31
          clear c31
          by_cases c32 : x5_2.length < 17592186044416
          ·rw [if_pos c32] at H
           have LMc32 := Ya c32
           clear c32
           obtain ⟨y246, hy246⟩ : ∃ y_ : List Int, y_ = (x5_2 ++ [2]) := ⟨_, rfl⟩
           replace H : (spec_l1Cur_bases.l2 k2 y246 (wrap64 (x8_2 - 1)) s0_0 t244 t245) = some (r1, r2, r3) := by first | (rw [hy246]; with_reducible exact H) | (have H2_ := (Option.bind_some _ _).symm.trans H; rw [hy246]; with_reducible exact H2_) | (have H2_ := (Option.bind_some _ _).symm.trans H; with_reducible exact H2_) | with_reducible exact H | (rw [hy246]; exact H) | exact H
           have Ny246 := Ya hy246
           clear hy246
           have H' := Ya H
           clear H
           go_wp2_with (first | ((with_reducible refine gate_builtin (b := .append) (xs := #[.tmp 54, .tmp 55]) rfl ?_); at_builtin; refine Kd.R_append (Kd.int .i64) w.heap.size rfl (.tmp 54) (.tmp 55) 24 3 (.int .i64 0) 8 rfl Try.underlying24 info3 rfl (by decide) (by omega) u5 x5_2 2 [.int .i64 2] (fun _ => True) (fun _ => False) rfl rfl ?aP (fun _ hk => hk.elim) ?aF ?aO (Below.refl _ _) ?aS ?aL ?_; (case aP => exact rfl); (case aF => exact (fun _ _ => trivial)); (case aO => exact (Yr HO_5.out)); (case aS => exact (keep_size (w := w) (g := g) (row := none) Q3)); (case aL => have := LMc32.out; omega); intro v247 w33 ho hb hg hat; rw [← Ny246.out] at ho; replace HB := Ya (below_weaken Q21 HL.out hb); replace HI0 := Ya (IsS52.grown Q20 hg (IsS52.own_ne HI0.out HO_5.out (by decide))); replace HK := Ya (KeepBut.trans Q3 (KeepBut.of_grown hg g) (Kd.R_base2 HO_5.out)); have HO248 := Ya ho; clear HO_5; clear ho hb hg hat))
           go_roundg k2
           case measure => have := HK1.out; have := HK2.out; omega
           case rel => exact ⟨(y246), (wrap64 (x8_2 - 1)), Q9, H', ⟨by have := HK1.out; have := HK2.out; omega⟩, ⟨by (with_reducible repeat (first | apply Z9 | apply Z10 | apply Z11)); exact HO248.out⟩, ⟨Q7⟩, ⟨Q13⟩, ⟨Q11⟩⟩
          ·rw [if_neg c32] at H
           exact absurd H (by simp)
         ·rw [if_neg c31] at H
          have c31b0 : decide (0 < x8_2) = false := Z38 c31
          clear c31
          simp only [Option.some.injEq, Prod.mk.injEq] at H
          obtain ⟨rfl, rfl, rfl⟩ := H
          go_wp2
          go_ret
          exact ⟨_, Q1, Q63, Q7, Q11, Q13⟩
      ·rw [if_neg c27] at H
       have c27b0 : (t225 == 2) = false := beq_eq_false_iff_ne.mpr c27
       have c27b1 : (t225 != 2) = true := bne_iff_ne.mpr c27
       simp only [Option.some.injEq, Prod.mk.injEq] at H
       obtain ⟨rfl, rfl, rfl⟩ := H
       go_wp2_with (first | ((with_reducible refine gate_callee (f := 56) rfl ?_); refine Yz 24 Try.func56 #[.pointer (some ⟨g, 0, none⟩), .int .i64 20] ?_; (with_reducible refine (spec_l1Cur_pick.calls g s0_0 x1001_1 x1002_1 20 t225 t226 t227 w0 _ ?side1 ?side2 A10.out).mono ?_); (case side1 => repeat (first | (with_reducible first | exact HI0.out | apply IsS52.alloc | apply IsS52.drewN | apply IsS52.drew | apply IsS52.set_1 | apply IsS52.set_2) | exact HI0.out)); (case side2 => repeat (first | (with_reducible first | exact HB.out | apply Z5 | apply Z3 | apply Z4 | refine Z6 ?_ (IsS52.ge HI0.out)) | exact HB.out)); rintro e w34 ⟨rfl, hi, hb, hk⟩; refine ⟨_, rfl, ?_⟩; replace HO_5 := Ya (Z12 (Kd.R_keep (IsS52.apart (show IsS52 w0 _ g s0_0 x1001_1 x1002_1 from by repeat (first | (with_reducible first | exact HI0.out | apply IsS52.alloc | apply IsS52.drewN | apply IsS52.drew | apply IsS52.set_1 | apply IsS52.set_2) | exact HI0.out)) (Yr HO_5.out) (by decide)) hk (fun _ h => h.2)) (fun _ h => h.1)); replace HK := Ya (KeepBut.trans Q3 hk (.inl rfl)); replace HB := Ya hb; replace HI0 := Ya hi; (try clear hb hk hi)))
       go_ret
       exact ⟨_, Q1, Q63, Q7, Q11, Q13⟩
def spec_l1Cur_small.l0 : Nat → List Int → Int → List Int → Int → Int → Option (List Int × Int × Int)
 | 0, _, _, _, _, _ => none
 | k + 1, x3, x4, x1000, x1001, x1002 => if x4 > 0 then ((spec_l1Cur_pick.f x1000 x1001 x1002 3).bind fun bt260 => (if x3.length < 17592186044416 then (spec_l1Cur_small.l0 k (x3 ++ [wrap64 (2 + bt260.1)]) (wrap64 (x4 - 1)) x1000 bt260.2.1 bt260.2.2) else (none))) else ((spec_l1Cur_one.f x1000 x1001 x1002 30).bind fun bt266 => (if bt266.1 = true then (some ((([2, 3, 4, 5, 6, 7] : List Int)), bt266.2.1, bt266.2.2)) else ((spec_l1Cur_one.f x1000 bt266.2.1 bt266.2.2 30).bind fun bt272 => (if bt272.1 = true then (some ((([12, 12, 12, 3] : List Int)), bt272.2.1, bt272.2.2)) else (some (x3, bt272.2.1, bt272.2.2))))))
def spec_l1Cur_small.f (k : Nat) (s0_0 : List Int) (s0_1 : Int) (s0_2 : Int) : Option (List Int × Int × Int) := (spec_l1Cur_one.f s0_0 s0_1 s0_2 20).bind fun bt249 => (if bt249.1 = true then ((spec_l1Cur_bases.f k s0_0 bt249.2.1 bt249.2.2 6).bind fun bt252 => (some (bt252.1, bt252.2.1, bt252.2.2))) else ((spec_l1Cur_pick.f s0_0 bt249.2.1 bt249.2.2 5).bind fun bt257 => (spec_l1Cur_small.l0 k ([] : List Int) bt257.1 s0_0 bt257.2.1 bt257.2.2)))
theorem spec_l1Cur_small.mono_l : ∀ k, (∀ y0 y1 y2 y3 y4, LeO (spec_l1Cur_small.l0 k y0 y1 y2 y3 y4) (spec_l1Cur_small.l0 (k + 1) y0 y1 y2 y3 y4))
 | 0 => fun _ _ _ _ _ r h => by simp [spec_l1Cur_small.l0] at h
 | k + 1 => by
  have ih0 := spec_l1Cur_small.mono_l k
  ·intro y0 y1 y2 y3 y4
   unfold spec_l1Cur_small.l0
   repeat' first
   | (with_reducible exact ih0 _ _ _ _ _)
   | (with_reducible exact spec_l1Cur_bases.mono _ _ _ _ _)
   | (with_reducible exact LeO.refl _)
   | (with_reducible exact LeO.none _)
   | (with_reducible refine LeO.ite ?_ ?_)
   | (with_reducible refine LeO.bind ?_ (fun _ => ?_))
   | exact ih0 _ _ _ _ _
   | exact spec_l1Cur_bases.mono _ _ _ _ _
   | exact LeO.none _
   | refine LeO.ite ?_ ?_
   | refine LeO.bind ?_ (fun _ => ?_)
theorem spec_l1Cur_small.mono : ∀ a0 a1 a2 k, LeO (spec_l1Cur_small.f k a0 a1 a2) (spec_l1Cur_small.f (k + 1) a0 a1 a2) := by
 intro a0 a1 a2 k
 have ih0 := spec_l1Cur_small.mono_l k
 unfold spec_l1Cur_small.f
 repeat' first
   | (with_reducible exact ih0 _ _ _ _ _)
   | (with_reducible exact spec_l1Cur_bases.mono _ _ _ _ _)
   | (with_reducible exact LeO.refl _)
   | (with_reducible exact LeO.none _)
   | (with_reducible refine LeO.ite ?_ ?_)
   | (with_reducible refine LeO.bind ?_ (fun _ => ?_))
   | exact ih0 _ _ _ _ _
   | exact spec_l1Cur_bases.mono _ _ _ _ _
   | exact LeO.none _
   | refine LeO.ite ?_ ?_
   | refine LeO.bind ?_ (fun _ => ?_)
set_option maxHeartbeats 8000000 in
set_option maxRecDepth 100000 in
theorem spec_l1Cur_small.calls (k : Nat) (g : Nat) (s0_0 : List Int) (s0_1 : Int) (s0_2 : Int) (r1 : List Int) (r2 : Int) (r3 : Int) (w0 w : World) (hI : IsS52 w0 w g s0_0 s0_1 s0_2) (hB : Below w0.heap.size w0 w) (h : spec_l1Cur_small.f k s0_0 s0_1 s0_2 = some (r1, r2, r3)) :
  Calls Try.prog 27 #[.pointer (some ⟨g, 0, none⟩)] w fun e w' => ∃ v0_ : Value, e = .returned (v0_) ∧ Kd.R (Kd.int .i64) 3 w' w.heap.size (fun _ => True) v0_ r1 ∧ IsS52 w0 w' g s0_0 r2 r3 ∧ Below w0.heap.size w0 w' ∧ KeepBut w w' g none := by
 have HI0 := Ya hI
 have HK := Ya (KeepBut.refl w g none)
 have HL := Ya hB.size
 clear hI
 have HW0 := Ya hB.size
 have HB := Ya hB
 clear hB
 have H : ((spec_l1Cur_one.f s0_0 s0_1 s0_2 20).bind fun bt249 => (if bt249.1 = true then ((spec_l1Cur_bases.f k s0_0 bt249.2.1 bt249.2.2 6).bind fun bt252 => (some (bt252.1, bt252.2.1, bt252.2.2))) else ((spec_l1Cur_pick.f s0_0 bt249.2.1 bt249.2.2 5).bind fun bt257 => (spec_l1Cur_small.l0 k ([] : List Int) bt257.1 s0_0 bt257.2.1 bt257.2.2)))) = some (r1, r2, r3) := h
 clear h
 replace H := Z37.mp H
 obtain ⟨⟨t249, t250, t251⟩, A20, H⟩ := H
 replace H : (if t249 = true then ((spec_l1Cur_bases.f k s0_0 t250 t251 6).bind fun bt252 => (some (bt252.1, bt252.2.1, bt252.2.2))) else ((spec_l1Cur_pick.f s0_0 t250 t251 5).bind fun bt257 => (spec_l1Cur_small.l0 k ([] : List Int) bt257.1 s0_0 bt257.2.1 bt257.2.2))) = some (r1, r2, r3) := H
 have A2 := Ya A20
 clear A20
 by_cases c3 : t249 = true
 ·subst c3
  have H1 : ((spec_l1Cur_bases.f k s0_0 t250 t251 6).bind fun bt252 => (some (bt252.1, bt252.2.1, bt252.2.2))) = some (r1, r2, r3) := by rw [if_pos rfl] at H; exact H
  clear H
  have H := H1
  clear H1
  replace H := Z37.mp H
  obtain ⟨⟨t252, t255, t256⟩, A40, H⟩ := H
  replace H : (some (t252, t255, t256)) = some (r1, r2, r3) := H
  have A4 := Ya A40
  clear A40
  simp only [Option.some.injEq, Prod.mk.injEq] at H
  obtain ⟨rfl, rfl, rfl⟩ := H
  go_enter Try.func27, Try.ntmps27
  go_wp2_with (first | ((with_reducible refine gate_callee (f := 54) rfl ?_); refine Yz 6 Try.func54 #[.pointer (some ⟨g, 0, none⟩), .int .i64 20] ?_; (with_reducible refine (spec_l1Cur_one.calls g s0_0 s0_1 s0_2 20 true t250 t251 w0 _ ?side1 ?side2 A2.out).mono ?_); (case side1 => repeat (first | (with_reducible first | exact HI0.out | apply IsS52.alloc | apply IsS52.drewN | apply IsS52.drew | apply IsS52.set_1 | apply IsS52.set_2) | exact HI0.out)); (case side2 => repeat (first | (with_reducible first | exact HB.out | apply Z5 | apply Z3 | apply Z4 | refine Z6 ?_ (IsS52.ge HI0.out)) | exact HB.out)); rintro e w5 ⟨rfl, hi, hb, hk⟩; refine ⟨_, rfl, ?_⟩; replace HK := Ya (KeepBut.trans Q3 hk (.inl rfl)); replace HB := Ya hb; replace HI0 := Ya hi; (try clear hb hk hi)) | ((with_reducible refine gate_callee (f := 55) rfl ?_); refine Yz 8 Try.func55 #[.pointer (some ⟨g, 0, none⟩), .int .i64 6] ?_; (with_reducible refine (spec_l1Cur_bases.calls k g s0_0 t250 t251 6 t252 t255 t256 w0 _ ?side1 ?side2 A4.out).mono ?_); (case side1 => repeat (first | (with_reducible first | exact HI0.out | apply IsS52.alloc | apply IsS52.drewN | apply IsS52.drew | apply IsS52.set_1 | apply IsS52.set_2) | exact HI0.out)); (case side2 => repeat (first | (with_reducible first | exact HB.out | apply Z5 | apply Z3 | apply Z4 | refine Z6 ?_ (IsS52.ge HI0.out)) | exact HB.out)); rintro e w6 ⟨v253, rfl, ho0, hi, hb, hk⟩; refine ⟨_, rfl, ?_⟩; have HO254 := Ya (Kd.R_lower ho0 (keep_size (w := w) (g := g) (row := none) Q3)); replace HK := Ya (KeepBut.trans Q3 hk (.inl rfl)); replace HB := Ya hb; replace HI0 := Ya hi; (try clear hb hk hi ho0)))
  go_ret
  exact ⟨_, Q1, by (with_reducible repeat (first | apply Z9 | apply Z10 | apply Z11)); exact HO254.out, Q7, Q11, Q13⟩
 ·replace c3 := Bool.eq_false_iff.mpr c3
  subst c3
  have H1 : ((spec_l1Cur_pick.f s0_0 t250 t251 5).bind fun bt257 => (spec_l1Cur_small.l0 k ([] : List Int) bt257.1 s0_0 bt257.2.1 bt257.2.2)) = some (r1, r2, r3) := by rw [if_neg (show ¬ (false = true) by decide)] at H; exact H
  clear H
  have H := H1
  clear H1
  replace H := Z37.mp H
  obtain ⟨⟨t257, t258, t259⟩, A70, H⟩ := H
  replace H : (spec_l1Cur_small.l0 k ([] : List Int) t257 s0_0 t258 t259) = some (r1, r2, r3) := H
  have A7 := Ya A70
  clear A70
  have H' := Ya H
  clear H
  go_enter Try.func27, Try.ntmps27
  go_wp2_with (first | ((with_reducible refine gate_callee (f := 54) rfl ?_); refine Yz 6 Try.func54 #[.pointer (some ⟨g, 0, none⟩), .int .i64 20] ?_; (with_reducible refine (spec_l1Cur_one.calls g s0_0 s0_1 s0_2 20 false t250 t251 w0 _ ?side1 ?side2 A2.out).mono ?_); (case side1 => repeat (first | (with_reducible first | exact HI0.out | apply IsS52.alloc | apply IsS52.drewN | apply IsS52.drew | apply IsS52.set_1 | apply IsS52.set_2) | exact HI0.out)); (case side2 => repeat (first | (with_reducible first | exact HB.out | apply Z5 | apply Z3 | apply Z4 | refine Z6 ?_ (IsS52.ge HI0.out)) | exact HB.out)); rintro e w8 ⟨rfl, hi, hb, hk⟩; refine ⟨_, rfl, ?_⟩; replace HK := Ya (KeepBut.trans Q3 hk (.inl rfl)); replace HB := Ya hb; replace HI0 := Ya hi; (try clear hb hk hi)) | ((with_reducible refine gate_callee (f := 56) rfl ?_); refine Yz 10 Try.func56 #[.pointer (some ⟨g, 0, none⟩), .int .i64 5] ?_; (with_reducible refine (spec_l1Cur_pick.calls g s0_0 t250 t251 5 t257 t258 t259 w0 _ ?side1 ?side2 A7.out).mono ?_); (case side1 => repeat (first | (with_reducible first | exact HI0.out | apply IsS52.alloc | apply IsS52.drewN | apply IsS52.drew | apply IsS52.set_1 | apply IsS52.set_2) | exact HI0.out)); (case side2 => repeat (first | (with_reducible first | exact HB.out | apply Z5 | apply Z3 | apply Z4 | refine Z6 ?_ (IsS52.ge HI0.out)) | exact HB.out)); rintro e w9 ⟨rfl, hi, hb, hk⟩; refine ⟨_, rfl, ?_⟩; replace HK := Ya (KeepBut.trans Q3 hk (.inl rfl)); replace HB := Ya hb; replace HI0 := Ya hi; (try clear hb hk hi)))
  go_loopg [3, 4] k (fun kq v3 v4 w' => ∃ (x3_1 : List Int) (x4_1 : Int) (x1001_1 : Int) (x1002_1 : Int), v4 = .int .i64 x4_1 ∧ Aside0 (spec_l1Cur_small.l0 kq x3_1 x4_1 s0_0 x1001_1 x1002_1 = some (r1, r2, r3)) ∧ Aside0 (kq ≤ k) ∧ Aside0 (Kd.R (Kd.int .i64) 3 w' w.heap.size (fun _ => True) v3 x3_1) ∧ Aside0 (IsS52 w0 w' g s0_0 x1001_1 x1002_1) ∧ Aside0 (KeepBut w w' g none) ∧ Aside0 (Below w0.heap.size w0 w'))
  case atStart => exact ⟨(([] : List Int)), (t257), (t258), (t259), Q9, H', ⟨Nat.le_refl _⟩, ⟨Q14⟩, ⟨Q7⟩, ⟨Q13⟩, ⟨Q11⟩⟩
  case round =>
   clear H'
   try clear c2
   try clear p2
   try clear c3
   try clear c5
   obtain ⟨x3_1, x4_1, x1001_1, x1002_1, rfl, HA, HK1, HO_3, HI0, HK, HB⟩ := hrel
   cases gk with
   | zero => exact absurd HA.out (by simp [spec_l1Cur_small.l0])
   | succ k1 =>
    have H := HA.out
    clear HA
    simp only [spec_l1Cur_small.l0] at H
    by_cases c10 : x4_1 > 0
    ·rw [if_pos c10] at H
     have c10b0 : decide (0 < x4_1) = true := Z39 c10
     clear c10
     replace H := Z37.mp H
     obtain ⟨⟨t260, t261, t262⟩, A110, H⟩ := H
     replace H : (if x3_1.length < 17592186044416 then (spec_l1Cur_small.l0 k1 (x3_1 ++ [wrap64 (2 + t260)]) (wrap64 (x4_1 - 1)) s0_0 t261 t262) else (none)) = some (r1, r2, r3) := H
     have A11 := Ya A110
     clear A110
     by_cases c12 : x3_1.length < 17592186044416
     ·rw [if_pos c12] at H
      have LMc12 := Ya c12
      clear c12
      obtain ⟨y263, hy263⟩ : ∃ y_ : List Int, y_ = (x3_1 ++ [wrap64 (2 + t260)]) := ⟨_, rfl⟩
      replace H : (spec_l1Cur_small.l0 k1 y263 (wrap64 (x4_1 - 1)) s0_0 t261 t262) = some (r1, r2, r3) := by first | (rw [hy263]; with_reducible exact H) | (have H2_ := (Option.bind_some _ _).symm.trans H; rw [hy263]; with_reducible exact H2_) | (have H2_ := (Option.bind_some _ _).symm.trans H; with_reducible exact H2_) | with_reducible exact H | (rw [hy263]; exact H) | exact H
      have Ny263 := Ya hy263
      clear hy263
      have H' := Ya H
      clear H
      go_wp2_with (first | ((with_reducible refine gate_callee (f := 56) rfl ?_); refine Yz 17 Try.func56 #[.pointer (some ⟨g, 0, none⟩), .int .i64 3] ?_; (with_reducible refine (spec_l1Cur_pick.calls g s0_0 x1001_1 x1002_1 3 t260 t261 t262 w0 _ ?side1 ?side2 A11.out).mono ?_); (case side1 => repeat (first | (with_reducible first | exact HI0.out | apply IsS52.alloc | apply IsS52.drewN | apply IsS52.drew | apply IsS52.set_1 | apply IsS52.set_2) | exact HI0.out)); (case side2 => repeat (first | (with_reducible first | exact HB.out | apply Z5 | apply Z3 | apply Z4 | refine Z6 ?_ (IsS52.ge HI0.out)) | exact HB.out)); rintro e w13 ⟨rfl, hi, hb, hk⟩; refine ⟨_, rfl, ?_⟩; replace HO_3 := Ya (Z12 (Kd.R_keep (IsS52.apart (show IsS52 w0 _ g s0_0 x1001_1 x1002_1 from by repeat (first | (with_reducible first | exact HI0.out | apply IsS52.alloc | apply IsS52.drewN | apply IsS52.drew | apply IsS52.set_1 | apply IsS52.set_2) | exact HI0.out)) (Yr HO_3.out) (by decide)) hk (fun _ h => h.2)) (fun _ h => h.1)); replace HK := Ya (KeepBut.trans Q3 hk (.inl rfl)); replace HB := Ya hb; replace HI0 := Ya hi; (try clear hb hk hi)) | ((with_reducible refine gate_builtin (b := .append) (xs := #[.tmp 15, .tmp 19]) rfl ?_); at_builtin; refine Kd.R_append (Kd.int .i64) w.heap.size rfl (.tmp 15) (.tmp 19) 24 3 (.int .i64 0) 8 rfl Try.underlying24 info3 rfl (by decide) (by omega) u3 x3_1 (wrap64 (2 + t260)) [.int .i64 (wrap64 (2 + t260))] (fun _ => True) (fun _ => False) rfl rfl ?aP (fun _ hk => hk.elim) ?aF ?aO (Below.refl _ _) ?aS ?aL ?_; (case aP => exact rfl); (case aF => exact (fun _ _ => trivial)); (case aO => exact (Yr HO_3.out)); (case aS => exact (keep_size (w := w) (g := g) (row := none) Q3)); (case aL => have := LMc12.out; omega); intro v264 w14 ho hb hg hat; rw [← Ny263.out] at ho; replace HB := Ya (below_weaken Q21 HL.out hb); replace HI0 := Ya (IsS52.grown Q20 hg (IsS52.own_ne HI0.out HO_3.out (by decide))); replace HK := Ya (KeepBut.trans Q3 (KeepBut.of_grown hg g) (Kd.R_base2 HO_3.out)); have HO265 := Ya ho; clear HO_3; clear ho hb hg hat))
      go_roundg k1
      case measure => have := HK1.out; omega
      case rel => exact ⟨(y263), (wrap64 (x4_1 - 1)), (t261), (t262), Q9, H', ⟨Q45⟩, ⟨by (with_reducible repeat (first | apply Z9 | apply Z10 | apply Z11)); exact HO265.out⟩, ⟨Q7⟩, ⟨Q13⟩, ⟨Q11⟩⟩
     ·rw [if_neg c12] at H
      exact absurd H (by simp)
    ·rw [if_neg c10] at H
     have c10b0 : decide (0 < x4_1) = false := Z38 c10
     clear c10
     replace H := Z37.mp H
     obtain ⟨⟨t266, t267, t268⟩, A150, H⟩ := H
     replace H : (if t266 = true then (some ((([2, 3, 4, 5, 6, 7] : List Int)), t267, t268)) else ((spec_l1Cur_one.f s0_0 t267 t268 30).bind fun bt272 => (if bt272.1 = true then (some ((([12, 12, 12, 3] : List Int)), bt272.2.1, bt272.2.2)) else (some (x3_1, bt272.2.1, bt272.2.2))))) = some (r1, r2, r3) := H
     have A15 := Ya A150
     clear A150
     by_cases c16 : t266 = true
     ·subst c16
      have H1 : (some ((([2, 3, 4, 5, 6, 7] : List Int)), t267, t268)) = some (r1, r2, r3) := by rw [if_pos rfl] at H; exact H
      clear H
      have H := H1
      clear H1
      obtain ⟨y269, hy269⟩ : ∃ y_ : List Int, y_ = (([2, 3, 4, 5, 6, 7] : List Int)) := ⟨_, rfl⟩
      replace H : (some (y269, t267, t268)) = some (r1, r2, r3) := by first | (rw [hy269]; with_reducible exact H) | (have H2_ := (Option.bind_some _ _).symm.trans H; rw [hy269]; with_reducible exact H2_) | (have H2_ := (Option.bind_some _ _).symm.trans H; with_reducible exact H2_) | with_reducible exact H | (rw [hy269]; exact H) | exact H
      have Ny269 := Ya hy269
      clear hy269
      simp only [Option.some.injEq, Prod.mk.injEq] at H
      obtain ⟨rfl, rfl, rfl⟩ := H
      go_wp2_with (first | ((with_reducible refine gate_callee (f := 54) rfl ?_); refine Yz 22 Try.func54 #[.pointer (some ⟨g, 0, none⟩), .int .i64 30] ?_; (with_reducible refine (spec_l1Cur_one.calls g s0_0 x1001_1 x1002_1 30 true t267 t268 w0 _ ?side1 ?side2 A15.out).mono ?_); (case side1 => repeat (first | (with_reducible first | exact HI0.out | apply IsS52.alloc | apply IsS52.drewN | apply IsS52.drew | apply IsS52.set_1 | apply IsS52.set_2) | exact HI0.out)); (case side2 => repeat (first | (with_reducible first | exact HB.out | apply Z5 | apply Z3 | apply Z4 | refine Z6 ?_ (IsS52.ge HI0.out)) | exact HB.out)); rintro e w17 ⟨rfl, hi, hb, hk⟩; refine ⟨_, rfl, ?_⟩; replace HO_3 := Ya (Z12 (Kd.R_keep (IsS52.apart (show IsS52 w0 _ g s0_0 x1001_1 x1002_1 from by repeat (first | (with_reducible first | exact HI0.out | apply IsS52.alloc | apply IsS52.drewN | apply IsS52.drew | apply IsS52.set_1 | apply IsS52.set_2) | exact HI0.out)) (Yr HO_3.out) (by decide)) hk (fun _ h => h.2)) (fun _ h => h.1)); replace HK := Ya (KeepBut.trans Q3 hk (.inl rfl)); replace HB := Ya hb; replace HI0 := Ya hi; (try clear hb hk hi)) | ((with_reducible refine gate_dst (N := 23) rfl ?_); refine Kd.R_lit (Kd.int .i64) _ 3 ?hg (N := 23) ?hd (xs := ([2, 3, 4, 5, 6, 7] : List Int)) (inner := [.int .i64 2, .int .i64 3, .int .i64 4, .int .i64 5, .int .i64 6, .int .i64 7]) (ok := fun _ => True) (okp := fun _ => True) ?hr ?hp (fun _ hk => hk) trivial (Below.refl _ _) (Nat.le_refl _) (by simp) ?_; (case hd => rfl); (case hg => rfl); (case hr => first | (go_simp; done) | (go_simp; rfl)); (case hp => exact (Reps.one (show Kd.M (Kd.int .i64) _ _ _ 2 [.int .i64 2] from rfl) (Reps.one (show Kd.M (Kd.int .i64) _ _ _ 3 [.int .i64 3] from rfl) (Reps.one (show Kd.M (Kd.int .i64) _ _ _ 4 [.int .i64 4] from rfl) (Reps.one (show Kd.M (Kd.int .i64) _ _ _ 5 [.int .i64 5] from rfl) (Reps.one (show Kd.M (Kd.int .i64) _ _ _ 6 [.int .i64 6] from rfl) (Reps.one (show Kd.M (Kd.int .i64) _ _ _ 7 [.int .i64 7] from rfl) (Reps.none _ _)))))))); intro v270 w18 ho19 hb hg_ hnew_; clear hg_ hnew_; (first | rw [← Ny269.out] at ho19 | (simp only [Int.reduceToNat] at ho19; rw [← Ny269.out] at ho19)); have HO271 := Ya (Kd.R_lower (Kd.R_new' ho19 (Z18 (Yr HO_3.out))) (keep_size (w := w) (g := g) (row := none) Q3)); replace HO_3 := Ya (Kd.R_elder' (Yr HO_3.out) (Kd.R_base ho19) hb); replace HK := Ya (KeepBut.trans Q3 (KeepBut.of_below hb g none) (.inl rfl)); replace HB := Ya (Z8 Q21 hb); replace HI0 := Ya (IsS52.below Q20 hb); clear hb ho19))
      go_ret
      exact ⟨_, Q1, Yj HO271.out (fun _ hk => trivial), Q7, Q11, Q13⟩
     ·replace c16 := Bool.eq_false_iff.mpr c16
      subst c16
      have H1 : ((spec_l1Cur_one.f s0_0 t267 t268 30).bind fun bt272 => (if bt272.1 = true then (some ((([12, 12, 12, 3] : List Int)), bt272.2.1, bt272.2.2)) else (some (x3_1, bt272.2.1, bt272.2.2)))) = some (r1, r2, r3) := by rw [if_neg (show ¬ (false = true) by decide)] at H; exact H
      clear H
      have H := H1
      clear H1
      replace H := Z37.mp H
      obtain ⟨⟨t272, t273, t274⟩, A200, H⟩ := H
      replace H : (if t272 = true then (some ((([12, 12, 12, 3] : List Int)), t273, t274)) else (some (x3_1, t273, t274))) = some (r1, r2, r3) := H
      have A20 := Ya A200
      clear A200
      by_cases c21 : t272 = true
      ·subst c21
       have H1 : (some ((([12, 12, 12, 3] : List Int)), t273, t274)) = some (r1, r2, r3) := by rw [if_pos rfl] at H; exact H
       clear H
       have H := H1
       clear H1
       obtain ⟨y275, hy275⟩ : ∃ y_ : List Int, y_ = (([12, 12, 12, 3] : List Int)) := ⟨_, rfl⟩
       replace H : (some (y275, t273, t274)) = some (r1, r2, r3) := by first | (rw [hy275]; with_reducible exact H) | (have H2_ := (Option.bind_some _ _).symm.trans H; rw [hy275]; with_reducible exact H2_) | (have H2_ := (Option.bind_some _ _).symm.trans H; with_reducible exact H2_) | with_reducible exact H | (rw [hy275]; exact H) | exact H
       have Ny275 := Ya hy275
       clear hy275
       simp only [Option.some.injEq, Prod.mk.injEq] at H
       obtain ⟨rfl, rfl, rfl⟩ := H
       go_wp2_with (first | ((with_reducible refine gate_callee (f := 54) rfl ?_); refine Yz 22 Try.func54 #[.pointer (some ⟨g, 0, none⟩), .int .i64 30] ?_; (with_reducible refine (spec_l1Cur_one.calls g s0_0 x1001_1 x1002_1 30 false t267 t268 w0 _ ?side1 ?side2 A15.out).mono ?_); (case side1 => repeat (first | (with_reducible first | exact HI0.out | apply IsS52.alloc | apply IsS52.drewN | apply IsS52.drew | apply IsS52.set_1 | apply IsS52.set_2) | exact HI0.out)); (case side2 => repeat (first | (with_reducible first | exact HB.out | apply Z5 | apply Z3 | apply Z4 | refine Z6 ?_ (IsS52.ge HI0.out)) | exact HB.out)); rintro e w22 ⟨rfl, hi, hb, hk⟩; refine ⟨_, rfl, ?_⟩; replace HO_3 := Ya (Z12 (Kd.R_keep (IsS52.apart (show IsS52 w0 _ g s0_0 x1001_1 x1002_1 from by repeat (first | (with_reducible first | exact HI0.out | apply IsS52.alloc | apply IsS52.drewN | apply IsS52.drew | apply IsS52.set_1 | apply IsS52.set_2) | exact HI0.out)) (Yr HO_3.out) (by decide)) hk (fun _ h => h.2)) (fun _ h => h.1)); replace HK := Ya (KeepBut.trans Q3 hk (.inl rfl)); replace HB := Ya hb; replace HI0 := Ya hi; (try clear hb hk hi)) | ((with_reducible refine gate_callee (f := 54) rfl ?_); refine Yz 25 Try.func54 #[.pointer (some ⟨g, 0, none⟩), .int .i64 30] ?_; (with_reducible refine (spec_l1Cur_one.calls g s0_0 t267 t268 30 true t273 t274 w0 _ ?side1 ?side2 A20.out).mono ?_); (case side1 => repeat (first | (with_reducible first | exact HI0.out | apply IsS52.alloc | apply IsS52.drewN | apply IsS52.drew | apply IsS52.set_1 | apply IsS52.set_2) | exact HI0.out)); (case side2 => repeat (first | (with_reducible first | exact HB.out | apply Z5 | apply Z3 | apply Z4 | refine Z6 ?_ (IsS52.ge HI0.out)) | exact HB.out)); rintro e w23 ⟨rfl, hi, hb, hk⟩; refine ⟨_, rfl, ?_⟩; replace HO_3 := Ya (Z12 (Kd.R_keep (IsS52.apart (show IsS52 w0 _ g s0_0 t267 t268 from by repeat (first | (with_reducible first | exact HI0.out | apply IsS52.alloc | apply IsS52.drewN | apply IsS52.drew | apply IsS52.set_1 | apply IsS52.set_2) | exact HI0.out)) (Yr HO_3.out) (by decide)) hk (fun _ h => h.2)) (fun _ h => h.1)); replace HK := Ya (KeepBut.trans Q3 hk (.inl rfl)); replace HB := Ya hb; replace HI0 := Ya hi; (try clear hb hk hi)) | ((with_reducible refine gate_dst (N := 26) rfl ?_); refine Kd.R_lit (Kd.int .i64) _ 3 ?hg (N := 26) ?hd (xs := ([12, 12, 12, 3] : List Int)) (inner := [.int .i64 12, .int .i64 12, .int .i64 12, .int .i64 3]) (ok := fun _ => True) (okp := fun _ => True) ?hr ?hp (fun _ hk => hk) trivial (Below.refl _ _) (Nat.le_refl _) (by simp) ?_; (case hd => rfl); (case hg => rfl); (case hr => first | (go_simp; done) | (go_simp; rfl)); (case hp => exact (Reps.one (show Kd.M (Kd.int .i64) _ _ _ 12 [.int .i64 12] from rfl) (Reps.one (show Kd.M (Kd.int .i64) _ _ _ 12 [.int .i64 12] from rfl) (Reps.one (show Kd.M (Kd.int .i64) _ _ _ 12 [.int .i64 12] from rfl) (Reps.one (show Kd.M (Kd.int .i64) _ _ _ 3 [.int .i64 3] from rfl) (Reps.none _ _)))))); intro v276 w24 ho25 hb hg_ hnew_; clear hg_ hnew_; (first | rw [← Ny275.out] at ho25 | (simp only [Int.reduceToNat] at ho25; rw [← Ny275.out] at ho25)); have HO277 := Ya (Kd.R_lower (Kd.R_new' ho25 (Z18 (Yr HO_3.out))) (keep_size (w := w) (g := g) (row := none) Q3)); replace HO_3 := Ya (Kd.R_elder' (Yr HO_3.out) (Kd.R_base ho25) hb); replace HK := Ya (KeepBut.trans Q3 (KeepBut.of_below hb g none) (.inl rfl)); replace HB := Ya (Z8 Q21 hb); replace HI0 := Ya (IsS52.below Q20 hb); clear hb ho25))
       go_ret
       exact ⟨_, Q1, Yj HO277.out (fun _ hk => trivial), Q7, Q11, Q13⟩
      ·replace c21 := Bool.eq_false_iff.mpr c21
       subst c21
       have H1 : (some (x3_1, t273, t274)) = some (r1, r2, r3) := by rw [if_neg (show ¬ (false = true) by decide)] at H; exact H
       clear H
       have H := H1
       clear H1
       simp only [Option.some.injEq, Prod.mk.injEq] at H
       obtain ⟨rfl, rfl, rfl⟩ := H
       go_wp2_with (first | ((with_reducible refine gate_callee (f := 54) rfl ?_); refine Yz 22 Try.func54 #[.pointer (some ⟨g, 0, none⟩), .int .i64 30] ?_; (with_reducible refine (spec_l1Cur_one.calls g s0_0 x1001_1 x1002_1 30 false t267 t268 w0 _ ?side1 ?side2 A15.out).mono ?_); (case side1 => repeat (first | (with_reducible first | exact HI0.out | apply IsS52.alloc | apply IsS52.drewN | apply IsS52.drew | apply IsS52.set_1 | apply IsS52.set_2) | exact HI0.out)); (case side2 => repeat (first | (with_reducible first | exact HB.out | apply Z5 | apply Z3 | apply Z4 | refine Z6 ?_ (IsS52.ge HI0.out)) | exact HB.out)); rintro e w26 ⟨rfl, hi, hb, hk⟩; refine ⟨_, rfl, ?_⟩; replace HO_3 := Ya (Z12 (Kd.R_keep (IsS52.apart (show IsS52 w0 _ g s0_0 x1001_1 x1002_1 from by repeat (first | (with_reducible first | exact HI0.out | apply IsS52.alloc | apply IsS52.drewN | apply IsS52.drew | apply IsS52.set_1 | apply IsS52.set_2) | exact HI0.out)) (Yr HO_3.out) (by decide)) hk (fun _ h => h.2)) (fun _ h => h.1)); replace HK := Ya (KeepBut.trans Q3 hk (.inl rfl)); replace HB := Ya hb; replace HI0 := Ya hi; (try clear hb hk hi)) | ((with_reducible refine gate_callee (f := 54) rfl ?_); refine Yz 25 Try.func54 #[.pointer (some ⟨g, 0, none⟩), .int .i64 30] ?_; (with_reducible refine (spec_l1Cur_one.calls g s0_0 t267 t268 30 false t273 t274 w0 _ ?side1 ?side2 A20.out).mono ?_); (case side1 => repeat (first | (with_reducible first | exact HI0.out | apply IsS52.alloc | apply IsS52.drewN | apply IsS52.drew | apply IsS52.set_1 | apply IsS52.set_2) | exact HI0.out)); (case side2 => repeat (first | (with_reducible first | exact HB.out | apply Z5 | apply Z3 | apply Z4 | refine Z6 ?_ (IsS52.ge HI0.out)) | exact HB.out)); rintro e w27 ⟨rfl, hi, hb, hk⟩; refine ⟨_, rfl, ?_⟩; replace HO_3 := Ya (Z12 (Kd.R_keep (IsS52.apart (show IsS52 w0 _ g s0_0 t267 t268 from by repeat (first | (with_reducible first | exact HI0.out | apply IsS52.alloc | apply IsS52.drewN | apply IsS52.drew | apply IsS52.set_1 | apply IsS52.set_2) | exact HI0.out)) (Yr HO_3.out) (by decide)) hk (fun _ h => h.2)) (fun _ h => h.1)); replace HK := Ya (KeepBut.trans Q3 hk (.inl rfl)); replace HB := Ya hb; replace HI0 := Ya hi; (try clear hb hk hi)))
       go_ret
       exact ⟨_, Q1, Q39, Q7, Q11, Q13⟩
def spec_raProduct.l0 : Nat → Int → List Int → Int → Int → Option (Int)
 | 0, _, _, _, _ => none
 | k + 1, x3, x6, x7, x8 => if x8 < x7 then (if 0 ≤ x8 then (if x8 < (x6.length : Int) then (if (wrap64 (x3 * (rd x6 x8))) > 1000000 then (some (wrap64 (x3 * (rd x6 x8)))) else (spec_raProduct.l0 k (wrap64 (x3 * (rd x6 x8))) x6 x7 (wrap64 (x8 + 1)))) else (none)) else (none)) else (some x3)
def spec_raProduct.f (k : Nat) (l0 : List Int) : Option (Int) := spec_raProduct.l0 k 1 l0 (l0.length : Int) 0
theorem spec_raProduct.mono_l : ∀ k, (∀ y0 y1 y2 y3, LeO (spec_raProduct.l0 k y0 y1 y2 y3) (spec_raProduct.l0 (k + 1) y0 y1 y2 y3))
 | 0 => fun _ _ _ _ r h => by simp [spec_raProduct.l0] at h
 | k + 1 => by
  have ih0 := spec_raProduct.mono_l k
  ·intro y0 y1 y2 y3
   unfold spec_raProduct.l0
   repeat' first
   | (with_reducible exact ih0 _ _ _ _)
   | (with_reducible exact LeO.refl _)
   | (with_reducible exact LeO.none _)
   | (with_reducible refine LeO.ite ?_ ?_)
   | (with_reducible refine LeO.bind ?_ (fun _ => ?_))
   | exact ih0 _ _ _ _
   | exact LeO.none _
   | refine LeO.ite ?_ ?_
   | refine LeO.bind ?_ (fun _ => ?_)
theorem spec_raProduct.mono : ∀ a0 k, LeO (spec_raProduct.f k a0) (spec_raProduct.f (k + 1) a0) := by
 intro a0 k
 have ih0 := spec_raProduct.mono_l k
 unfold spec_raProduct.f
 repeat' first
   | (with_reducible exact ih0 _ _ _ _)
   | (with_reducible exact LeO.refl _)
   | (with_reducible exact LeO.none _)
   | (with_reducible refine LeO.ite ?_ ?_)
   | (with_reducible refine LeO.bind ?_ (fun _ => ?_))
   | exact ih0 _ _ _ _
   | exact LeO.none _
   | refine LeO.ite ?_ ?_
   | refine LeO.bind ?_ (fun _ => ?_)
set_option maxHeartbeats 8000000 in
set_option maxRecDepth 100000 in
theorem spec_raProduct.calls (k : Nat) (A0 : Option Addr) (c0 : Nat) (l0 : List Int) (r : Int) (w : World) (hr0 : Kd.C (Kd.int .i64) w A0 l0.length l0) (hc0 : l0.length ≤ c0) (h : spec_raProduct.f k l0 = some r) :
  Calls Try.prog 40 #[.slice A0 l0.length c0] w fun e w' => e = .returned (.int .i64 r) ∧ Drawn0 w w' := by
 have HR0 := Ya hr0
 have HC0 := Ya hc0
 clear hr0 hc0
 have H : (spec_raProduct.l0 k 1 l0 (l0.length : Int) 0) = some r := h
 clear h
 have H' := Ya H
 clear H
 go_enter Try.func40, Try.ntmps40
 go_wp2
 go_loopg [3, 8] k (fun kq v3 v8 w' => ∃ (x3_1 : Int) (x8_1 : Int), v3 = .int .i64 x3_1 ∧ v8 = .int .i64 x8_1 ∧ Aside0 (spec_raProduct.l0 kq x3_1 l0 (l0.length : Int) x8_1 = some r) ∧ Aside0 (kq ≤ k) ∧ Drawn0 w w')
 case atStart => exact ⟨(1), (0), Q9, Q9, H', ⟨Nat.le_refl _⟩, Q10⟩
 case round =>
  clear H'
  obtain ⟨x3_1, x8_1, rfl, rfl, HA, HK1, ⟨m1, rfl⟩⟩ := hrel
  cases gk with
  | zero => exact absurd HA.out (by simp [spec_raProduct.l0])
  | succ k1 =>
   have H := HA.out
   clear HA
   simp only [spec_raProduct.l0] at H
   by_cases c2 : x8_1 < (l0.length : Int)
   ·rw [if_pos c2] at H
    have c2b0 := Z39 c2
    clear c2
    by_cases c3 : 0 ≤ x8_1
    ·rw [if_pos c3] at H
     have c3b0 := Z39 c3
     clear c3
     by_cases c4 : x8_1 < (l0.length : Int)
     ·rw [if_pos c4] at H
      have c4b0 := Z39 c4
      clear c4
      by_cases c5 : (wrap64 (x3_1 * (rd l0 x8_1))) > 1000000
      ·rw [if_pos c5] at H
       have c5b0 : decide (1000000 < (wrap64 (x3_1 * (rd l0 x8_1)))) = true := Z39 c5
       clear c5
       obtain rfl := Option.some.inj H
       have p278 : 0 ≤ (x8_1 : Int) := Z31 Q2
       have q278 : x8_1 < (l0.length : Int) := Z31 Q2
       obtain ⟨ad278, e278, hx278_0⟩ := Kd.at_int HR0.out x8_1 p278 q278
       cases e278
       replace p278 := eq_true p278
       replace q278 := eq_true q278
       go_wp2
       go_ret
       exact ⟨Q19, Q10⟩
      ·rw [if_neg c5] at H
       have c5b0 : decide (1000000 < (wrap64 (x3_1 * (rd l0 x8_1)))) = false := Z38 c5
       clear c5
       have H' := Ya H
       clear H
       have p278 : 0 ≤ (x8_1 : Int) := Z31 Q2
       have q278 : x8_1 < (l0.length : Int) := Z31 Q2
       obtain ⟨ad278, e278, hx278_0⟩ := Kd.at_int HR0.out x8_1 p278 q278
       cases e278
       replace p278 := eq_true p278
       replace q278 := eq_true q278
       go_wp2
       go_roundg k1
       case measure => have := HK1.out; omega
       case rel => exact ⟨(wrap64 (x3_1 * (rd l0 x8_1))), (wrap64 (x8_1 + 1)), Q9, Q9, H', ⟨Q45⟩, Q10⟩
     ·rw [if_neg c4] at H
      exact absurd H (by simp)
    ·rw [if_neg c3] at H
     exact absurd H (by simp)
   ·rw [if_neg c2] at H
    have c2b0 := Z38 c2
    clear c2
    obtain rfl := Option.some.inj H
    go_wp2
    go_ret
    exact ⟨Q19, Q10⟩
def spec_l1In.f (a0 : Int) (a1 : Int) (a2 : Int) : Option (Bool) := if a0 ≥ a1 then (some (decide (a0 ≤ a2))) else (some false)
set_option maxHeartbeats 8000000 in
set_option maxRecDepth 100000 in
theorem spec_l1In.calls (a0 : Int) (a1 : Int) (a2 : Int) (r : Bool) (w : World) (h : spec_l1In.f a0 a1 a2 = some r) :
  Calls Try.prog 33 #[.int .i64 a0, .int .i64 a1, .int .i64 a2] w fun e w' => e = .returned (.bool r) ∧ Drawn0 w w' := by
 have H : (if a0 ≥ a1 then (some (decide (a0 ≤ a2))) else (some false)) = some r := h
 clear h
 by_cases c4 : a0 ≥ a1
 ·rw [if_pos c4] at H
  have c4b0 : decide (a1 ≤ a0) = true := Z39 c4
  clear c4
  obtain rfl := Option.some.inj H
  go_enter Try.func33, Try.ntmps33
  go_wp2
  go_ret
  exact ⟨Q19, Q10⟩
 ·rw [if_neg c4] at H
  have c4b0 : decide (a1 ≤ a0) = false := Z38 c4
  clear c4
  obtain rfl := Option.some.inj H
  go_enter Try.func33, Try.ntmps33
  go_wp2
  go_ret
  exact ⟨Q19, Q10⟩
def spec_l1All.l0 : Nat → Int → Int → List Int → Int → Int → Option (Bool)
 | 0, _, _, _, _, _ => none
 | k + 1, x1, x2, x9, x10, x11 => if x11 < x10 then (if 0 ≤ x11 then (if x11 < (x9.length : Int) then ((spec_l1In.f (rd x9 x11) x1 x2).bind fun t280 => (if t280 = true then (spec_l1All.l0 k x1 x2 x9 x10 (wrap64 (x11 + 1))) else (some false))) else (none)) else (none)) else (some true)
def spec_l1All.f (k : Nat) (l0 : List Int) (a1 : Int) (a2 : Int) : Option (Bool) := spec_l1All.l0 k a1 a2 l0 (l0.length : Int) 0
theorem spec_l1All.mono_l : ∀ k, (∀ y0 y1 y2 y3 y4, LeO (spec_l1All.l0 k y0 y1 y2 y3 y4) (spec_l1All.l0 (k + 1) y0 y1 y2 y3 y4))
 | 0 => fun _ _ _ _ _ r h => by simp [spec_l1All.l0] at h
 | k + 1 => by
  have ih0 := spec_l1All.mono_l k
  ·intro y0 y1 y2 y3 y4
   unfold spec_l1All.l0
   repeat' first
   | (with_reducible exact ih0 _ _ _ _ _)
   | (with_reducible exact LeO.refl _)
   | (with_reducible exact LeO.none _)
   | (with_reducible refine LeO.ite ?_ ?_)
   | (with_reducible refine LeO.bind ?_ (fun _ => ?_))
   | exact ih0 _ _ _ _ _
   | exact LeO.none _
   | refine LeO.ite ?_ ?_
   | refine LeO.bind ?_ (fun _ => ?_)
theorem spec_l1All.mono : ∀ a0 a1 a2 k, LeO (spec_l1All.f k a0 a1 a2) (spec_l1All.f (k + 1) a0 a1 a2) := by
 intro a0 a1 a2 k
 have ih0 := spec_l1All.mono_l k
 unfold spec_l1All.f
 repeat' first
   | (with_reducible exact ih0 _ _ _ _ _)
   | (with_reducible exact LeO.refl _)
   | (with_reducible exact LeO.none _)
   | (with_reducible refine LeO.ite ?_ ?_)
   | (with_reducible refine LeO.bind ?_ (fun _ => ?_))
   | exact ih0 _ _ _ _ _
   | exact LeO.none _
   | refine LeO.ite ?_ ?_
   | refine LeO.bind ?_ (fun _ => ?_)
set_option maxHeartbeats 8000000 in
set_option maxRecDepth 100000 in
theorem spec_l1All.calls (k : Nat) (A0 : Option Addr) (c0 : Nat) (l0 : List Int) (a1 : Int) (a2 : Int) (r : Bool) (w : World) (hr0 : Kd.C (Kd.int .i64) w A0 l0.length l0) (hc0 : l0.length ≤ c0) (h : spec_l1All.f k l0 a1 a2 = some r) :
  Calls Try.prog 70 #[.slice A0 l0.length c0, .int .i64 a1, .int .i64 a2] w fun e w' => e = .returned (.bool r) ∧ Drawn0 w w' := by
 have HR0 := Ya hr0
 have HC0 := Ya hc0
 clear hr0 hc0
 have H : (spec_l1All.l0 k a1 a2 l0 (l0.length : Int) 0) = some r := h
 clear h
 have H' := Ya H
 clear H
 go_enter Try.func70, Try.ntmps70
 go_wp2
 go_loopg [11] k (fun kq v11 w' => ∃ (x11_1 : Int), v11 = .int .i64 x11_1 ∧ Aside0 (spec_l1All.l0 kq a1 a2 l0 (l0.length : Int) x11_1 = some r) ∧ Aside0 (kq ≤ k) ∧ Drawn0 w w')
 case atStart => exact ⟨(0), Q9, H', ⟨Nat.le_refl _⟩, Q10⟩
 case round =>
  clear H'
  try clear p2
  obtain ⟨x11_1, rfl, HA, HK1, ⟨m1, rfl⟩⟩ := hrel
  cases gk with
  | zero => exact absurd HA.out (by simp [spec_l1All.l0])
  | succ k1 =>
   have H := HA.out
   clear HA
   simp only [spec_l1All.l0] at H
   by_cases c4 : x11_1 < (l0.length : Int)
   ·rw [if_pos c4] at H
    have c4b0 := Z39 c4
    clear c4
    by_cases c5 : 0 ≤ x11_1
    ·rw [if_pos c5] at H
     have c5b0 := Z39 c5
     clear c5
     by_cases c6 : x11_1 < (l0.length : Int)
     ·rw [if_pos c6] at H
      have c6b0 := Z39 c6
      clear c6
      replace H := Z37.mp H
      obtain ⟨t280, A70, H⟩ := H
      replace H : (if t280 = true then (spec_l1All.l0 k1 a1 a2 l0 (l0.length : Int) (wrap64 (x11_1 + 1))) else (some false)) = some r := H
      have A7 := Ya A70
      clear A70
      by_cases c8 : t280 = true
      ·subst c8
       have H1 : (spec_l1All.l0 k1 a1 a2 l0 (l0.length : Int) (wrap64 (x11_1 + 1))) = some r := by rw [if_pos rfl] at H; exact H
       clear H
       have H := H1
       clear H1
       have H' := Ya H
       clear H
       have p279 : 0 ≤ (x11_1 : Int) := Z31 Q2
       have q279 : x11_1 < (l0.length : Int) := Z31 Q2
       obtain ⟨ad279, e279, hx279_0⟩ := Kd.at_int HR0.out x11_1 p279 q279
       cases e279
       replace p279 := eq_true p279
       replace q279 := eq_true q279
       go_wp2_with (first | ((with_reducible refine gate_callee (f := 33) rfl ?_); refine Yz 18 Try.func33 #[.int .i64 (rd l0 x11_1), .int .i64 a1, .int .i64 a2] ?_; (with_reducible refine (spec_l1In.calls (rd l0 x11_1) a1 a2 true _ A7.out).mono ?_); rintro e w' ⟨rfl, ⟨nd, rfl⟩⟩; refine ⟨_, rfl, ?_⟩))
       go_roundg k1
       case measure => have := HK1.out; omega
       case rel => exact ⟨(wrap64 (x11_1 + 1)), Q9, H', ⟨Q45⟩, Q10⟩
      ·replace c8 := Bool.eq_false_iff.mpr c8
       subst c8
       have H1 : (some false) = some r := by rw [if_neg (show ¬ (false = true) by decide)] at H; exact H
       clear H
       have H := H1
       clear H1
       obtain rfl := Option.some.inj H
       have p279 : 0 ≤ (x11_1 : Int) := Z31 Q2
       have q279 : x11_1 < (l0.length : Int) := Z31 Q2
       obtain ⟨ad279, e279, hx279_0⟩ := Kd.at_int HR0.out x11_1 p279 q279
       cases e279
       replace p279 := eq_true p279
       replace q279 := eq_true q279
       go_wp2_with (first | ((with_reducible refine gate_callee (f := 33) rfl ?_); refine Yz 18 Try.func33 #[.int .i64 (rd l0 x11_1), .int .i64 a1, .int .i64 a2] ?_; (with_reducible refine (spec_l1In.calls (rd l0 x11_1) a1 a2 false _ A7.out).mono ?_); rintro e w' ⟨rfl, ⟨nd, rfl⟩⟩; refine ⟨_, rfl, ?_⟩))
       go_ret
       exact ⟨Q19, Q10⟩
     ·rw [if_neg c6] at H
      exact absurd H (by simp)
    ·rw [if_neg c5] at H
     exact absurd H (by simp)
   ·rw [if_neg c4] at H
    have c4b0 := Z38 c4
    clear c4
    obtain rfl := Option.some.inj H
    go_wp2
    go_ret
    exact ⟨Q19, Q10⟩
def spec_raBases.f (k : Nat) (l0 : List Int) : Option (Bool) := if (l0.length : Int) ≤ 12 then ((spec_l1All.f k l0 2 12).bind fun t281 => (if t281 = true then ((spec_raProduct.f k l0).bind fun t282 => (some (decide (t282 ≤ 1000000)))) else (some false))) else (some false)
theorem spec_raBases.mono : ∀ a0 k, LeO (spec_raBases.f k a0) (spec_raBases.f (k + 1) a0) := by
 intro a0 k
 unfold spec_raBases.f
 repeat' first
   | (with_reducible exact spec_l1All.mono _ _ _ _)
   | (with_reducible exact spec_raProduct.mono _ _)
   | (with_reducible exact LeO.refl _)
   | (with_reducible exact LeO.none _)
   | (with_reducible refine LeO.ite ?_ ?_)
   | (with_reducible refine LeO.bind ?_ (fun _ => ?_))
   | exact spec_l1All.mono _ _ _ _
   | exact spec_raProduct.mono _ _
   | exact LeO.none _
   | refine LeO.ite ?_ ?_
   | refine LeO.bind ?_ (fun _ => ?_)
set_option maxHeartbeats 8000000 in
set_option maxRecDepth 100000 in
theorem spec_raBases.calls (k : Nat) (A0 : Option Addr) (c0 : Nat) (l0 : List Int) (r : Bool) (w : World) (hr0 : Kd.C (Kd.int .i64) w A0 l0.length l0) (hc0 : l0.length ≤ c0) (h : spec_raBases.f k l0 = some r) :
  Calls Try.prog 57 #[.slice A0 l0.length c0] w fun e w' => e = .returned (.bool r) ∧ Drawn0 w w' := by
 have HR0 := Ya hr0
 have HC0 := Ya hc0
 clear hr0 hc0
 have H : (if (l0.length : Int) ≤ 12 then ((spec_l1All.f k l0 2 12).bind fun t281 => (if t281 = true then ((spec_raProduct.f k l0).bind fun t282 => (some (decide (t282 ≤ 1000000)))) else (some false))) else (some false)) = some r := h
 clear h
 by_cases c2 : (l0.length : Int) ≤ 12
 ·rw [if_pos c2] at H
  have c2b0 := Z39 c2
  have c2b1 : decide (l0.length ≤ 12) = true := Z39 (by omega)
  clear c2
  replace H := Z37.mp H
  obtain ⟨t281, A30, H⟩ := H
  replace H : (if t281 = true then ((spec_raProduct.f k l0).bind fun t282 => (some (decide (t282 ≤ 1000000)))) else (some false)) = some r := H
  have A3 := Ya A30
  clear A30
  by_cases c4 : t281 = true
  ·subst c4
   have H1 : ((spec_raProduct.f k l0).bind fun t282 => (some (decide (t282 ≤ 1000000)))) = some r := by rw [if_pos rfl] at H; exact H
   clear H
   have H := H1
   clear H1
   replace H := Z37.mp H
   obtain ⟨t282, A50, H⟩ := H
   replace H : (some (decide (t282 ≤ 1000000))) = some r := H
   have A5 := Ya A50
   clear A50
   obtain rfl := Option.some.inj H
   go_enter Try.func57, Try.ntmps57
   go_wp2_with (first | (go_at_call 70; (with_reducible refine (spec_l1All.calls k _ _ l0 2 12 true _ (Yc HR0.out) HC0.out A3.out).mono ?_); rintro e w' ⟨rfl, ⟨nd, rfl⟩⟩) | (go_at_call 40; (with_reducible refine (spec_raProduct.calls k _ _ l0 t282 _ (Yc HR0.out) HC0.out A5.out).mono ?_); rintro e w' ⟨rfl, ⟨nd, rfl⟩⟩))
   go_ret
   exact ⟨Q19, Q10⟩
  ·replace c4 := Bool.eq_false_iff.mpr c4
   subst c4
   have H1 : (some false) = some r := by rw [if_neg (show ¬ (false = true) by decide)] at H; exact H
   clear H
   have H := H1
   clear H1
   obtain rfl := Option.some.inj H
   go_enter Try.func57, Try.ntmps57
   go_wp2_with (first | (go_at_call 70; (with_reducible refine (spec_l1All.calls k _ _ l0 2 12 false _ (Yc HR0.out) HC0.out A3.out).mono ?_); rintro e w' ⟨rfl, ⟨nd, rfl⟩⟩))
   go_ret
   exact ⟨Q19, Q10⟩
 ·rw [if_neg c2] at H
  have c2b0 := Z38 c2
  have c2b1 : decide (l0.length ≤ 12) = false := Z38 (by omega)
  clear c2
  obtain rfl := Option.some.inj H
  go_enter Try.func57, Try.ntmps57
  go_wp2
  go_ret
  exact ⟨Q19, Q10⟩
def spec_foBases.f (k : Nat) (l0 : List Int) : Option (Bool) := (spec_raBases.f k l0).bind fun t283 => (if t283 = true then ((spec_raProduct.f k l0).bind fun t284 => (some (decide (t284 ≤ 5040)))) else (some false))
theorem spec_foBases.mono : ∀ a0 k, LeO (spec_foBases.f k a0) (spec_foBases.f (k + 1) a0) := by
 intro a0 k
 unfold spec_foBases.f
 repeat' first
   | (with_reducible exact spec_raBases.mono _ _)
   | (with_reducible exact spec_raProduct.mono _ _)
   | (with_reducible exact LeO.refl _)
   | (with_reducible exact LeO.none _)
   | (with_reducible refine LeO.ite ?_ ?_)
   | (with_reducible refine LeO.bind ?_ (fun _ => ?_))
   | exact spec_raBases.mono _ _
   | exact spec_raProduct.mono _ _
   | exact LeO.none _
   | refine LeO.ite ?_ ?_
   | refine LeO.bind ?_ (fun _ => ?_)
set_option maxHeartbeats 8000000 in
set_option maxRecDepth 100000 in
theorem spec_foBases.calls (k : Nat) (A0 : Option Addr) (c0 : Nat) (l0 : List Int) (r : Bool) (w : World) (hr0 : Kd.C (Kd.int .i64) w A0 l0.length l0) (hc0 : l0.length ≤ c0) (h : spec_foBases.f k l0 = some r) :
  Calls Try.prog 32 #[.slice A0 l0.length c0] w fun e w' => e = .returned (.bool r) ∧ Drawn0 w w' := by
 have HR0 := Ya hr0
 have HC0 := Ya hc0
 clear hr0 hc0
 have H : ((spec_raBases.f k l0).bind fun t283 => (if t283 = true then ((spec_raProduct.f k l0).bind fun t284 => (some (decide (t284 ≤ 5040)))) else (some false))) = some r := h
 clear h
 replace H := Z37.mp H
 obtain ⟨t283, A20, H⟩ := H
 replace H : (if t283 = true then ((spec_raProduct.f k l0).bind fun t284 => (some (decide (t284 ≤ 5040)))) else (some false)) = some r := H
 have A2 := Ya A20
 clear A20
 by_cases c3 : t283 = true
 ·subst c3
  have H1 : ((spec_raProduct.f k l0).bind fun t284 => (some (decide (t284 ≤ 5040)))) = some r := by rw [if_pos rfl] at H; exact H
  clear H
  have H := H1
  clear H1
  replace H := Z37.mp H
  obtain ⟨t284, A40, H⟩ := H
  replace H : (some (decide (t284 ≤ 5040))) = some r := H
  have A4 := Ya A40
  clear A40
  obtain rfl := Option.some.inj H
  go_enter Try.func32, Try.ntmps32
  go_wp2_with (first | ((with_reducible refine gate_callee (f := 57) rfl ?_); refine Yz 4 Try.func57 #[.slice A0 l0.length c0] ?_; (with_reducible refine (spec_raBases.calls k _ _ l0 true _ (Yc HR0.out) HC0.out A2.out).mono ?_); rintro e w' ⟨rfl, ⟨nd, rfl⟩⟩; refine ⟨_, rfl, ?_⟩) | (go_at_call 40; (with_reducible refine (spec_raProduct.calls k _ _ l0 t284 _ (Yc HR0.out) HC0.out A4.out).mono ?_); rintro e w' ⟨rfl, ⟨nd, rfl⟩⟩))
  go_ret
  exact ⟨Q19, Q10⟩
 ·replace c3 := Bool.eq_false_iff.mpr c3
  subst c3
  have H1 : (some false) = some r := by rw [if_neg (show ¬ (false = true) by decide)] at H; exact H
  clear H
  have H := H1
  clear H1
  obtain rfl := Option.some.inj H
  go_enter Try.func32, Try.ntmps32
  go_wp2_with (first | ((with_reducible refine gate_callee (f := 57) rfl ?_); refine Yz 4 Try.func57 #[.slice A0 l0.length c0] ?_; (with_reducible refine (spec_raBases.calls k _ _ l0 false _ (Yc HR0.out) HC0.out A2.out).mono ?_); rintro e w' ⟨rfl, ⟨nd, rfl⟩⟩; refine ⟨_, rfl, ?_⟩))
  go_ret
  exact ⟨Q19, Q10⟩
def spec_l1Own.f (l0 : List Int) : Option (List Int) := (some (([] : List Int) : List Int)).bind fun y285 => (if y285.length + l0.length < 17592186044416 then (some (y285 ++ l0)) else (none))
set_option maxHeartbeats 8000000 in
set_option maxRecDepth 100000 in
theorem spec_l1Own.calls (A0 : Option Addr) (c0 : Nat) (l0 : List Int) (r : List Int) (w : World) (hr0 : Kd.C (Kd.int .i64) w A0 l0.length l0) (hc0 : l0.length ≤ c0) (h : spec_l1Own.f l0 = some r) :
  Calls Try.prog 71 #[.slice A0 l0.length c0] w fun e w' => ∃ v0_ : Value, e = .returned (v0_) ∧ Kd.R (Kd.int .i64) 3 w' w.heap.size (fun _ => True) v0_ r ∧ Below w.heap.size w w' := by
 have HR0 := Ya hr0
 have HC0 := Ya hc0
 clear hr0 hc0
 have HB := Ya (Below.refl w.heap.size w)
 have H : ((some (([] : List Int) : List Int)).bind fun y285 => (if y285.length + l0.length < 17592186044416 then (some (y285 ++ l0)) else (none))) = some r := h
 clear h
 obtain ⟨y285, hy285⟩ : ∃ y_ : List Int, y_ = (([] : List Int)) := ⟨_, rfl⟩
 replace H : (if y285.length + l0.length < 17592186044416 then (some (y285 ++ l0)) else (none)) = some r := by first | (rw [hy285]; with_reducible exact H) | (have H2_ := (Option.bind_some _ _).symm.trans H; rw [hy285]; with_reducible exact H2_) | (have H2_ := (Option.bind_some _ _).symm.trans H; with_reducible exact H2_) | with_reducible exact H | (rw [hy285]; exact H) | exact H
 have Ny285 := Ya hy285
 clear hy285
 by_cases c2 : y285.length + l0.length < 17592186044416
 ·rw [if_pos c2] at H
  have LMc2 := Ya c2
  clear c2
  obtain ⟨y288, hy288⟩ : ∃ y_ : List Int, y_ = (y285 ++ l0) := ⟨_, rfl⟩
  replace H : (some y288) = some r := by first | (rw [hy288]; with_reducible exact H) | (have H2_ := (Option.bind_some _ _).symm.trans H; rw [hy288]; with_reducible exact H2_) | (have H2_ := (Option.bind_some _ _).symm.trans H; with_reducible exact H2_) | with_reducible exact H | (rw [hy288]; exact H) | exact H
  have Ny288 := Ya hy288
  clear hy288
  obtain rfl := Option.some.inj H
  go_enter Try.func71, Try.ntmps71
  go_wp2_with (first | ((with_reducible refine gate_dst (N := 3) rfl ?_); refine Kd.R_lit (Kd.int .i64) _ 3 ?hg (N := 3) ?hd (xs := ([] : List Int)) (inner := []) (ok := fun _ => True) (okp := fun _ => True) ?hr ?hp (fun _ hk => hk) trivial (Below.refl _ _) (Nat.le_refl _) (by simp) ?_; (case hd => rfl); (case hg => rfl); (case hr => first | (go_simp; done) | (go_simp; rfl)); (case hp => exact (Reps.none _ _)); intro v286 w3 ho4 hb hg_ hnew_; clear hg_ hnew_; (first | rw [← Ny285.out] at ho4 | (simp only [Int.reduceToNat] at ho4; rw [← Ny285.out] at ho4)); have HO287 := Yl ho4; replace HB := Yh hb; clear hb ho4) | ((with_reducible refine gate_builtin (b := .append) (xs := #[.tmp 3, .tmp 4]) rfl ?_); at_builtin; refine Kd.R_append_rows (Kd.int .i64) (w0 := w) w.heap.size rfl (.tmp 3) (.tmp 4) 24 3 (.int .i64 0) 8 rfl Try.underlying24 info3 rfl (by decide) (by omega) v286 y285 l0 _ _ _ (fun _ => True) (fun _ => False) rfl rfl ?aO ?aR (fun _ _ h => h) (fun _ h => h.elim) ?aF ?aB ?aS ?aL ?_; (case aR => repeat (first | exact (Z23 HR0.out HB.out) | (with_reducible refine Z20 ?_ _) | (with_reducible refine Z21 ?_ _) | (with_reducible refine Z22 ?_))); (case aB => exact Q0); (case aF => exact (fun _ _ => trivial)); (case aO => exact (Yr HO287.out)); (case aS => exact (Z7 Q0)); (case aL => have := LMc2.out; omega); intro v289 w5 ho hb hg hat; rw [← Ny288.out] at ho; replace HB := Ya hb; have HO290 := Ya ho; clear HO287; clear ho hb hg hat))
  go_ret
  exact ⟨_, Q1, by (with_reducible repeat (first | apply Z9 | apply Z10 | apply Z11)); exact HO290.out, Q12⟩
 ·rw [if_neg c2] at H
  exact absurd H (by simp)
def spec_foOwn.f (l0_0 : List Int) (l0_1 : List Int) (l0_2 : List Bool) (l0_3 : List Int) : Option (List Int × List Int × List Bool × List Int) := (spec_l1Own.f l0_0).bind fun t293 => ((spec_l1Own.f l0_1).bind fun t296 => ((some (([] : List Bool) : List Bool)).bind fun y299 => (if y299.length + l0_2.length < 140737488355328 then ((spec_l1Own.f l0_3).bind fun t305 => (some (t293, t296, (y299 ++ l0_2), t305))) else (none))))
def spec_foOwn.T1 : Bool × List (List Nat × List Nat) := (true, [([], []), ([0], [0]), ([1], [1]), ([], []), ([3], [3]), ([4, 2], [4]), ([], []), ([], []), ([7], [7]), ([6, 8, 5], [6, 8]), ([], []), ([10], [10]), ([11, 9], [11]), ([2, 5, 9, 12], [2, 5, 9, 12]), ([13, 12, 0, 1, 2, 3, 4, 5, 6, 7, 8, 9, 10, 11, 12, 13], [13])])
def spec_foOwn.B1 : List Nat := [0, 1, 3, 0, 8, 31, 0, 0, 128, 511, 0, 1024, 4095, 8191, 16383]
theorem spec_foOwn.tab1 : rtab .any (opsOf Try.f66 1) = spec_foOwn.T1 := by kernel_rfl
theorem spec_foOwn.bits1 : waitsOk spec_foOwn.T1.2 spec_foOwn.B1 = true := by kernel_rfl
set_option maxHeartbeats 8000000 in
set_option maxRecDepth 100000 in
theorem spec_foOwn.calls (A0_0 : Option Addr) (c0_0 : Nat) (l0_0 : List Int) (A0_1 : Option Addr) (c0_1 : Nat) (l0_1 : List Int) (A0_2 : Option Addr) (c0_2 : Nat) (l0_2 : List Bool) (A0_3 : Option Addr) (c0_3 : Nat) (l0_3 : List Int) (r1 : List Int) (r2 : List Int) (r3 : List Bool) (r4 : List Int) (w : World) (hr0_0 : Kd.C (Kd.int .i64) w A0_0 l0_0.length l0_0) (hc0_0 : l0_0.length ≤ c0_0) (hr0_1 : Kd.C (Kd.int .i64) w A0_1 l0_1.length l0_1) (hc0_1 : l0_1.length ≤ c0_1) (hr0_2 : Kd.C Kd.bool w A0_2 l0_2.length l0_2) (hc0_2 : l0_2.length ≤ c0_2) (hr0_3 : Kd.C (Kd.int .i64) w A0_3 l0_3.length l0_3) (hc0_3 : l0_3.length ≤ c0_3) (h : spec_foOwn.f l0_0 l0_1 l0_2 l0_3 = some (r1, r2, r3, r4)) :
  Calls Try.prog 66 #[.agg #[.slice A0_0 l0_0.length c0_0, .slice A0_1 l0_1.length c0_1, .slice A0_2 l0_2.length c0_2, .slice A0_3 l0_3.length c0_3]] w fun e w' => ∃ v0_ v1_ v2_ v3_ : Value, e = .returned (.agg #[v0_, v1_, v2_, v3_]) ∧ Kd.R (Kd.int .i64) 3 w' w.heap.size (fun k_ => some k_ ≠ (v1_ : Value).ownBlock ∧ some k_ ≠ (v3_ : Value).ownBlock) v0_ r1 ∧ Kd.R (Kd.int .i64) 3 w' w.heap.size (fun k_ => some k_ ≠ (v0_ : Value).ownBlock ∧ some k_ ≠ (v3_ : Value).ownBlock) v1_ r2 ∧ Kd.R Kd.bool 4 w' w.heap.size (fun _ => True) v2_ r3 ∧ Kd.R (Kd.int .i64) 3 w' w.heap.size (fun k_ => some k_ ≠ (v0_ : Value).ownBlock ∧ some k_ ≠ (v1_ : Value).ownBlock) v3_ r4 ∧ Below w.heap.size w w' := by
 have hu33 := Try.underlying33
 have HR0_0 := Ya hr0_0
 have HC0_0 := Ya hc0_0
 clear hr0_0 hc0_0
 have HR0_1 := Ya hr0_1
 have HC0_1 := Ya hc0_1
 clear hr0_1 hc0_1
 have HR0_2 := Ya hr0_2
 have HC0_2 := Ya hc0_2
 clear hr0_2 hc0_2
 have HR0_3 := Ya hr0_3
 have HC0_3 := Ya hc0_3
 clear hr0_3 hc0_3
 have HB := Ya (Below.refl w.heap.size w)
 have H : ((spec_l1Own.f l0_0).bind fun t293 => ((spec_l1Own.f l0_1).bind fun t296 => ((some (([] : List Bool) : List Bool)).bind fun y299 => (if y299.length + l0_2.length < 140737488355328 then ((spec_l1Own.f l0_3).bind fun t305 => (some (t293, t296, (y299 ++ l0_2), t305))) else (none))))) = some (r1, r2, r3, r4) := h
 clear h
 replace H := Z37.mp H
 obtain ⟨t293, A20, H⟩ := H
 replace H : ((spec_l1Own.f l0_1).bind fun t296 => ((some (([] : List Bool) : List Bool)).bind fun y299 => (if y299.length + l0_2.length < 140737488355328 then ((spec_l1Own.f l0_3).bind fun t305 => (some (t293, t296, (y299 ++ l0_2), t305))) else (none)))) = some (r1, r2, r3, r4) := H
 have A2 := Ya A20
 clear A20
 replace H := Z37.mp H
 obtain ⟨t296, A30, H⟩ := H
 replace H : ((some (([] : List Bool) : List Bool)).bind fun y299 => (if y299.length + l0_2.length < 140737488355328 then ((spec_l1Own.f l0_3).bind fun t305 => (some (t293, t296, (y299 ++ l0_2), t305))) else (none))) = some (r1, r2, r3, r4) := H
 have A3 := Ya A30
 clear A30
 obtain ⟨y299, hy299⟩ : ∃ y_ : List Bool, y_ = (([] : List Bool)) := ⟨_, rfl⟩
 replace H : (if y299.length + l0_2.length < 140737488355328 then ((spec_l1Own.f l0_3).bind fun t305 => (some (t293, t296, (y299 ++ l0_2), t305))) else (none)) = some (r1, r2, r3, r4) := by first | (rw [hy299]; with_reducible exact H) | (have H2_ := (Option.bind_some _ _).symm.trans H; rw [hy299]; with_reducible exact H2_) | (have H2_ := (Option.bind_some _ _).symm.trans H; with_reducible exact H2_) | with_reducible exact H | (rw [hy299]; exact H) | exact H
 have Ny299 := Ya hy299
 clear hy299
 by_cases c4 : y299.length + l0_2.length < 140737488355328
 ·rw [if_pos c4] at H
  have LMc4 := Ya c4
  clear c4
  obtain ⟨y302, hy302⟩ : ∃ y_ : List Bool, y_ = (y299 ++ l0_2) := ⟨_, rfl⟩
  replace H : ((spec_l1Own.f l0_3).bind fun t305 => (some (t293, t296, y302, t305))) = some (r1, r2, r3, r4) := by first | (rw [hy302]; with_reducible exact H) | (have H2_ := (Option.bind_some _ _).symm.trans H; rw [hy302]; with_reducible exact H2_) | (have H2_ := (Option.bind_some _ _).symm.trans H; with_reducible exact H2_) | with_reducible exact H | (rw [hy302]; exact H) | exact H
  have Ny302 := Ya hy302
  clear hy302
  replace H := Z37.mp H
  obtain ⟨t305, A50, H⟩ := H
  replace H : (some (t293, t296, y302, t305)) = some (r1, r2, r3, r4) := H
  have A5 := Ya A50
  clear A50
  simp only [Option.some.injEq, Prod.mk.injEq] at H
  obtain ⟨rfl, rfl, rfl, rfl⟩ := H
  go_enter Try.func66, Try.ntmps66
  try go_wp2_with (first | ((with_reducible refine gate_dst (N := 1) rfl ?_); refine Yx 1 #[.slice A0_0 l0_0.length c0_0, .slice A0_1 l0_1.length c0_1, .slice A0_2 l0_2.length c0_2, .slice A0_3 l0_3.length c0_3] 33 ?_; intro gb291 hg w6 hbox hb; have BK291 := Ya hbox; have GE291 := Yg hg; replace HB := Yh hb; clear hb hbox hg) | ((with_reducible refine gate_dst (N := 2) rfl ?_); refine Yx 2 YN4 33 ?_; intro gb292 hg w7 hbox hb; have BK292 := Ya hbox; have GE292 := Yg hg; replace HB := Yh hb; have NB291_292 := Yn BK291 hg; have NB292_291 := Ym BK291 hg; replace BK291 := Yb BK291 hb; clear hb hbox hg))
  replace BK291 := Ya (Z27 BK291.out)
  replace BK292 := Ya (Z27 BK292.out)
  replace HB := Ya (Z4 HB.out)
  refine start_ (n := 15) (S := fun w' => w'.cell? ⟨gb291, 0, none⟩ = some (.slice A0_0 l0_0.length c0_0) ∧ w'.cell? ⟨gb291, 1, none⟩ = some (.slice A0_1 l0_1.length c0_1) ∧ w'.cell? ⟨gb291, 2, none⟩ = some (.slice A0_2 l0_2.length c0_2) ∧ w'.cell? ⟨gb291, 3, none⟩ = some (.slice A0_3 l0_3.length c0_3)) (ds := []) (YA 15 0) (by kernel_rfl) rfl rfl (Yz4 BK291.out) (fun hHeld => ?_); refine with_tabW spec_foOwn.tab1 spec_foOwn.bits1 (fun HT_ HW_ => ?_)
  generalize w7.drew = w8 at BK291 BK292 HB hHeld ⊢
  refine Yp 0 (some 3) (YA 15 1) rfl HT_.out ?_
  refine Yp 3 (some 6) (YA 15 9) rfl HT_.out ?_
  refine Yp 7 (some 10) (YA 15 137) rfl HT_.out ?_
  refine Yp 10 (some 13) (YA 15 1161) rfl HT_.out ?_
  refine Yt 1 (some 4) (YA 15 1163) rfl HT_.out HW_.out hHeld Q8 ?_
  refine Yt 4 (some 7) (YA 15 1179) rfl HT_.out HW_.out hHeld Q8 ?_
  refine Yt 8 (some 11) (YA 15 1435) rfl HT_.out HW_.out hHeld Q8 ?_
  refine Yt 11 (some 14) (YA 15 3483) rfl HT_.out HW_.out hHeld Q8 ?_
  refine join_ (σ := Value × Value × Value) 4 (YA 15 3583) (fun s_ => [(5, s_.1), (8, s_.2.1), (9, s_.2.2)]) (fun s_ w' => (w'.cell? ⟨gb291, 0, none⟩ = some (.slice A0_0 l0_0.length c0_0) ∧ w'.cell? ⟨gb291, 1, none⟩ = some (.slice A0_1 l0_1.length c0_1) ∧ w'.cell? ⟨gb291, 2, none⟩ = some (.slice A0_2 l0_2.length c0_2) ∧ w'.cell? ⟨gb291, 3, none⟩ = some (.slice A0_3 l0_3.length c0_3)) ∧ (Kd.R (Kd.int .i64) 3 w' w.heap.size (fun k_ => some k_ ≠ (s_.2.1 : Value).ownBlock) s_.1 t293) ∧ (Kd.R (Kd.int .i64) 3 w' w.heap.size (fun k_ => some k_ ≠ (s_.1 : Value).ownBlock) s_.2.1 t296) ∧ (Kd.R Kd.bool 4 w' w.heap.size (fun _ => True) s_.2.2 y299) ∧ (w'.heap[gb291]? = some (.cells #[.slice A0_0 l0_0.length c0_0, .slice A0_1 l0_1.length c0_1, .slice A0_2 l0_2.length c0_2, .slice A0_3 l0_3.length c0_3] 33 (0, 0))) ∧ (w'.heap[gb292]? = some (.cells YN4 33 (0, 0))) ∧ (Below w.heap.size w w')) ?_ ?_
  rotate_left
  ·intro hCont
   refine two_ (i := 2) (j := 6) (Ni := some 5) (Nj := some 9) (YA 15 3487) (YA 15 3547) rfl rfl rfl rfl (two_of HT_.out (by kernel_rfl)) (by decide) (by decide) (fun K hK => ?_) (fun K hK => ?_)
   ·skip
    refine goes_ Try.func71 (by kernel_rfl) rfl #[.slice A0_0 l0_0.length c0_0] (by rfl) rfl rfl Q5 ?_
    with_reducible refine (spec_l1Own.calls _ _ l0_0 t293 _ ?side1 ?side2 A2.out).mono ?_
    (case side1 => exact Yc (Z23 HR0_0.out HB.out))
    (case side2 => exact HC0_0.out)
    rintro e w9 ⟨v294, rfl, ho0, hb⟩
    refine ⟨_, rfl, ?_⟩
    have HO295 := Yl ho0
    replace BK291 := Yb BK291 hb
    replace BK292 := Yb BK292 hb
    replace HB := Yh hb
    (try clear hb ho0)
    refine hK.out _ _ (Yz4 BK291.out) (fun hHeld => ?_)
    clear hK K
    refine norm_ (a' := ?_) ?_ ?_
    rotate_left
    ·show Act.put _ (some 5) _ = _
     simp only [Act.put, Z0, Z1, Z2, i64_w, i32_w]
     rfl
    refine two_ (i := 5) (j := 6) (Ni := some 8) (Nj := some 9) (YA 15 3519) (YA 15 3551) rfl rfl rfl rfl (two_of HT_.out (by kernel_rfl)) (by decide) (by decide) (fun K hK => ?_) (fun K hK => ?_)
    ·skip
     refine goes_ Try.func71 (by kernel_rfl) rfl #[.slice A0_1 l0_1.length c0_1] (by rfl) rfl rfl Q5 ?_
     with_reducible refine (spec_l1Own.calls _ _ l0_1 t296 _ ?side1 ?side2 A3.out).mono ?_
     (case side1 => exact Yc (Z23 HR0_1.out HB.out))
     (case side2 => exact HC0_1.out)
     rintro e w10 ⟨v297, rfl, ho0, hb⟩
     refine ⟨_, rfl, ?_⟩
     have HO298 := Yl (Kd.R_new' ho0 (Z18 (Yr HO295.out)))
     replace HO295 := Ya (Kd.R_elder' (Yr HO295.out) (Kd.R_base ho0) hb)
     replace BK291 := Yb BK291 hb
     replace BK292 := Yb BK292 hb
     replace HB := Yh hb
     (try clear hb ho0)
     refine hK.out _ _ (Yz4 BK291.out) (fun hHeld => ?_)
     clear hK K
     refine norm_ (a' := ?_) ?_ ?_
     rotate_left
     ·show Act.put _ (some 8) _ = _
      simp only [Act.put, Z0, Z1, Z2, i64_w, i32_w]
      rfl
     refine one_ (i := 6) (N := some 9) (YA 15 3583) rfl rfl (one_of HT_.out (by kernel_rfl)) (by decide) (fun K hK => ?_)
     refine Kd.R_lit_step Kd.bool _ 4 ?hg (N := 9) ?hd (xs := ([] : List Bool)) (inner := []) (ok := fun _ => True) (okp := fun _ => True) ?hr ?hp (fun _ hk => hk) trivial (Below.refl _ _) (Nat.le_refl _) (by simp) ?_; (case hd => rfl); (case hg => rfl); (case hr => first | (go_simp; done) | (go_simp; rfl)); (case hp => exact (Reps.none _ _))
     intro v300 w11 ho12 hb hg_ hnew_
     clear hg_ hnew_
     (first | rw [← Ny299.out] at ho12 | (simp only [Int.reduceToNat] at ho12; rw [← Ny299.out] at ho12))
     replace HO295 := Yw HO295 hb
     replace HO298 := Yw HO298 hb
     have HO301 := Yl ho12
     replace BK291 := Yb BK291 hb
     replace BK292 := Yb BK292 hb
     replace HB := Yh hb
     clear hb ho12
     refine hK.out _ _ (Yz4 BK291.out) (fun hHeld => ?_)
     clear hK K
     refine norm_ (a' := ?_) ?_ ?_
     rotate_left
     ·show Act.put _ (some 9) _ = _
      simp only [Act.put, Z0, Z1, Z2, i64_w, i32_w]
      rfl
     exact norm_ Q36 (hCont (v294, v297, v300) _ ⟨hHeld, (Yj HO295.out (fun _ hk => hk.2)), (Yj HO298.out (fun _ hk => hk.2)), (Yr HO301.out), (Yk BK291.out), (Yk BK292.out), Q0⟩)
    ·skip
     refine Kd.R_lit_step Kd.bool _ 4 ?hg (N := 9) ?hd (xs := ([] : List Bool)) (inner := []) (ok := fun _ => True) (okp := fun _ => True) ?hr ?hp (fun _ hk => hk) trivial (Below.refl _ _) (Nat.le_refl _) (by simp) ?_; (case hd => rfl); (case hg => rfl); (case hr => first | (go_simp; done) | (go_simp; rfl)); (case hp => exact (Reps.none _ _))
     intro v300 w10 ho11 hb hg_ hnew_
     clear hg_ hnew_
     (first | rw [← Ny299.out] at ho11 | (simp only [Int.reduceToNat] at ho11; rw [← Ny299.out] at ho11))
     replace HO295 := Yw HO295 hb
     have HO301 := Yl ho11
     replace BK291 := Yb BK291 hb
     replace BK292 := Yb BK292 hb
     replace HB := Yh hb
     clear hb ho11
     refine hK.out _ _ (Yz4 BK291.out) (fun hHeld => ?_)
     clear hK K
     refine norm_ (a' := ?_) ?_ ?_
     rotate_left
     ·show Act.put _ (some 9) _ = _
      simp only [Act.put, Z0, Z1, Z2, i64_w, i32_w]
      rfl
     refine one_ (i := 5) (N := some 8) (YA 15 3583) rfl rfl (one_of HT_.out (by kernel_rfl)) (by decide) (fun K hK => ?_)
     refine goes_ Try.func71 (by kernel_rfl) rfl #[.slice A0_1 l0_1.length c0_1] (by rfl) rfl rfl Q5 ?_
     with_reducible refine (spec_l1Own.calls _ _ l0_1 t296 _ ?side1 ?side2 A3.out).mono ?_
     (case side1 => exact Yc (Z23 HR0_1.out HB.out))
     (case side2 => exact HC0_1.out)
     rintro e w12 ⟨v297, rfl, ho0, hb⟩
     refine ⟨_, rfl, ?_⟩
     replace HO301 := Yw HO301 hb
     have HO298 := Yl (Kd.R_new' ho0 (Z18 (Yr HO295.out)))
     replace HO295 := Ya (Kd.R_elder' (Yr HO295.out) (Kd.R_base ho0) hb)
     replace BK291 := Yb BK291 hb
     replace BK292 := Yb BK292 hb
     replace HB := Yh hb
     (try clear hb ho0)
     refine hK.out _ _ (Yz4 BK291.out) (fun hHeld => ?_)
     clear hK K
     refine norm_ (a' := ?_) ?_ ?_
     rotate_left
     ·show Act.put _ (some 8) _ = _
      simp only [Act.put, Z0, Z1, Z2, i64_w, i32_w]
      rfl
     exact norm_ Q36 (hCont (v294, v297, v300) _ ⟨hHeld, (Yj HO295.out (fun _ hk => hk.2)), (Yj HO298.out (fun _ hk => hk.2)), (Yr HO301.out), (Yk BK291.out), (Yk BK292.out), Q0⟩)
   ·skip
    refine Kd.R_lit_step Kd.bool _ 4 ?hg (N := 9) ?hd (xs := ([] : List Bool)) (inner := []) (ok := fun _ => True) (okp := fun _ => True) ?hr ?hp (fun _ hk => hk) trivial (Below.refl _ _) (Nat.le_refl _) (by simp) ?_; (case hd => rfl); (case hg => rfl); (case hr => first | (go_simp; done) | (go_simp; rfl)); (case hp => exact (Reps.none _ _))
    intro v300 w9 ho10 hb hg_ hnew_
    clear hg_ hnew_
    (first | rw [← Ny299.out] at ho10 | (simp only [Int.reduceToNat] at ho10; rw [← Ny299.out] at ho10))
    have HO301 := Yl ho10
    replace BK291 := Yb BK291 hb
    replace BK292 := Yb BK292 hb
    replace HB := Yh hb
    clear hb ho10
    refine hK.out _ _ (Yz4 BK291.out) (fun hHeld => ?_)
    clear hK K
    refine norm_ (a' := ?_) ?_ ?_
    rotate_left
    ·show Act.put _ (some 9) _ = _
     simp only [Act.put, Z0, Z1, Z2, i64_w, i32_w]
     rfl
    refine one_ (i := 2) (N := some 5) (YA 15 3551) rfl rfl (one_of HT_.out (by kernel_rfl)) (by decide) (fun K hK => ?_)
    refine goes_ Try.func71 (by kernel_rfl) rfl #[.slice A0_0 l0_0.length c0_0] (by rfl) rfl rfl Q5 ?_
    with_reducible refine (spec_l1Own.calls _ _ l0_0 t293 _ ?side1 ?side2 A2.out).mono ?_
    (case side1 => exact Yc (Z23 HR0_0.out HB.out))
    (case side2 => exact HC0_0.out)
    rintro e w11 ⟨v294, rfl, ho0, hb⟩
    refine ⟨_, rfl, ?_⟩
    replace HO301 := Yw HO301 hb
    have HO295 := Yl ho0
    replace BK291 := Yb BK291 hb
    replace BK292 := Yb BK292 hb
    replace HB := Yh hb
    (try clear hb ho0)
    refine hK.out _ _ (Yz4 BK291.out) (fun hHeld => ?_)
    clear hK K
    refine norm_ (a' := ?_) ?_ ?_
    rotate_left
    ·show Act.put _ (some 5) _ = _
     simp only [Act.put, Z0, Z1, Z2, i64_w, i32_w]
     rfl
    refine one_ (i := 5) (N := some 8) (YA 15 3583) rfl rfl (one_of HT_.out (by kernel_rfl)) (by decide) (fun K hK => ?_)
    refine goes_ Try.func71 (by kernel_rfl) rfl #[.slice A0_1 l0_1.length c0_1] (by rfl) rfl rfl Q5 ?_
    with_reducible refine (spec_l1Own.calls _ _ l0_1 t296 _ ?side1 ?side2 A3.out).mono ?_
    (case side1 => exact Yc (Z23 HR0_1.out HB.out))
    (case side2 => exact HC0_1.out)
    rintro e w12 ⟨v297, rfl, ho0, hb⟩
    refine ⟨_, rfl, ?_⟩
    replace HO301 := Yw HO301 hb
    have HO298 := Yl (Kd.R_new' ho0 (Z18 (Yr HO295.out)))
    replace HO295 := Ya (Kd.R_elder' (Yr HO295.out) (Kd.R_base ho0) hb)
    replace BK291 := Yb BK291 hb
    replace BK292 := Yb BK292 hb
    replace HB := Yh hb
    (try clear hb ho0)
    refine hK.out _ _ (Yz4 BK291.out) (fun hHeld => ?_)
    clear hK K
    refine norm_ (a' := ?_) ?_ ?_
    rotate_left
    ·show Act.put _ (some 8) _ = _
     simp only [Act.put, Z0, Z1, Z2, i64_w, i32_w]
     rfl
    exact norm_ Q36 (hCont (v294, v297, v300) _ ⟨hHeld, (Yj HO295.out (fun _ hk => hk.2)), (Yj HO298.out (fun _ hk => hk.2)), (Yr HO301.out), (Yk BK291.out), (Yk BK292.out), Q0⟩)
  rintro ⟨v294, v297, v300⟩ w13 ⟨hS_, h0_, h1_, h2_, h3_, h4_, h5_⟩
  have HO295 : Aside0 (Kd.R (Kd.int .i64) 3 w13 w.heap.size (fun k_ => some k_ ≠ (v297 : Value).ownBlock) v294 t293) := ⟨h0_⟩
  have HO298 : Aside0 (Kd.R (Kd.int .i64) 3 w13 w.heap.size (fun k_ => some k_ ≠ (v294 : Value).ownBlock) v297 t296) := ⟨h1_⟩
  have HO301 : Aside0 (Kd.R Kd.bool 4 w13 w.heap.size (fun _ => True) v300 y299) := ⟨h2_⟩
  replace BK291 : Aside0 (w13.heap[gb291]? = some (.cells #[.slice A0_0 l0_0.length c0_0, .slice A0_1 l0_1.length c0_1, .slice A0_2 l0_2.length c0_2, .slice A0_3 l0_3.length c0_3] 33 (0, 0))) := ⟨h3_⟩
  replace BK292 : Aside0 (w13.heap[gb292]? = some (.cells YN4 33 (0, 0))) := ⟨h4_⟩
  replace HB : Aside0 (Below w.heap.size w w13) := ⟨h5_⟩
  clear h0_ h1_ h2_ h3_ h4_ h5_
  have hHeld : w13.cell? ⟨gb291, 0, none⟩ = some (.slice A0_0 l0_0.length c0_0) ∧ w13.cell? ⟨gb291, 1, none⟩ = some (.slice A0_1 l0_1.length c0_1) ∧ w13.cell? ⟨gb291, 2, none⟩ = some (.slice A0_2 l0_2.length c0_2) ∧ w13.cell? ⟨gb291, 3, none⟩ = some (.slice A0_3 l0_3.length c0_3) := hS_
  refine norm_ (a' := ?_) ?_ ?_
  rotate_left
  ·simp only [putAll, Act.put, Z0, Z1, Z2]
   rfl
  refine one_ (i := 9) (N := some 12) (YA 15 4095) rfl rfl (one_of HT_.out (by kernel_rfl)) (by decide) (fun K hK => ?_)
  refine Kd.R_append_rows_step Kd.bool (w0 := w) w.heap.size (by rfl) (.tmp 9) (.tmp 11) 31 4 (.bool false) 1 rfl Try.underlying31 info4 rfl (by decide) (by omega) v300 y299 l0_2 _ _ _ (fun _ => True) (fun _ => False) rfl rfl ?aO ?aR (fun _ _ h => h) (fun _ h => h.elim) ?aF ?aB ?aS ?aL ?_
  (case aR => repeat (first | exact (Z23 HR0_2.out HB.out) | (with_reducible refine Z20 ?_ _) | (with_reducible refine Z21 ?_ _) | (with_reducible refine Z22 ?_)))
  (case aB => exact Q0)
  (case aF => exact (fun _ _ => trivial))
  (case aO => exact (Yr HO301.out))
  (case aS => exact (Z7 Q0))
  (case aL => have := LMc4.out; omega)
  intro v303 w14 ho hb hg hat
  rw [← Ny302.out] at ho
  replace BK291 := Ya (blk_grown (g := gb291) (o := .cells #[.slice A0_0 l0_0.length c0_0, .slice A0_1 l0_1.length c0_1, .slice A0_2 l0_2.length c0_2, .slice A0_3 l0_3.length c0_3] 33 (0, 0)) (Yk BK291.out) hg (Kd.R_ne HO301.out BK291.out (by decide)))
  replace BK292 := Ya (blk_grown (g := gb292) (o := .cells YN4 33 (0, 0)) (Yk BK292.out) hg (Kd.R_ne HO301.out BK292.out (by decide)))
  replace HO295 := Ya (Kd.R_over' (Yr HO295.out) (Kd.R_typed (Yr HO301.out)) (by decide) hg)
  replace HO298 := Ya (Kd.R_over' (Yr HO298.out) (Kd.R_typed (Yr HO301.out)) (by decide) hg)
  replace HB := Ya hb
  have HO304 := Ya ho
  clear HO301
  clear ho hb hg hat
  refine hK.out _ _ (Yz4 BK291.out) (fun hHeld => ?_)
  clear hK K
  refine norm_ (a' := ?_) ?_ ?_
  rotate_left
  ·show Act.put _ (some 12) _ = _
   simp only [Act.put, Z0, Z1, Z2, i64_w, i32_w]
   rfl
  refine one_ (i := 12) (N := some 15) (YA 15 8191) rfl rfl (one_of HT_.out (by kernel_rfl)) (by decide) (fun K hK => ?_)
  refine goes_ Try.func71 (by kernel_rfl) rfl #[.slice A0_3 l0_3.length c0_3] (by rfl) rfl rfl Q5 ?_
  with_reducible refine (spec_l1Own.calls _ _ l0_3 t305 _ ?side1 ?side2 A5.out).mono ?_
  (case side1 => exact Yc (Z23 HR0_3.out HB.out))
  (case side2 => exact HC0_3.out)
  rintro e w15 ⟨v306, rfl, ho0, hb⟩
  refine ⟨_, rfl, ?_⟩
  replace HO304 := Yw HO304 hb
  have HO307 := Yl (Kd.R_new' (Kd.R_new' ho0 (Z18 (Yr HO295.out))) (Z18 (Yr HO298.out)))
  replace HO295 := Ya (Kd.R_elder' (Yr HO295.out) (Kd.R_base ho0) hb)
  replace HO298 := Ya (Kd.R_elder' (Yr HO298.out) (Kd.R_base ho0) hb)
  replace BK291 := Yb BK291 hb
  replace BK292 := Yb BK292 hb
  replace HB := Yh hb
  (try clear hb ho0)
  obtain ⟨Ao16, co16, eo16⟩ := Z19 HO307.out
  (first | subst eo16 | (injection eo16 with f1_ f2_ f3_; have f4_ := f1_.symm; have f5_ := f3_.symm; clear f1_ f2_ f3_; subst f4_; subst f5_))
  obtain ⟨Ao17, co17, eo17⟩ := Z19 HO304.out
  (first | subst eo17 | (injection eo17 with f1_ f2_ f3_; have f4_ := f1_.symm; have f5_ := f3_.symm; clear f1_ f2_ f3_; subst f4_; subst f5_))
  obtain ⟨Ao18, co18, eo18⟩ := Z19 HO298.out
  (first | subst eo18 | (injection eo18 with f1_ f2_ f3_; have f4_ := f1_.symm; have f5_ := f3_.symm; clear f1_ f2_ f3_; subst f4_; subst f5_))
  obtain ⟨Ao19, co19, eo19⟩ := Z19 HO295.out
  (first | subst eo19 | (injection eo19 with f1_ f2_ f3_; have f4_ := f1_.symm; have f5_ := f3_.symm; clear f1_ f2_ f3_; subst f4_; subst f5_))
  refine hK.out _ _ (Yz4 BK291.out) (fun hHeld => ?_)
  clear hK K
  refine norm_ (a' := ?_) ?_ ?_
  rotate_left
  ·show Act.put _ (some 15) _ = _
   simp only [Act.put, Z0, Z1, Z2, i64_w, i32_w]
   rfl
  refine Yp 13 (some 16) (YA 15 16383) rfl HT_.out ?_
  refine one_ (i := 14) (N := none) (YA 15 32767) rfl rfl (one_of HT_.out (by kernel_rfl)) (by decide) (fun K hK => ?_)
  have hs20 : w15.cell? ⟨gb292, 0, none⟩ = some (.slice none 0 0) := (Z24 BK292.out 0).trans rfl
  have hfs20 := Z25 BK292.out 0
  have hns20_0 := NB291_292.out
  have hms20_0 := NB292_291.out
  have hs21 : w15.cell? ⟨gb292, 1, none⟩ = some (.slice none 0 0) := (Z24 BK292.out 1).trans rfl
  have hfs21 := Z25 BK292.out 1
  have hns21_0 := NB291_292.out
  have hms21_0 := NB292_291.out
  have hs22 : w15.cell? ⟨gb292, 2, none⟩ = some (.slice none 0 0) := (Z24 BK292.out 2).trans rfl
  have hfs22 := Z25 BK292.out 2
  have hns22_0 := NB291_292.out
  have hms22_0 := NB292_291.out
  have hs23 : w15.cell? ⟨gb292, 3, none⟩ = some (.slice none 0 0) := (Z24 BK292.out 3).trans rfl
  have hfs23 := Z25 BK292.out 3
  have hns23_0 := NB291_292.out
  have hms23_0 := NB292_291.out
  refine skip_ (w1 := ?_) (by rfl) rfl ?_ ?_
  rotate_left
  ·go_simp
   rfl
  refine hK.out _ _ ⟨((cell_far (p := ⟨gb292, _, none⟩) NB291_292.out _).trans (((cell_far (p := ⟨gb292, _, none⟩) NB291_292.out _).trans (((cell_far (p := ⟨gb292, _, none⟩) NB291_292.out _).trans (((cell_far (p := ⟨gb292, _, none⟩) NB291_292.out _).trans (hHeld.1)))))))), ((cell_far (p := ⟨gb292, _, none⟩) NB291_292.out _).trans (((cell_far (p := ⟨gb292, _, none⟩) NB291_292.out _).trans (((cell_far (p := ⟨gb292, _, none⟩) NB291_292.out _).trans (((cell_far (p := ⟨gb292, _, none⟩) NB291_292.out _).trans (hHeld.2.1)))))))), ((cell_far (p := ⟨gb292, _, none⟩) NB291_292.out _).trans (((cell_far (p := ⟨gb292, _, none⟩) NB291_292.out _).trans (((cell_far (p := ⟨gb292, _, none⟩) NB291_292.out _).trans (((cell_far (p := ⟨gb292, _, none⟩) NB291_292.out _).trans (hHeld.2.2.1)))))))), ((cell_far (p := ⟨gb292, _, none⟩) NB291_292.out _).trans (((cell_far (p := ⟨gb292, _, none⟩) NB291_292.out _).trans (((cell_far (p := ⟨gb292, _, none⟩) NB291_292.out _).trans (((cell_far (p := ⟨gb292, _, none⟩) NB291_292.out _).trans (hHeld.2.2.2))))))))⟩ (fun hHeld => ?_)
  clear hK K
  refine done_ (done_of HT_.out (by kernel_rfl)) ?_
  try go_wp2
  refine bodyPost_ret (results_cell_row rfl _ _ gb292 33 #[.slice Ao19 t293.length co19, .slice Ao18 t296.length co18, .slice Ao17 y302.length co17, .slice Ao16 t305.length co16] (0, 0) _ rfl (Yk (Yv4 BK292.out)) Try.underlying33 rfl (by kernel_rfl)) rfl ?_
  exact ⟨_, _, _, _, Q1, Yj (Yf4 HO295.out BK292.out) (fun _ hk => ⟨hk.1.1, hk.1.2⟩), Yj (Yf4 HO298.out BK292.out) (fun _ hk => ⟨hk.1.1, hk.1.2⟩), Yj (Yf4 HO304.out BK292.out) (fun _ hk => trivial), Yj (Yf4 HO307.out BK292.out) (fun _ hk => ⟨hk.1.1.2, hk.1.2⟩), Q12⟩
 ·rw [if_neg c4] at H
  exact absurd H (by simp)
end Go.Proofs.Ytapbbmicfkbafaa.MFnFocusSteps
