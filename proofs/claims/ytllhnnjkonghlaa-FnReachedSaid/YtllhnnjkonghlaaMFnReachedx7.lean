import Derived.Test.YtllhnnjkonghlaaMFnReachedx0
import Derived.Test.YtllhnnjkonghlaaMFnReachedx1
import Derived.Test.YtllhnnjkonghlaaMFnReachedx2
import Derived.Test.YtllhnnjkonghlaaMFnReachedx3
import Derived.Test.YtllhnnjkonghlaaMFnReachedx6
namespace Go.Proofs.Ytllhnnjkonghlaa.MFnReached
open Go.RowKit Go.Proofs.YtllhnnjkonghlaaW.PrintWords Go.Proofs.YtllhnnjkonghlaaW.PrintLast Go.Proofs.YtllhnnjkonghlaaW.PrintMore
attribute [local go_sem] max2_int min2_int max_two min_two max_three min_three max_four min_four   
set_option linter.unusedVariables false
set_option linter.unusedSimpArgs false
mutual
def spec_moDistances.l0 : Nat → Int → List (S45) → List Int → Int → Option (List Int)
 | 0, _, _, _, _ => none
 | k + 1, x0, x1, x5, x6 => (spec_raFactorial.f k x0).bind fun t309 => (if x6 < t309 then (if x5.length < 17592186044416 then (spec_moDistances.l0 k x0 x1 (x5 ++ [(-1)]) (wrap64 (x6 + 1))) else (none)) else ((spec_raUpTo.f k x0).bind fun t313 => (if 0 < (x5.length : Int) then (spec_moDistances.l1 k x1 (x5.set (0 : Int).toNat 0) (([t313] : List (List Int))) 0) else (none))))
def spec_moDistances.l1 : Nat → List (S45) → List Int → List (List Int) → Int → Option (List Int)
 | 0, _, _, _, _ => none
 | k + 1, x1, x5, x7, x8 => if x8 < (x7.length : Int) then (spec_moDistances.l2 k x1 x5 x7 x8 x1 (x1.length : Int) 0) else (some x5)
def spec_moDistances.l2 : Nat → List (S45) → List Int → List (List Int) → Int → List (S45) → Int → Int → Option (List Int)
 | 0, _, _, _, _, _, _, _ => none
 | k + 1, x1, x5, x7, x8, x32, x33, x34 => if x34 < x33 then (if 0 ≤ x34 then (if x34 < (x32.length : Int) then (if 0 ≤ x8 then (if x8 < (x7.length : Int) then ((spec_moApply.f k (rd_L2 x7 x8) ((rd_T45 x32 x34).f0) ((rd_T45 x32 x34).f1) ((rd_T45 x32 x34).f2)).bind fun t323 => ((spec_raRank.f k t323).bind fun t326 => (if 0 ≤ t326 then (if t326 < (x5.length : Int) then (if (rd x5 t326) < 0 then ((spec_raRank.f k t323).bind fun t328 => ((spec_raRank.f k (rd_L2 x7 x8)).bind fun t330 => (if 0 ≤ t330 then (if t330 < (x5.length : Int) then (if 0 ≤ t328 then (if t328 < (x5.length : Int) then (if x7.length < 5864062014805 then (spec_moDistances.l2 k x1 (x5.set (t328 : Int).toNat (wrap64 ((rd x5 t330) + 1))) (x7 ++ [t323]) x8 x32 x33 (wrap64 (x34 + 1))) else (none)) else (none)) else (none)) else (none)) else (none)))) else (spec_moDistances.l2 k x1 x5 x7 x8 x32 x33 (wrap64 (x34 + 1)))) else (none)) else (none)))) else (none)) else (none)) else (none)) else (none)) else (spec_moDistances.l1 k x1 x5 x7 (wrap64 (x8 + 1)))
end
def spec_moDistances.f (k : Nat) (a0 : Int) (l1 : List (S45)) : Option (List Int) := spec_moDistances.l0 k a0 l1 ([] : List Int) 0
theorem spec_moDistances.mono_l : ∀ k, (∀ y0 y1 y2 y3, LeO (spec_moDistances.l0 k y0 y1 y2 y3) (spec_moDistances.l0 (k + 1) y0 y1 y2 y3)) ∧ (∀ y0 y1 y2 y3, LeO (spec_moDistances.l1 k y0 y1 y2 y3) (spec_moDistances.l1 (k + 1) y0 y1 y2 y3)) ∧ (∀ y0 y1 y2 y3 y4 y5 y6, LeO (spec_moDistances.l2 k y0 y1 y2 y3 y4 y5 y6) (spec_moDistances.l2 (k + 1) y0 y1 y2 y3 y4 y5 y6))
 | 0 => ⟨fun _ _ _ _ r h => by simp [spec_moDistances.l0] at h, fun _ _ _ _ r h => by simp [spec_moDistances.l1] at h, fun _ _ _ _ _ _ _ r h => by simp [spec_moDistances.l2] at h⟩
 | k + 1 => by
  obtain ⟨ih0, ih1, ih2⟩ := spec_moDistances.mono_l k
  refine ⟨?_, ?_, ?_⟩
  ·intro y0 y1 y2 y3
   unfold spec_moDistances.l0
   repeat' first
   | (with_reducible exact ih0 _ _ _ _)
   | (with_reducible exact ih1 _ _ _ _)
   | (with_reducible exact ih2 _ _ _ _ _ _ _)
   | (with_reducible exact spec_moApply.mono _ _ _ _ _)
   | (with_reducible exact spec_raFactorial.mono _ _)
   | (with_reducible exact spec_raRank.mono _ _)
   | (with_reducible exact spec_raUpTo.mono _ _)
   | (with_reducible exact LeO.refl _)
   | (with_reducible exact LeO.none _)
   | (with_reducible refine LeO.ite ?_ ?_)
   | (with_reducible refine LeO.bind ?_ (fun _ => ?_))
   | exact ih0 _ _ _ _
   | exact ih1 _ _ _ _
   | exact ih2 _ _ _ _ _ _ _
   | exact spec_moApply.mono _ _ _ _ _
   | exact spec_raFactorial.mono _ _
   | exact spec_raRank.mono _ _
   | exact spec_raUpTo.mono _ _
   | exact LeO.none _
   | refine LeO.ite ?_ ?_
   | refine LeO.bind ?_ (fun _ => ?_)
  ·intro y0 y1 y2 y3
   unfold spec_moDistances.l1
   repeat' first
   | (with_reducible exact ih0 _ _ _ _)
   | (with_reducible exact ih1 _ _ _ _)
   | (with_reducible exact ih2 _ _ _ _ _ _ _)
   | (with_reducible exact spec_moApply.mono _ _ _ _ _)
   | (with_reducible exact spec_raFactorial.mono _ _)
   | (with_reducible exact spec_raRank.mono _ _)
   | (with_reducible exact spec_raUpTo.mono _ _)
   | (with_reducible exact LeO.refl _)
   | (with_reducible exact LeO.none _)
   | (with_reducible refine LeO.ite ?_ ?_)
   | (with_reducible refine LeO.bind ?_ (fun _ => ?_))
   | exact ih0 _ _ _ _
   | exact ih1 _ _ _ _
   | exact ih2 _ _ _ _ _ _ _
   | exact spec_moApply.mono _ _ _ _ _
   | exact spec_raFactorial.mono _ _
   | exact spec_raRank.mono _ _
   | exact spec_raUpTo.mono _ _
   | exact LeO.none _
   | refine LeO.ite ?_ ?_
   | refine LeO.bind ?_ (fun _ => ?_)
  ·intro y0 y1 y2 y3 y4 y5 y6
   unfold spec_moDistances.l2
   repeat' first
   | (with_reducible exact ih0 _ _ _ _)
   | (with_reducible exact ih1 _ _ _ _)
   | (with_reducible exact ih2 _ _ _ _ _ _ _)
   | (with_reducible exact spec_moApply.mono _ _ _ _ _)
   | (with_reducible exact spec_raFactorial.mono _ _)
   | (with_reducible exact spec_raRank.mono _ _)
   | (with_reducible exact spec_raUpTo.mono _ _)
   | (with_reducible exact LeO.refl _)
   | (with_reducible exact LeO.none _)
   | (with_reducible refine LeO.ite ?_ ?_)
   | (with_reducible refine LeO.bind ?_ (fun _ => ?_))
   | exact ih0 _ _ _ _
   | exact ih1 _ _ _ _
   | exact ih2 _ _ _ _ _ _ _
   | exact spec_moApply.mono _ _ _ _ _
   | exact spec_raFactorial.mono _ _
   | exact spec_raRank.mono _ _
   | exact spec_raUpTo.mono _ _
   | exact LeO.none _
   | refine LeO.ite ?_ ?_
   | refine LeO.bind ?_ (fun _ => ?_)
theorem spec_moDistances.mono : ∀ a0 a1 k, LeO (spec_moDistances.f k a0 a1) (spec_moDistances.f (k + 1) a0 a1) := by
 intro a0 a1 k
 obtain ⟨ih0, ih1, ih2⟩ := spec_moDistances.mono_l k
 unfold spec_moDistances.f
 repeat' first
   | (with_reducible exact ih0 _ _ _ _)
   | (with_reducible exact ih1 _ _ _ _)
   | (with_reducible exact ih2 _ _ _ _ _ _ _)
   | (with_reducible exact spec_moApply.mono _ _ _ _ _)
   | (with_reducible exact spec_raFactorial.mono _ _)
   | (with_reducible exact spec_raRank.mono _ _)
   | (with_reducible exact spec_raUpTo.mono _ _)
   | (with_reducible exact LeO.refl _)
   | (with_reducible exact LeO.none _)
   | (with_reducible refine LeO.ite ?_ ?_)
   | (with_reducible refine LeO.bind ?_ (fun _ => ?_))
   | exact ih0 _ _ _ _
   | exact ih1 _ _ _ _
   | exact ih2 _ _ _ _ _ _ _
   | exact spec_moApply.mono _ _ _ _ _
   | exact spec_raFactorial.mono _ _
   | exact spec_raRank.mono _ _
   | exact spec_raUpTo.mono _ _
   | exact LeO.none _
   | refine LeO.ite ?_ ?_
   | refine LeO.bind ?_ (fun _ => ?_)
def spec_moDistances.T16 : Bool × List (List Nat × List Nat) := (true, [([], []), ([], []), ([1], [1]), ([], []), ([], []), ([], []), ([4, 5], [4, 5]), ([6], [6]), ([7, 2], [7]), ([3, 8], [3, 8]), ([9], [9]), ([10], [10]), ([0, 2, 0, 1, 2, 3, 4, 5, 6, 7, 8, 9, 10, 11], [0, 2]), ([12, 11, 8, 0, 1, 2, 3, 4, 5, 6, 7, 8, 9, 10, 11], [11, 12])])
def spec_moDistances.B16 : List Nat := [0, 0, 2, 0, 0, 0, 48, 112, 246, 510, 1022, 2046, 4095, 8191]
theorem spec_moDistances.tab16 : rtab .any (opsOf Try.f56 16) = spec_moDistances.T16 := by kernel_rfl
theorem spec_moDistances.bits16 : waitsOk spec_moDistances.T16.2 spec_moDistances.B16 = true := by kernel_rfl
set_option maxHeartbeats 8000000 in
set_option maxRecDepth 100000 in
theorem spec_moDistances.calls (k : Nat) (a0 : Int) (A1 : Option Addr) (c1 : Nat) (l1 : List (S45)) (r : List Int) (w : World) (hr1 : Kd.C k45 w A1 l1.length l1) (hc1 : l1.length ≤ c1) (h : spec_moDistances.f k a0 l1 = some r) :
  Calls Try.prog 56 #[.int .i64 a0, .slice A1 l1.length c1] w fun e w' => ∃ v0_ : Value, e = .returned (v0_) ∧ Kd.R (Kd.int .i64) 3 w' w.heap.size (fun _ => True) v0_ r ∧ Below w.heap.size w w' := by
 have hu45 := Try.underlying45
 have HR1 := Ya hr1
 have HC1 := Ya hc1
 clear hr1 hc1
 have HB := Ya (Below.refl w.heap.size w)
 have H : (spec_moDistances.l0 k a0 l1 ([] : List Int) 0) = some r := h
 clear h
 have H' := Ya H
 clear H
 go_enter Try.func56, Try.ntmps56
 go_wp2
 go_loopg [5, 6] k (fun kq v5 v6 w' => ∃ (x5_1 : List Int) (x6_1 : Int), v6 = .int .i64 x6_1 ∧ Aside0 (spec_moDistances.l0 kq a0 l1 x5_1 x6_1 = some r) ∧ Aside0 (kq ≤ k) ∧ Aside0 (Kd.R (Kd.int .i64) 3 w' w.heap.size (fun _ => True) v5 x5_1) ∧ Aside0 (Below w.heap.size w w'))
 case atStart => exact ⟨(([] : List Int)), (0), Q3, H', ⟨Nat.le_refl _⟩, ⟨Q11⟩, ⟨Q0⟩⟩
 case round =>
  clear H'
  try clear c1
  try clear p2
  obtain ⟨x5_1, x6_1, rfl, HA, HK1, HO_5, HB⟩ := hrel
  cases gk with
  | zero => exact absurd HA.out (by simp [spec_moDistances.l0])
  | succ k1 =>
   have H := HA.out
   clear HA
   simp only [spec_moDistances.l0] at H
   replace H := Z35.mp H
   obtain ⟨t309, A30, H⟩ := H
   replace H : (if x6_1 < t309 then (if x5_1.length < 17592186044416 then (spec_moDistances.l0 k1 a0 l1 (x5_1 ++ [(-1)]) (wrap64 (x6_1 + 1))) else (none)) else ((spec_raUpTo.f k1 a0).bind fun t313 => (if 0 < (x5_1.length : Int) then (spec_moDistances.l1 k1 l1 (x5_1.set (0 : Int).toNat 0) (([t313] : List (List Int))) 0) else (none)))) = some r := H
   have A3 := Ya A30
   clear A30
   by_cases c4 : x6_1 < t309
   ·rw [if_pos c4] at H
    have c4b0 := Z37 c4
    clear c4
    by_cases c5 : x5_1.length < 17592186044416
    ·rw [if_pos c5] at H
     have LMc5 := Ya c5
     clear c5
     obtain ⟨y310, hy310⟩ : ∃ y_ : List Int, y_ = (x5_1 ++ [(-1)]) := ⟨_, rfl⟩
     replace H : (spec_moDistances.l0 k1 a0 l1 y310 (wrap64 (x6_1 + 1))) = some r := by first | (rw [hy310]; with_reducible exact H) | (have H2_ := (Option.bind_some _ _).symm.trans H; rw [hy310]; with_reducible exact H2_) | (have H2_ := (Option.bind_some _ _).symm.trans H; with_reducible exact H2_) | with_reducible exact H | (rw [hy310]; exact H) | exact H
     have Ny310 := Ya hy310
     clear hy310
     have H' := Ya H
     clear H
     go_wp2_with (first | ((with_reducible refine gate_callee (f := 43) rfl ?_); refine Yz 14 Try.func43 #[.int .i64 a0] ?_; (with_reducible refine (spec_raFactorial.calls k1 a0 t309 _ A3.out).mono ?_); rintro e w' ⟨rfl, ⟨nd, rfl⟩⟩; refine ⟨_, rfl, ?_⟩) | ((with_reducible refine gate_builtin (b := .append) (xs := #[.tmp 18, .tmp 19]) rfl ?_); at_builtin; refine Kd.R_append (Kd.int .i64) (w0 := w) w.heap.size rfl (.tmp 18) (.tmp 19) 24 3 (.int .i64 0) 8 rfl Try.underlying24 info3 rfl (by decide) (by omega) u5 x5_1 (-1) [.int .i64 (-1)] (fun _ => True) (fun _ => False) rfl rfl ?aP (fun _ hk => hk.elim) ?aF ?aO ?aB ?aS ?aL ?_; (case aP => exact rfl); (case aB => exact Q12); (case aF => exact (fun _ _ => trivial)); (case aO => exact (Yr HO_5.out)); (case aS => exact (Z7 Q12)); (case aL => have := LMc5.out; omega); intro v311 w6 ho hb hg hat; rw [← Ny310.out] at ho; replace HB := Ya hb; have HO312 := Ya ho; clear HO_5; clear ho hb hg hat))
     go_roundg k1
     case measure => have := HK1.out; omega
     case rel => exact ⟨(y310), (wrap64 (x6_1 + 1)), Q3, H', ⟨Q22⟩, ⟨by (with_reducible repeat (first | apply Z9 | apply Z10 | apply Z11)); exact HO312.out⟩, ⟨Q0⟩⟩
    ·rw [if_neg c5] at H
     exact absurd H (by simp)
   ·rw [if_neg c4] at H
    have c4b0 := Z36 c4
    clear c4
    replace H := Z35.mp H
    obtain ⟨t313, A70, H⟩ := H
    replace H : (if 0 < (x5_1.length : Int) then (spec_moDistances.l1 k1 l1 (x5_1.set (0 : Int).toNat 0) (([t313] : List (List Int))) 0) else (none)) = some r := H
    have A7 := Ya A70
    clear A70
    obtain ⟨y316, hy316⟩ : ∃ y_ : List (List Int), y_ = (([t313] : List (List Int))) := ⟨_, rfl⟩
    replace H : (if 0 < (x5_1.length : Int) then (spec_moDistances.l1 k1 l1 (x5_1.set (0 : Int).toNat 0) y316 0) else (none)) = some r := by first | (rw [hy316]; with_reducible exact H) | (have H2_ := (Option.bind_some _ _).symm.trans H; rw [hy316]; with_reducible exact H2_) | (have H2_ := (Option.bind_some _ _).symm.trans H; with_reducible exact H2_) | with_reducible exact H | (rw [hy316]; exact H) | exact H
    have Ny316 := Ya hy316
    clear hy316
    by_cases c8 : 0 < (x5_1.length : Int)
    ·rw [if_pos c8] at H
     have c8b0 := Z37 c8
     have c8b1 : decide (0 < x5_1.length) = true := Z37 (by omega)
     clear c8
     obtain ⟨y319, hy319⟩ : ∃ y_ : List Int, y_ = (x5_1.set (0 : Int).toNat 0) := ⟨_, rfl⟩
     replace H : (spec_moDistances.l1 k1 l1 y319 y316 0) = some r := by first | (rw [hy319]; with_reducible exact H) | (have H2_ := (Option.bind_some _ _).symm.trans H; rw [hy319]; with_reducible exact H2_) | (have H2_ := (Option.bind_some _ _).symm.trans H; with_reducible exact H2_) | with_reducible exact H | (rw [hy319]; exact H) | exact H
     have Ny319 := Ya hy319
     clear hy319
     have H' := Ya H
     clear H
     go_wp2_with (first | ((with_reducible refine gate_callee (f := 43) rfl ?_); refine Yz 14 Try.func43 #[.int .i64 a0] ?_; (with_reducible refine (spec_raFactorial.calls k1 a0 t309 _ A3.out).mono ?_); rintro e w' ⟨rfl, ⟨nd, rfl⟩⟩; refine ⟨_, rfl, ?_⟩; (try (rw [drewN_self wr]; generalize hq_ : World.drewN wr _ = wr; replace HO_5 : Aside0 (Kd.R (Kd.int .i64) 3 wr w.heap.size (fun _ => True) u5 x5_1) := ⟨by rw [← hq_]; exact (Yr HO_5.out)⟩; replace HB : Aside0 (Below w.heap.size w wr) := ⟨by rw [← hq_]; exact Q12⟩; clear hq_))) | ((with_reducible refine gate_callee (f := 45) rfl ?_); refine Yz 22 Try.func45 #[.int .i64 a0] ?_; (with_reducible refine (spec_raUpTo.calls k1 a0 t313 _ A7.out).mono ?_); rintro e w10 ⟨v314, rfl, ho0, hb⟩; refine ⟨_, rfl, ?_⟩; have HO315 := Yl (Kd.R_new' ho0 (Z16 (Yr HO_5.out))); replace HO_5 := Ya (Kd.R_elder' (Yr HO_5.out) (Kd.R_base ho0) hb); replace HB := Yh hb; (try clear hb ho0); obtain ⟨Ao11, co11, rfl⟩ := Z17 HO315.out) | ((with_reducible refine gate_dst (N := 23) rfl ?_); refine Kd.N_lit (Kd.slice 3 (Kd.int .i64)) _ 24 ?hg (N' := 23) ?hd (xs := ([t313] : List (List Int))) (inner := [.slice Ao11 t313.length co11]) (ok := (fun k_ => some k_ ≠ (u5 : Value).ownBlock)) (okp := (fun k_ => some k_ ≠ (u5 : Value).ownBlock)) ?hr ?hp (fun _ hk => hk) ((show ∀ k_, w10.heap.size ≤ k_ → (fun k_ => some k_ ≠ (u5 : Value).ownBlock) k_ from fun k_ hk => Kd.fresh' (Z16 (Yr HO_5.out)) k_ hk) _ (Nat.le_refl _)) (Below.refl _ _) (Nat.le_refl _) (by simp) ?_; (case hd => rfl); (case hg => rfl); (case hr => first | (go_simp; done) | (go_simp; rfl)); (case hp => exact (Reps.one (show Kd.FK (Kd.slice 3 (Kd.int .i64)) _ _ t313 [.slice Ao11 t313.length co11] from (Kd.FK_slice_mk (Kd.R_reads' (Z12 (ok' := (fun k_ => some k_ ≠ (u5 : Value).ownBlock)) (HO315.out) (fun k_ hk => hk.2))).2.1 (Kd.R_F (Z12 (ok' := (fun k_ => some k_ ≠ (u5 : Value).ownBlock)) (HO315.out) (fun k_ hk => hk.2))))) (Reps.none _ _))); intro v317 w12 ho13 hb hg_ hnew_; clear hg_ hnew_; (first | rw [← Ny316.out] at ho13 | (simp only [Int.reduceToNat] at ho13; rw [← Ny316.out] at ho13)); replace HO_5 := Yw HO_5 hb; have HO318 := Ya (Kd.N_lower ho13 (Z7 Q12)); replace HB := Yh hb; clear HO315; clear hb ho13; have p9 : 0 ≤ (0 : Int) := (by omega); have q9 : (0 : Int) < ((x5_1.length : Int) : Int) := Z29 Q1; have qi9 : (0 < x5_1.length) = True := eq_true (by omega); obtain ⟨go9, co9, eo9, gb9, gl9, cl9, HG9⟩ := Kd.R_form HO_5.out (by omega); (first | cases eo9 | (injection eo9 with ea_ en_ ec_; (first | subst ea_ | (injection ea_ with ea_; subst ea_)); subst ec_; clear en_)); have GB9 := Ya gb9; have GG9 := Ya HG9; clear gb9 gl9 HG9; obtain ⟨hx9_0, hf9_0⟩ := Kd.R_celln 0 HO_5.out (0 : Int) p9 q9; (try rw [show ((0 : Int)).toNat = 0 from rfl] at hx9_0); (try simp only [Nat.reduceMul, Nat.zero_mul, Nat.zero_add, Nat.reduceAdd] at hx9_0); (try rw [show ((0 : Int)).toNat = 0 from rfl] at hf9_0); (try simp only [Nat.reduceMul, Nat.zero_mul, Nat.zero_add, Nat.reduceAdd] at hf9_0); replace p9 := eq_true p9; replace q9 := eq_true q9; have n_ := Ya (Z12 (ok' := (fun _ => True)) HO_5.out (fun k_ hk => trivial)); clear HO_5; have HO_5 := n_; clear n_; obtain ⟨hy14_, hz14_⟩ := Kd.R_celln 0 HO_5.out (0 : Int) (by omega) (Z29 Q1); (try simp only [Int.reduceToNat, Int.toNat_zero, Int.toNat_ofNat, Nat.reduceMul, Nat.zero_mul, Nat.zero_add] at hy14_ hz14_); (try rw [show ((0 : Int)).toNat = 0 from rfl] at hy14_); (try rw [show ((0 : Int)).toNat = 0 from rfl] at hz14_); have HP14 := Kd.R_putg HO_5.out (0 : Int) 0) | ((with_reducible refine gate_store (t := 3) (p := 25) rfl ?_); refine store_event (t := 3) (p := 25) (v := ?vo_w15) (w1 := (w12.setCell ⟨go9, (0 : Int).toNat, none⟩ (.int .i64 0))) ?hg ?ho ?hn ?hr ?_; (case ho => rfl); (case hg => rfl); (case hn => rfl); (case hr => first | (go_simp; done) | (go_simp; rfl)); intro w15 hw; have hg : w12.grownBy w15 (some go9) := (by rw [hw]; exact HP14.2); have hp_ : Kd.R (Kd.int .i64) 3 w15 w.heap.size (fun _ => True) (.slice (some ⟨go9, 0, none⟩) x5_1.length co9) y319 := (by rw [hw, Ny319.out]; exact HP14.1); clear HP14; replace HO_5 := Ya hp_; replace HO318 := Ya (Kd.N_afterv (v := (.slice (some ⟨go9, 0, none⟩) x5_1.length co9)) (v1 := (.slice (some ⟨go9, 0, none⟩) x5_1.length co9)) (ok := (fun _ => True)) (by (with_reducible repeat (first | apply Kd.N_alloc | apply Kd.N_drewN | apply Kd.N_drew)); exact Kd.N_mono HO318.out (fun _ hk => ⟨trivial, hk⟩)) hg (.inl rfl)); replace HB := Ya ((by rw [hw]; exact Z6 (HB.out) GB9.out : Below w.heap.size w w15)); clear hg hw hp_))
     go_loopg [7, 8] k1 (fun kq v7 v8 w' => ∃ (x5_2 : List Int) (x7_2 : List (List Int)) (x8_2 : Int), v8 = .int .i64 x8_2 ∧ Aside0 (spec_moDistances.l1 kq l1 x5_2 x7_2 x8_2 = some r) ∧ Aside0 (kq ≤ k1) ∧ Aside0 (Kd.R (Kd.int .i64) 3 w' w.heap.size (fun _ => True) (.slice (some ⟨go9, 0, none⟩) x5_1.length co9) x5_2) ∧ Aside0 (Kd.N (Kd.slice 3 (Kd.int .i64)) 24 w' w.heap.size (fun k_ => some k_ ≠ ((.slice (some ⟨go9, 0, none⟩) x5_1.length co9) : Value).ownBlock) v7 x7_2) ∧ Aside0 (Below w.heap.size w w'))
     case atStart => exact ⟨(y319), (y316), (0), Q3, H', ⟨Nat.le_refl _⟩, ⟨Q14⟩, ⟨by (with_reducible repeat (first | apply Kd.N_alloc | apply Kd.N_drewN | apply Kd.N_drew)); exact Kd.N_mono HO318.out (fun _ hk => hk.2)⟩, ⟨Q0⟩⟩
     case round =>
      clear H'
      try clear c1
      try clear p2
      try clear c4
      try clear c4b0
      try clear c5
      try clear p6
      try clear c8
      try clear c8b0
      try clear c8b1
      try clear p9
      try clear q9
      try clear hx9
      try clear qi9
      try clear hf9
      try clear hx9_0
      try clear p2
      try clear p9
      try clear q9
      obtain ⟨x5_2, x7_2, x8_2, rfl, HA, HK2, HO_5, HO_7, HB⟩ := hrel
      have hl5_2 := (Kd.R_reads' HO_5.out).1
      rw [hl5_2] at HO_5
      (try simp only [hl5_2])
      (try simp only [hl5_2] at HO_7)
      cases gk with
      | zero => exact absurd HA.out (by simp [spec_moDistances.l1])
      | succ k2 =>
       have H := HA.out
       clear HA
       simp only [spec_moDistances.l1] at H
       by_cases c16 : x8_2 < (x7_2.length : Int)
       ·rw [if_pos c16] at H
        have c16b0 := Z37 c16
        clear c16
        have H' := Ya H
        clear H
        obtain ⟨Ao17, co17, eo17⟩ := Kd.N_slice HO_7.out
        subst eo17
        go_wp2
        go_loopg [7, 34] k2 (fun kq v7 v34 w' => ∃ (x5_3 : List Int) (x7_3 : List (List Int)) (x34_3 : Int), v34 = .int .i64 x34_3 ∧ Aside0 (spec_moDistances.l2 kq l1 x5_3 x7_3 x8_2 l1 (l1.length : Int) x34_3 = some r) ∧ Aside0 (kq ≤ k2) ∧ Aside0 (Kd.R (Kd.int .i64) 3 w' w.heap.size (fun _ => True) (.slice (some ⟨go9, 0, none⟩) x5_2.length co9) x5_3) ∧ Aside0 (Kd.N (Kd.slice 3 (Kd.int .i64)) 24 w' w.heap.size (fun k_ => some k_ ≠ ((.slice (some ⟨go9, 0, none⟩) x5_2.length co9) : Value).ownBlock) v7 x7_3) ∧ Aside0 (Below w.heap.size w w'))
        case atStart => exact ⟨(x5_2), (x7_2), (0), Q3, H', ⟨Nat.le_refl _⟩, ⟨by (try simp only [hl5_2]); (with_reducible repeat (first | apply Z9 | apply Z10 | apply Z11)); exact HO_5.out⟩, ⟨by (try simp only [hl5_2]); (with_reducible repeat (first | apply Kd.N_alloc | apply Kd.N_drewN | apply Kd.N_drew)); exact HO_7.out⟩, ⟨Q0⟩⟩
        case round =>
         clear H'
         try clear c1
         try clear p2
         try clear c4
         try clear c4b0
         try clear c5
         try clear p6
         try clear c8
         try clear c8b0
         try clear c8b1
         try clear p9
         try clear q9
         try clear hx9
         try clear qi9
         try clear hf9
         try clear c16
         try clear c16b0
         try clear hx9_0
         try clear p2
         try clear p6
         try clear p9
         try clear q9
         obtain ⟨x5_3, x7_3, x34_3, rfl, HA, HK3, HO_5, HO_7, HB⟩ := hrel
         have hl5_3 := (Kd.R_reads' HO_5.out).1
         rw [hl5_3] at HO_5
         (try simp only [hl5_3])
         (try simp only [hl5_3] at HO_7)
         cases gk with
         | zero => exact absurd HA.out (by simp [spec_moDistances.l2])
         | succ k3 =>
          have H := HA.out
          clear HA
          simp only [spec_moDistances.l2] at H
          by_cases c18 : x34_3 < (l1.length : Int)
          ·rw [if_pos c18] at H
           have c18b0 := Z37 c18
           clear c18
           by_cases c19 : 0 ≤ x34_3
           ·rw [if_pos c19] at H
            have c19b0 := Z37 c19
            clear c19
            by_cases c20 : x34_3 < (l1.length : Int)
            ·rw [if_pos c20] at H
             have c20b0 := Z37 c20
             clear c20
             by_cases c21 : 0 ≤ x8_2
             ·rw [if_pos c21] at H
              have c21b0 := Z37 c21
              clear c21
              by_cases c22 : x8_2 < (x7_3.length : Int)
              ·rw [if_pos c22] at H
               have c22b0 := Z37 c22
               clear c22
               replace H := Z35.mp H
               obtain ⟨t323, A230, H⟩ := H
               replace H : ((spec_raRank.f k3 t323).bind fun t326 => (if 0 ≤ t326 then (if t326 < (x5_3.length : Int) then (if (rd x5_3 t326) < 0 then ((spec_raRank.f k3 t323).bind fun t328 => ((spec_raRank.f k3 (rd_L2 x7_3 x8_2)).bind fun t330 => (if 0 ≤ t330 then (if t330 < (x5_3.length : Int) then (if 0 ≤ t328 then (if t328 < (x5_3.length : Int) then (if x7_3.length < 5864062014805 then (spec_moDistances.l2 k3 l1 (x5_3.set (t328 : Int).toNat (wrap64 ((rd x5_3 t330) + 1))) (x7_3 ++ [t323]) x8_2 l1 (l1.length : Int) (wrap64 (x34_3 + 1))) else (none)) else (none)) else (none)) else (none)) else (none)))) else (spec_moDistances.l2 k3 l1 x5_3 x7_3 x8_2 l1 (l1.length : Int) (wrap64 (x34_3 + 1)))) else (none)) else (none))) = some r := H
               have A23 := Ya A230
               clear A230
               replace H := Z35.mp H
               obtain ⟨t326, A240, H⟩ := H
               replace H : (if 0 ≤ t326 then (if t326 < (x5_3.length : Int) then (if (rd x5_3 t326) < 0 then ((spec_raRank.f k3 t323).bind fun t328 => ((spec_raRank.f k3 (rd_L2 x7_3 x8_2)).bind fun t330 => (if 0 ≤ t330 then (if t330 < (x5_3.length : Int) then (if 0 ≤ t328 then (if t328 < (x5_3.length : Int) then (if x7_3.length < 5864062014805 then (spec_moDistances.l2 k3 l1 (x5_3.set (t328 : Int).toNat (wrap64 ((rd x5_3 t330) + 1))) (x7_3 ++ [t323]) x8_2 l1 (l1.length : Int) (wrap64 (x34_3 + 1))) else (none)) else (none)) else (none)) else (none)) else (none)))) else (spec_moDistances.l2 k3 l1 x5_3 x7_3 x8_2 l1 (l1.length : Int) (wrap64 (x34_3 + 1)))) else (none)) else (none)) = some r := H
               have A24 := Ya A240
               clear A240
               by_cases c25 : 0 ≤ t326
               ·rw [if_pos c25] at H
                have c25b0 := Z37 c25
                clear c25
                by_cases c26 : t326 < (x5_3.length : Int)
                ·rw [if_pos c26] at H
                 have c26b0 := Z37 c26
                 clear c26
                 by_cases c27 : (rd x5_3 t326) < 0
                 ·rw [if_pos c27] at H
                  have c27b0 := Z37 c27
                  clear c27
                  replace H := Z35.mp H
                  obtain ⟨t328, A280, H⟩ := H
                  replace H : ((spec_raRank.f k3 (rd_L2 x7_3 x8_2)).bind fun t330 => (if 0 ≤ t330 then (if t330 < (x5_3.length : Int) then (if 0 ≤ t328 then (if t328 < (x5_3.length : Int) then (if x7_3.length < 5864062014805 then (spec_moDistances.l2 k3 l1 (x5_3.set (t328 : Int).toNat (wrap64 ((rd x5_3 t330) + 1))) (x7_3 ++ [t323]) x8_2 l1 (l1.length : Int) (wrap64 (x34_3 + 1))) else (none)) else (none)) else (none)) else (none)) else (none))) = some r := H
                  have A28 := Ya A280
                  clear A280
                  replace H := Z35.mp H
                  obtain ⟨t330, A290, H⟩ := H
                  replace H : (if 0 ≤ t330 then (if t330 < (x5_3.length : Int) then (if 0 ≤ t328 then (if t328 < (x5_3.length : Int) then (if x7_3.length < 5864062014805 then (spec_moDistances.l2 k3 l1 (x5_3.set (t328 : Int).toNat (wrap64 ((rd x5_3 t330) + 1))) (x7_3 ++ [t323]) x8_2 l1 (l1.length : Int) (wrap64 (x34_3 + 1))) else (none)) else (none)) else (none)) else (none)) else (none)) = some r := H
                  have A29 := Ya A290
                  clear A290
                  by_cases c30 : 0 ≤ t330
                  ·rw [if_pos c30] at H
                   have c30b0 := Z37 c30
                   clear c30
                   by_cases c31 : t330 < (x5_3.length : Int)
                   ·rw [if_pos c31] at H
                    have c31b0 := Z37 c31
                    clear c31
                    by_cases c32 : 0 ≤ t328
                    ·rw [if_pos c32] at H
                     have c32b0 := Z37 c32
                     clear c32
                     by_cases c33 : t328 < (x5_3.length : Int)
                     ·rw [if_pos c33] at H
                      have c33b0 := Z37 c33
                      clear c33
                      obtain ⟨y332, hy332⟩ : ∃ y_ : List Int, y_ = (x5_3.set (t328 : Int).toNat (wrap64 ((rd x5_3 t330) + 1))) := ⟨_, rfl⟩
                      replace H : (if x7_3.length < 5864062014805 then (spec_moDistances.l2 k3 l1 y332 (x7_3 ++ [t323]) x8_2 l1 (l1.length : Int) (wrap64 (x34_3 + 1))) else (none)) = some r := by first | (rw [hy332]; with_reducible exact H) | (have H2_ := (Option.bind_some _ _).symm.trans H; rw [hy332]; with_reducible exact H2_) | (have H2_ := (Option.bind_some _ _).symm.trans H; with_reducible exact H2_) | with_reducible exact H | (rw [hy332]; exact H) | exact H
                      have Ny332 := Ya hy332
                      clear hy332
                      by_cases c35 : x7_3.length < 5864062014805
                      ·rw [if_pos c35] at H
                       have LMc35 := Ya c35
                       clear c35
                       obtain ⟨y333, hy333⟩ : ∃ y_ : List (List Int), y_ = (x7_3 ++ [t323]) := ⟨_, rfl⟩
                       replace H : (spec_moDistances.l2 k3 l1 y332 y333 x8_2 l1 (l1.length : Int) (wrap64 (x34_3 + 1))) = some r := by first | (rw [hy333]; with_reducible exact H) | (have H2_ := (Option.bind_some _ _).symm.trans H; rw [hy333]; with_reducible exact H2_) | (have H2_ := (Option.bind_some _ _).symm.trans H; with_reducible exact H2_) | with_reducible exact H | (rw [hy333]; exact H) | exact H
                       have Ny333 := Ya hy333
                       clear hy333
                       have H' := Ya H
                       clear H
                       have p320 : 0 ≤ (x34_3 : Int) := Z29 Q1
                       have q320 : x34_3 < (l1.length : Int) := Z29 Q1
                       obtain ⟨ad320, e320, hx320_0, hx320_1, hx320_2⟩ := at_T45 HR1.out x34_3 p320 q320
                       cases e320
                       try replace hx320_0 := (HB.out.cell (World.block_lt_of_cell? w _ hx320_0)).trans hx320_0
                       try replace hx320_1 := (HB.out.cell (World.block_lt_of_cell? w _ hx320_1)).trans hx320_1
                       try replace hx320_2 := (HB.out.cell (World.block_lt_of_cell? w _ hx320_2)).trans hx320_2
                       replace p320 := eq_true p320
                       replace q320 := eq_true q320
                       try go_wp2_with (first | ((with_reducible refine gate_dst (N := 10) rfl ?_); refine Yx 10 #[.int .i64 0, .int .i64 0, .int .i64 0] 45 ?_; intro gb321 hg w36 hbox hb; replace HO_5 := Yw HO_5 hb; replace HO_7 := Ya (Kd.N_below (Kd.N_elderB (Qm0 HO_7.out) gb321 (Nat.le_of_eq hg.symm)) hb); have BK321 := Ya hbox; have GE321 := Yg hg; replace HB := Yh hb; clear hb hbox hg; have hcz37_0 : w36.cell? ⟨gb321, 0, none⟩ = some (.int .i64 0) := (Z22 BK321.out 0).trans rfl; have hcz37_1 : w36.cell? ⟨gb321, 1, none⟩ = some (.int .i64 0) := (Z22 BK321.out 1).trans rfl; have hcz37_2 : w36.cell? ⟨gb321, 2, none⟩ = some (.int .i64 0) := (Z22 BK321.out 2).trans rfl; have hfz37_0 := Z23 BK321.out 0; have hfz37_1 := Z23 BK321.out 1; have hfz37_2 := Z23 BK321.out 2))
                       replace HO_5 : Aside0 (Kd.R (Kd.int .i64) 3 (((w36.setCell ⟨gb321, 0, none⟩ (.int .i64 ((rd_T45 l1 x34_3).f0))).setCell ⟨gb321, 1, none⟩ (.int .i64 ((rd_T45 l1 x34_3).f1))).setCell ⟨gb321, 2, none⟩ (.int .i64 ((rd_T45 l1 x34_3).f2))) w.heap.size (fun _ => True) (.slice (some ⟨go9, 0, none⟩) x5_3.length co9) x5_3) := ⟨Yj (Z13 (p := ⟨gb321, 2, none⟩) (Z13 (p := ⟨gb321, 1, none⟩) (Z13 (p := ⟨gb321, 0, none⟩) (Z15 HO_5.out BK321.out (by decide)) (fun _ hk => hk.2) (.int .i64 ((rd_T45 l1 x34_3).f0))) (fun _ hk => hk.2) (.int .i64 ((rd_T45 l1 x34_3).f1))) (fun _ hk => hk.2) (.int .i64 ((rd_T45 l1 x34_3).f2))) (fun _ hk => trivial)⟩
                       replace HO_7 : Aside0 (Kd.N (Kd.slice 3 (Kd.int .i64)) 24 (((w36.setCell ⟨gb321, 0, none⟩ (.int .i64 ((rd_T45 l1 x34_3).f0))).setCell ⟨gb321, 1, none⟩ (.int .i64 ((rd_T45 l1 x34_3).f1))).setCell ⟨gb321, 2, none⟩ (.int .i64 ((rd_T45 l1 x34_3).f2))) w.heap.size (fun k_ => some k_ ≠ (.slice (some ⟨go9, 0, none⟩) x5_3.length co9 : Value).ownBlock ∧ k_ ≠ gb321) u7 x7_3) := ⟨Q32⟩
                       replace BK321 : Aside0 ((((w36.setCell ⟨gb321, 0, none⟩ (.int .i64 ((rd_T45 l1 x34_3).f0))).setCell ⟨gb321, 1, none⟩ (.int .i64 ((rd_T45 l1 x34_3).f1))).setCell ⟨gb321, 2, none⟩ (.int .i64 ((rd_T45 l1 x34_3).f2))).heap[gb321]? = some (.cells #[.int .i64 ((rd_T45 l1 x34_3).f0), .int .i64 ((rd_T45 l1 x34_3).f1), .int .i64 ((rd_T45 l1 x34_3).f2)] 45 (0, 0))) := ⟨Q26⟩
                       replace HB : Aside0 (Below w.heap.size w (((w36.setCell ⟨gb321, 0, none⟩ (.int .i64 ((rd_T45 l1 x34_3).f0))).setCell ⟨gb321, 1, none⟩ (.int .i64 ((rd_T45 l1 x34_3).f1))).setCell ⟨gb321, 2, none⟩ (.int .i64 ((rd_T45 l1 x34_3).f2)))) := ⟨Q0⟩
                       generalize (((w36.setCell ⟨gb321, 0, none⟩ (.int .i64 ((rd_T45 l1 x34_3).f0))).setCell ⟨gb321, 1, none⟩ (.int .i64 ((rd_T45 l1 x34_3).f1))).setCell ⟨gb321, 2, none⟩ (.int .i64 ((rd_T45 l1 x34_3).f2))) = w38 at HO_5 HO_7 BK321 HB ⊢
                       replace HO_5 := Ya (Z11 HO_5.out)
                       replace HO_7 := Ya (Kd.N_drew HO_7.out)
                       replace BK321 := Ya (Z25 BK321.out)
                       replace HB := Ya (Z4 HB.out)
                       obtain ⟨Ao40, co40, eo40⟩ := Kd.N_slice HO_7.out
                       (first | subst eo40 | (injection eo40 with f1_ f2_ f3_; have f4_ := f1_.symm; have f5_ := f3_.symm; clear f1_ f2_ f3_; subst f4_; subst f5_))
                       have p322 : 0 ≤ (x8_2 : Int) := Z29 Q1
                       have q322 : x8_2 < (x7_3.length : Int) := Z29 Q1
                       obtain ⟨ad322, A322_0, c322_0, e322, hx322_0, hl322_0, hi322_0⟩ := at_L2 (Kd.N_reads' HO_7.out).2.2 x8_2 p322 q322
                       cases e322
                       obtain ⟨ce322, hce322, hMe322, hcc322⟩ := Kd.N_get HO_7.out [] x8_2 p322 (by first | exact q322 | exact Z29 Q1 | (have e_ := (Kd.N_reads' HO_7.out).1; omega))
                       obtain ⟨ua322_0, uc322_0, rfl, ul322_0, ge322_0⟩ := Kd.FK_slice_open hMe322
                       have hv322_0 := hcc322 0 _ rfl
                       rw [Nat.add_zero, show ((Kd.slice 3 (Kd.int .i64))).sz = 1 from rfl, Nat.mul_one] at hv322_0
                       replace hv322_0 := Option.some.inj (hv322_0.symm.trans hx322_0)
                       injection hv322_0 with hva_ hvn_ hvc_
                       rw [hva_] at ge322_0
                       rw [hvc_] at ul322_0
                       have HL322_0 := Ya (show Kd.V (Kd.int .i64) 3 _ w.heap.size _ _ (rd_L2 x7_3 x8_2) from Kd.V_mk ul322_0 ge322_0)
                       clear hva_ hvn_ hvc_ ge322_0 ul322_0
                       clear hcc322 hce322
                       have HR322_0 := Ya hi322_0
                       have HC322_0 := Ya hl322_0
                       clear hi322_0 hl322_0
                       replace p322 := eq_true p322
                       replace q322 := eq_true q322
                       refine start_ (n := 7) (S := fun w' => w'.cell? ⟨gb321, 0, none⟩ = some (.int .i64 ((rd_T45 l1 x34_3).f0)) ∧ w'.cell? ⟨gb321, 1, none⟩ = some (.int .i64 ((rd_T45 l1 x34_3).f1)) ∧ w'.cell? ⟨gb321, 2, none⟩ = some (.int .i64 ((rd_T45 l1 x34_3).f2)) ∧ w'.cell? (ad322.add (x8_2).toNat) = some (.slice A322_0 (rd_L2 x7_3 x8_2).length c322_0)) (ds := []) (YA 7 0) (by kernel_rfl) rfl rfl ⟨(Z22 BK321.out 0).trans rfl, (Z22 BK321.out 1).trans rfl, (Z22 BK321.out 2).trans rfl, hx322_0⟩ (fun hHeld => ?_)
                       generalize w38.drew = w39 at HO_5 HO_7 BK321 HB HL322_0 HR322_0 hx322_0 hHeld ⊢
                       refine Yq 0 (some 38) (YA 7 1) rfl ?_
                       refine Yq 1 (some 39) (YA 7 3) rfl ?_
                       refine Yq 2 (some 40) (YA 7 7) rfl ?_
                       refine Ys 3 (some 41) (YA 7 15) rfl hHeld Q9 ?_
                       refine Ys 4 (some 42) (YA 7 31) rfl hHeld Q9 ?_
                       refine one_ (i := 5) (N := some 43) (YA 7 63) rfl rfl (by kernel_rfl) (by decide) (fun K hK => ?_)
                       refine goes_ Try.func72 (by kernel_rfl) rfl #[.slice A322_0 (rd_L2 x7_3 x8_2).length c322_0, .agg #[.int .i64 ((rd_T45 l1 x34_3).f0), .int .i64 ((rd_T45 l1 x34_3).f1), .int .i64 ((rd_T45 l1 x34_3).f2)]] (by rfl) rfl rfl Q29 ?_
                       with_reducible refine (spec_moApply.calls k3 _ _ (rd_L2 x7_3 x8_2) ((rd_T45 l1 x34_3).f0) ((rd_T45 l1 x34_3).f1) ((rd_T45 l1 x34_3).f2) t323 _ ?side1 ?side2 A23.out).mono ?_
                       (case side1 => exact Yc Q47)
                       (case side2 => exact HC322_0.out)
                       rintro e w41 ⟨v324, rfl, ho0, hb⟩
                       have HS3_ := (hb.cell (World.block_lt_of_cell? _ _ (hHeld.2.2.2))).trans (hHeld.2.2.2)
                       refine ⟨_, rfl, ?_⟩
                       replace HO_7 := Ya (Kd.N_elder' (Qm0 HO_7.out) (Kd.R_base ho0) hb)
                       replace HL322_0 := Ya (Kd.V_elder' (Qm1 HL322_0.out) (Kd.R_base ho0) hb)
                       have HO325 := Yl (Kd.R_new' ho0 (Z16 (Yr HO_5.out)))
                       replace HO_5 := Ya (Kd.R_elder' (Yr HO_5.out) (Kd.R_base ho0) hb)
                       replace BK321 := Yb BK321 hb
                       replace HR322_0 := Ya (Z21 Q10 hb)
                       replace HB := Yh hb
                       (try clear hb ho0)
                       refine hK.out _ _ ⟨(Z22 BK321.out 0).trans rfl, (Z22 BK321.out 1).trans rfl, (Z22 BK321.out 2).trans rfl, HS3_⟩ (fun hHeld => ?_)
                       clear hK K
                       refine norm_ (a' := ?_) ?_ ?_
                       rotate_left
                       ·show Act.put _ (some 43) _ = _
                        simp only [Act.put, Z0, Z1, Z2, i64_w, i32_w]
                        rfl
                       refine Yq 6 (some 11) (YA 7 127) rfl ?_
                       refine done_ (by kernel_rfl) ?_
                       obtain ⟨Ao42, co42, rfl⟩ := Z17 HO325.out
                       try go_wp2_with (first | ((with_reducible refine gate_callee (f := 86) rfl ?_); refine Yz 46 Try.func86 #[.slice Ao42 t323.length co42] ?_; (with_reducible refine (spec_raRank.calls k3 _ _ t323 t326 _ (Yc (Kd.R_reads' HO325.out).2.2) ((Kd.R_reads' HO325.out).2.1) A24.out).mono ?_); rintro e w43 ⟨rfl, hb⟩; refine ⟨_, rfl, ?_⟩; replace HO_5 := Yw HO_5 hb; replace HO_7 := Ya (Kd.N_below (Qm0 HO_7.out) hb); replace HL322_0 := Ya (Kd.V_below (Qm1 HL322_0.out) hb); replace HO325 := Yw HO325 hb; replace BK321 := Yb BK321 hb; replace HR322_0 := Ya (Z21 Q10 hb); replace HB := Yh hb; (try clear hb); have p327 : 0 ≤ (t326 : Int) := Z29 Q1; have q327 : t326 < (x5_3.length : Int) := Z29 Q1; obtain ⟨ad327, e327, hx327_0⟩ := Kd.at_int (Kd.R_reads' HO_5.out).2.2 t326 p327 q327; obtain rfl : (⟨go9, 0, none⟩ : Addr) = ad327 := (by injection e327); (first | simp only [add_plain] at hx327_0 | simp only [add_at] at hx327_0 | simp only [Addr.add, Nat.zero_add] at hx327_0 | skip); replace p327 := eq_true p327; replace q327 := eq_true q327))
                       replace HO_5 := Ya (Z11 HO_5.out)
                       replace HO_7 := Ya (Kd.N_drew HO_7.out)
                       replace HL322_0 := Ya (Kd.V_drew HL322_0.out)
                       replace HO325 := Ya (Z11 HO325.out)
                       replace BK321 := Ya (Z25 BK321.out)
                       replace HR322_0 := Ya (Z20 HR322_0.out)
                       replace HB := Ya (Z4 HB.out)
                       have p329 : 0 ≤ (x8_2 : Int) := Z29 Q1
                       have q329 : x8_2 < (x7_3.length : Int) := Z29 Q1
                       obtain ⟨ad329, A329_0, c329_0, e329, hx329_0, hl329_0, hi329_0⟩ := at_L2 (Kd.N_reads' HO_7.out).2.2 x8_2 p329 q329
                       obtain rfl : ad322 = ad329 := (by injection e329)
                       obtain ⟨ce329, hce329, hMe329, hcc329⟩ := Kd.N_get HO_7.out [] x8_2 p329 (by first | exact q329 | exact Z29 Q1 | (have e_ := (Kd.N_reads' HO_7.out).1; omega))
                       obtain ⟨ua329_0, uc329_0, rfl, ul329_0, ge329_0⟩ := Kd.FK_slice_open hMe329
                       have hv329_0 := hcc329 0 _ rfl
                       rw [Nat.add_zero, show ((Kd.slice 3 (Kd.int .i64))).sz = 1 from rfl, Nat.mul_one] at hv329_0
                       replace hv329_0 := Option.some.inj (hv329_0.symm.trans hx329_0)
                       injection hv329_0 with hva_ hvn_ hvc_
                       rw [hva_] at ge329_0
                       rw [hvc_] at ul329_0
                       have HL329_0 := Ya (show Kd.V (Kd.int .i64) 3 _ w.heap.size _ _ (rd_L2 x7_3 x8_2) from Kd.V_mk ul329_0 ge329_0)
                       clear hva_ hvn_ hvc_ ge329_0 ul329_0
                       clear hcc329 hce329
                       have HR329_0 := Ya hi329_0
                       have HC329_0 := Ya hl329_0
                       clear hi329_0 hl329_0
                       replace p329 := eq_true p329
                       replace q329 := eq_true q329
                       have p331 : 0 ≤ (t330 : Int) := Z29 Q1
                       have q331 : t330 < (x5_3.length : Int) := Z29 Q1
                       obtain ⟨ad331, e331, hx331_0⟩ := Kd.at_int (Kd.R_reads' HO_5.out).2.2 t330 p331 q331
                       obtain rfl : (⟨go9, 0, none⟩ : Addr) = ad331 := (by injection e331)
                       (first | simp only [add_plain] at hx331_0 | simp only [add_at] at hx331_0 | simp only [Addr.add, Nat.zero_add] at hx331_0 | skip)
                       replace p331 := eq_true p331
                       replace q331 := eq_true q331
                       refine start_ (n := 14) (S := fun w' => w'.cell? (ad322.add (x8_2).toNat) = some (.slice A329_0 (rd_L2 x7_3 x8_2).length c329_0) ∧ w'.cell? ⟨go9, (t330).toNat, none⟩ = some (.int .i64 (rd x5_3 t330))) (ds := [13]) (YA 14 0) (by kernel_rfl) rfl rfl ⟨hx329_0, hx331_0⟩ (fun hHeld => ?_); refine with_tabW spec_moDistances.tab16 spec_moDistances.bits16 (fun HT_ HW_ => ?_)
                       generalize w43.drew = w44 at HO_5 HO_7 HL322_0 HO325 BK321 HR322_0 HB HL329_0 HR329_0 hx329_0 hx331_0 hHeld ⊢
                       refine Yp 0 (some 50) (YA 14 1) rfl HT_.out ?_
                       refine Yp 1 (some 51) (YA 14 3) rfl HT_.out ?_
                       refine Yp 3 (some 53) (YA 14 11) rfl HT_.out ?_
                       refine Yp 4 (some 54) (YA 14 27) rfl HT_.out ?_
                       refine Yp 5 (some 55) (YA 14 59) rfl HT_.out ?_
                       refine Yp 6 (some 56) (YA 14 123) rfl HT_.out ?_
                       refine Yt 7 (some 57) (YA 14 251) rfl HT_.out HW_.out hHeld Q28 ?_
                       refine one_ (i := 2) (N := some 52) (YA 14 255) rfl rfl (one_of HT_.out (by kernel_rfl)) (by decide) (fun K hK => ?_)
                       refine goes_ Try.func86 (by kernel_rfl) rfl #[.slice Ao42 t323.length co42] (by rfl) rfl rfl Q29 ?_
                       with_reducible refine (spec_raRank.calls k3 _ _ t323 t328 _ ?side1 ?side2 A28.out).mono ?_
                       (case side1 => exact Yc (Kd.R_reads' HO325.out).2.2)
                       (case side2 => exact (Kd.R_reads' HO325.out).2.1)
                       rintro e w45 ⟨rfl, hb⟩
                       have HS0_ := (hb.cell (World.block_lt_of_cell? _ _ (hHeld.1))).trans (hHeld.1)
                       have HS1_ := (hb.cell (World.block_lt_of_cell? _ _ (hHeld.2))).trans (hHeld.2)
                       refine ⟨_, rfl, ?_⟩
                       replace HO_5 := Yw HO_5 hb
                       replace HO_7 := Ya (Kd.N_below (Qm0 HO_7.out) hb)
                       replace HL322_0 := Ya (Kd.V_below (Qm1 HL322_0.out) hb)
                       replace HO325 := Yw HO325 hb
                       replace HL329_0 := Ya (Kd.V_below (Qm1 HL329_0.out) hb)
                       replace BK321 := Yb BK321 hb
                       replace HR322_0 := Ya (Z21 Q10 hb)
                       replace HR329_0 := Ya (Z21 Q35 hb)
                       replace HB := Yh hb
                       (try clear hb)
                       refine hK.out _ _ ⟨HS0_, HS1_⟩ (fun hHeld => ?_)
                       clear hK K
                       refine norm_ (a' := ?_) ?_ ?_
                       rotate_left
                       ·show Act.put _ (some 52) _ = _
                        simp only [Act.put, Z0, Z1, Z2, i64_w, i32_w]
                        rfl
                       refine one_ (i := 8) (N := some 58) (YA 14 511) rfl rfl (one_of HT_.out (by kernel_rfl)) (by decide) (fun K hK => ?_)
                       refine goes_ Try.func86 (by kernel_rfl) rfl #[.slice A329_0 (rd_L2 x7_3 x8_2).length c329_0] (by rfl) rfl rfl Q29 ?_
                       with_reducible refine (spec_raRank.calls k3 _ _ (rd_L2 x7_3 x8_2) t330 _ ?side1 ?side2 A29.out).mono ?_
                       (case side1 => exact Yc (by repeat (first | (with_reducible exact HR329_0.out) | (with_reducible refine Z18 ?_ _) | (with_reducible refine Z19 ?_ _) | (with_reducible refine Z20 ?_) | exact HR329_0.out)))
                       (case side2 => exact HC329_0.out)
                       rintro e w46 ⟨rfl, hb⟩
                       have HS0_ := (hb.cell (World.block_lt_of_cell? _ _ (hHeld.1))).trans (hHeld.1)
                       have HS1_ := (hb.cell (World.block_lt_of_cell? _ _ (hHeld.2))).trans (hHeld.2)
                       refine ⟨_, rfl, ?_⟩
                       replace HO_5 := Yw HO_5 hb
                       replace HO_7 := Ya (Kd.N_below (Qm0 HO_7.out) hb)
                       replace HL322_0 := Ya (Kd.V_below (Qm1 HL322_0.out) hb)
                       replace HO325 := Yw HO325 hb
                       replace HL329_0 := Ya (Kd.V_below (Qm1 HL329_0.out) hb)
                       replace BK321 := Yb BK321 hb
                       replace HR322_0 := Ya (Z21 Q10 hb)
                       replace HR329_0 := Ya (Z21 Q35 hb)
                       replace HB := Yh hb
                       (try clear hb)
                       have p34 : 0 ≤ (t328 : Int) := Z29 Q1
                       have q34 : (t328 : Int) < ((x5_3.length : Int) : Int) := Z29 Q1
                       obtain ⟨hx34_0, hf34_0⟩ := Kd.R_celln 0 HO_5.out (t328 : Int) p34 q34
                       replace p34 := eq_true p34
                       replace q34 := eq_true q34
                       have HP47 := Kd.R_putn HO_5.out (t328 : Int) (wrap64 ((rd x5_3 t330) + 1))
                       rw [← Ny332.out] at HP47
                       have HQ47 := Ya HP47
                       clear HP47
                       refine hK.out _ _ ⟨HS0_, HS1_⟩ (fun hHeld => ?_)
                       clear hK K
                       refine norm_ (a' := ?_) ?_ ?_
                       rotate_left
                       ·show Act.put _ (some 58) _ = _
                        simp only [Act.put, Z0, Z1, Z2, i64_w, i32_w]
                        rfl
                       refine Yp 9 (some 59) (YA 14 1023) rfl HT_.out ?_
                       refine Yt 10 (some 60) (YA 14 2047) rfl HT_.out HW_.out hHeld Q28 ?_
                       refine Yp 11 (some 61) (YA 14 4095) rfl HT_.out ?_
                       refine Yp 12 (some 62) (YA 14 8191) rfl HT_.out ?_
                       refine last_ (i := 13) (N := none) (YA 14 16383) rfl rfl (one_of HT_.out (by kernel_rfl)) (by decide) (fun K hK => ?_)
                       refine skip_ (w1 := ?_) (by rfl) rfl ?_ ?_
                       rotate_left
                       ·go_simp
                        rfl
                       refine hK.out _ _ ?_
                       clear hK K
                       refine done_ (done_of HT_.out (by kernel_rfl)) ?_
                       replace HO_7 : Aside0 (Kd.N (Kd.slice 3 (Kd.int .i64)) 24 (w46.setCell ⟨go9, (t328 : Int).toNat, none⟩ (.int .i64 (wrap64 ((rd x5_3 t330) + 1)))) w.heap.size (fun k_ => some k_ ≠ (.slice (some ⟨go9, 0, none⟩) x5_3.length co9 : Value).ownBlock ∧ some k_ ≠ (.slice Ao42 t323.length co42 : Value).ownBlock ∧ k_ ≠ gb321) (.slice (some ad322) x7_3.length co40) x7_3) := ⟨by (with_reducible repeat (first | apply Kd.N_alloc | apply Kd.N_drewN | apply Kd.N_drew)); exact Kd.N_mono (Kd.N_far (p := ⟨go9, (t328 : Int).toNat, none⟩) (Kd.N_mono HO_7.out (fun k_ hk => (⟨hk, fun e_ => hk.1.1 (by rw [e_]; rfl)⟩ : _ ∧ k_ ≠ go9))) (fun _ hk => hk.2) (.int .i64 (wrap64 ((rd x5_3 t330) + 1)))) (fun _ hk => ⟨hk.1.1.1, ⟨hk.1.2, hk.1.1.2⟩⟩)⟩
                       replace HL322_0 : Aside0 (Kd.V (Kd.int .i64) 3 (w46.setCell ⟨go9, (t328 : Int).toNat, none⟩ (.int .i64 (wrap64 ((rd x5_3 t330) + 1)))) w.heap.size (fun k_ => some k_ ≠ (.slice (some ⟨go9, 0, none⟩) x5_3.length co9 : Value).ownBlock ∧ some k_ ≠ (.slice (some ad322) x7_3.length co40 : Value).ownBlock ∧ some k_ ≠ (.slice Ao42 t323.length co42 : Value).ownBlock ∧ k_ ≠ gb321) (.slice A322_0 (rd_L2 x7_3 x8_2).length c322_0) (rd_L2 x7_3 x8_2)) := ⟨by (with_reducible repeat (first | apply Kd.V_alloc | apply Kd.V_drewN | apply Kd.V_drew)); exact Kd.V_mono (Kd.V_far (p := ⟨go9, (t328 : Int).toNat, none⟩) (Kd.V_mono HL322_0.out (fun k_ hk => (⟨hk, fun e_ => hk.1.1.1 (by rw [e_]; rfl)⟩ : _ ∧ k_ ≠ go9))) (fun _ hk => hk.2) (.int .i64 (wrap64 ((rd x5_3 t330) + 1)))) (fun _ hk => ⟨hk.1.1.1.1, ⟨hk.1.1.2, ⟨hk.1.2, hk.1.1.1.2⟩⟩⟩)⟩
                       replace HO325 : Aside0 (Kd.R (Kd.int .i64) 3 (w46.setCell ⟨go9, (t328 : Int).toNat, none⟩ (.int .i64 (wrap64 ((rd x5_3 t330) + 1)))) w.heap.size (fun k_ => some k_ ≠ (.slice (some ⟨go9, 0, none⟩) x5_3.length co9 : Value).ownBlock) (.slice Ao42 t323.length co42) t323) := ⟨Yj (Z13 (p := ⟨go9, (t328 : Int).toNat, none⟩) (Z12 HO325.out (fun k_ hk => (⟨hk, fun e_ => hk.2 (by rw [e_]; rfl)⟩ : _ ∧ k_ ≠ go9))) (fun _ hk => hk.2) (.int .i64 (wrap64 ((rd x5_3 t330) + 1)))) (fun _ hk => hk.1.2)⟩
                       replace HL329_0 : Aside0 (Kd.V (Kd.int .i64) 3 (w46.setCell ⟨go9, (t328 : Int).toNat, none⟩ (.int .i64 (wrap64 ((rd x5_3 t330) + 1)))) w.heap.size (fun k_ => some k_ ≠ (.slice (some ⟨go9, 0, none⟩) x5_3.length co9 : Value).ownBlock ∧ some k_ ≠ (.slice (some ad322) x7_3.length co40 : Value).ownBlock ∧ some k_ ≠ (.slice Ao42 t323.length co42 : Value).ownBlock ∧ k_ ≠ gb321) (.slice A329_0 (rd_L2 x7_3 x8_2).length c329_0) (rd_L2 x7_3 x8_2)) := ⟨by (with_reducible repeat (first | apply Kd.V_alloc | apply Kd.V_drewN | apply Kd.V_drew)); exact Kd.V_mono (Kd.V_far (p := ⟨go9, (t328 : Int).toNat, none⟩) (Kd.V_mono HL329_0.out (fun k_ hk => (⟨hk, fun e_ => hk.1.1.1 (by rw [e_]; rfl)⟩ : _ ∧ k_ ≠ go9))) (fun _ hk => hk.2) (.int .i64 (wrap64 ((rd x5_3 t330) + 1)))) (fun _ hk => ⟨hk.1.1.1.1, ⟨hk.1.2, ⟨hk.1.1.2, hk.1.1.1.2⟩⟩⟩)⟩
                       replace BK321 : Aside0 ((w46.setCell ⟨go9, (t328 : Int).toNat, none⟩ (.int .i64 (wrap64 ((rd x5_3 t330) + 1)))).heap[gb321]? = some (.cells #[.int .i64 ((rd_T45 l1 x34_3).f0), .int .i64 ((rd_T45 l1 x34_3).f1), .int .i64 ((rd_T45 l1 x34_3).f2)] 45 (0, 0))) := ⟨by (with_reducible repeat (first | refine Z24 ?_ _ | refine Z25 ?_ | refine Z26 ?_ _)); refine blk_far ?_ (by have h_ := Kd.R_ne HO_5.out BK321.out (by decide); intro e_; exact h_ (by rw [e_]; rfl)) _; (with_reducible repeat (first | refine Z24 ?_ _ | refine Z25 ?_ | refine Z26 ?_ _)); exact BK321.out⟩
                       replace HO_5 : Aside0 (Kd.R (Kd.int .i64) 3 (w46.setCell ⟨go9, (t328 : Int).toNat, none⟩ (.int .i64 (wrap64 ((rd x5_3 t330) + 1)))) w.heap.size (fun k_ => some k_ ≠ (.slice Ao42 t323.length co42 : Value).ownBlock) (.slice (some ⟨go9, 0, none⟩) x5_3.length co9) y332) := ⟨Yj HQ47.out (fun _ hk => hk.2)⟩
                       replace HB : Aside0 (Below w.heap.size w (w46.setCell ⟨go9, (t328 : Int).toNat, none⟩ (.int .i64 (wrap64 ((rd x5_3 t330) + 1))))) := ⟨Q0⟩
                       generalize (w46.setCell ⟨go9, (t328 : Int).toNat, none⟩ (.int .i64 (wrap64 ((rd x5_3 t330) + 1)))) = w48 at HO_5 HO_7 HL322_0 HO325 HL329_0 BK321 HB ⊢
                       try go_wp2_with (first | ((with_reducible refine gate_builtin (b := .append) (xs := #[.tmp 63, .tmp 65]) rfl ?_); at_builtin; refine Kd.N_append (Kd.slice 3 (Kd.int .i64)) (w0 := w) w.heap.size rfl (.tmp 63) (.tmp 65) 50 24 (.slice none 0 0) 24 rfl Try.underlying50 info24 rfl (by decide) (by omega) (.slice (some ad322) x7_3.length co40) x7_3 t323 [.slice Ao42 t323.length co42] (fun k_ => some k_ ≠ (.slice (some ⟨go9, 0, none⟩) x5_3.length co9 : Value).ownBlock ∧ k_ ≠ gb321) (fun k_ => ((fun k_ => some k_ ≠ (.slice (some ⟨go9, 0, none⟩) x5_3.length co9 : Value).ownBlock ∧ k_ ≠ gb321)) k_ ∧ some k_ ≠ (.slice (some ad322) x7_3.length co40 : Value).ownBlock) rfl rfl ?aP (fun _ hk => hk) ?aF ?aO ?aB ?aS ?aL ?_; (case aP => exact (Kd.FK_slice_mk (Kd.R_reads' (Z12 (ok' := (fun k_ => ((fun k_ => some k_ ≠ (.slice (some ⟨go9, 0, none⟩) x5_3.length co9 : Value).ownBlock ∧ k_ ≠ gb321)) k_ ∧ some k_ ≠ (.slice (some ad322) x7_3.length co40 : Value).ownBlock)) (Z15 (Kd.R_apart' (HO325.out) (Kd.N_typed HO_7.out) (by decide)) BK321.out (by decide)) (fun k_ hk => ⟨⟨hk.1.1, hk.2⟩, hk.1.2⟩))).2.1 (Kd.R_F (Z12 (ok' := (fun k_ => ((fun k_ => some k_ ≠ (.slice (some ⟨go9, 0, none⟩) x5_3.length co9 : Value).ownBlock ∧ k_ ≠ gb321)) k_ ∧ some k_ ≠ (.slice (some ad322) x7_3.length co40 : Value).ownBlock)) (Z15 (Kd.R_apart' (HO325.out) (Kd.N_typed HO_7.out) (by decide)) BK321.out (by decide)) (fun k_ hk => ⟨⟨hk.1.1, hk.2⟩, hk.1.2⟩))))); (case aB => exact Q12); (case aF => exact (fun k_ hk => ⟨Kd.fresh' (Z16 (Yr HO_5.out)) k_ hk, Kd.freshB (g := gb321) (o := .cells #[.int .i64 ((rd_T45 l1 x34_3).f0), .int .i64 ((rd_T45 l1 x34_3).f1), .int .i64 ((rd_T45 l1 x34_3).f2)] 45 (0, 0)) (Yk BK321.out) k_ hk⟩)); (case aO => exact (by (with_reducible repeat (first | apply Kd.N_alloc | apply Kd.N_drewN | apply Kd.N_drew)); exact Kd.N_mono HO_7.out (fun _ hk => ⟨hk.1, hk.2.2⟩))); (case aS => exact (Z7 Q12)); (case aL => have := LMc35.out; omega); intro v334 w49 ho hb hg hat; rw [← Ny333.out] at ho; replace HO_5 := Ya (Kd.R_over' (Yr HO_5.out) (Kd.N_typed (Qm0 HO_7.out)) (by decide) hg); replace BK321 := Ya (blk_grown (g := gb321) (o := .cells #[.int .i64 ((rd_T45 l1 x34_3).f0), .int .i64 ((rd_T45 l1 x34_3).f1), .int .i64 ((rd_T45 l1 x34_3).f2)] 45 (0, 0)) (Yk BK321.out) hg (Kd.N_ne HO_7.out BK321.out (by decide))); replace HL322_0 := Ya (Kd.V_afterv (ok := (fun k_ => some k_ ≠ (.slice (some ⟨go9, 0, none⟩) x5_3.length co9 : Value).ownBlock ∧ some k_ ≠ (.slice Ao42 t323.length co42 : Value).ownBlock ∧ k_ ≠ gb321)) (by (with_reducible repeat (first | apply Kd.V_alloc | apply Kd.V_drewN | apply Kd.V_drew)); exact Kd.V_mono HL322_0.out (fun _ hk => ⟨⟨hk.1, ⟨hk.2.2.1, hk.2.2.2⟩⟩, hk.2.1⟩)) hg hat); replace HL329_0 := Ya (Kd.V_afterv (ok := (fun k_ => some k_ ≠ (.slice (some ⟨go9, 0, none⟩) x5_3.length co9 : Value).ownBlock ∧ some k_ ≠ (.slice Ao42 t323.length co42 : Value).ownBlock ∧ k_ ≠ gb321)) (by (with_reducible repeat (first | apply Kd.V_alloc | apply Kd.V_drewN | apply Kd.V_drew)); exact Kd.V_mono HL329_0.out (fun _ hk => ⟨⟨hk.1, ⟨hk.2.2.1, hk.2.2.2⟩⟩, hk.2.1⟩)) hg hat); replace HB := Ya hb; have HO335 := Ya ho; clear HO_7 HO325; clear ho hb hg hat))
                       (try simp only [← hl5_3])
                       go_roundg k3
                       case measure => have := HK1.out; have := HK2.out; have := HK3.out; omega
                       case rel => exact ⟨(y332), (y333), (wrap64 (x34_3 + 1)), Q3, H', ⟨Q43⟩, ⟨Q50⟩, ⟨by (try simp only [hl5_2]); (try simp only [hl5_3]); (with_reducible repeat (first | apply Kd.N_alloc | apply Kd.N_drewN | apply Kd.N_drew)); exact Kd.N_mono HO335.out (fun _ hk => hk.1)⟩, ⟨Q0⟩⟩
                      ·rw [if_neg c35] at H
                       exact absurd H (by simp)
                     ·rw [if_neg c33] at H
                      exact absurd H (by simp)
                    ·rw [if_neg c32] at H
                     exact absurd H (by simp)
                   ·rw [if_neg c31] at H
                    exact absurd H (by simp)
                  ·rw [if_neg c30] at H
                   exact absurd H (by simp)
                 ·rw [if_neg c27] at H
                  have c27b0 := Z36 c27
                  clear c27
                  have H' := Ya H
                  clear H
                  have p320 : 0 ≤ (x34_3 : Int) := Z29 Q1
                  have q320 : x34_3 < (l1.length : Int) := Z29 Q1
                  obtain ⟨ad320, e320, hx320_0, hx320_1, hx320_2⟩ := at_T45 HR1.out x34_3 p320 q320
                  cases e320
                  try replace hx320_0 := (HB.out.cell (World.block_lt_of_cell? w _ hx320_0)).trans hx320_0
                  try replace hx320_1 := (HB.out.cell (World.block_lt_of_cell? w _ hx320_1)).trans hx320_1
                  try replace hx320_2 := (HB.out.cell (World.block_lt_of_cell? w _ hx320_2)).trans hx320_2
                  replace p320 := eq_true p320
                  replace q320 := eq_true q320
                  try go_wp2_with (first | ((with_reducible refine gate_dst (N := 10) rfl ?_); refine Yx 10 #[.int .i64 0, .int .i64 0, .int .i64 0] 45 ?_; intro gb321 hg w50 hbox hb; replace HO_5 := Yw HO_5 hb; replace HO_7 := Ya (Kd.N_below (Kd.N_elderB (Qm0 HO_7.out) gb321 (Nat.le_of_eq hg.symm)) hb); have BK321 := Ya hbox; have GE321 := Yg hg; replace HB := Yh hb; clear hb hbox hg; have hcz51_0 : w50.cell? ⟨gb321, 0, none⟩ = some (.int .i64 0) := (Z22 BK321.out 0).trans rfl; have hcz51_1 : w50.cell? ⟨gb321, 1, none⟩ = some (.int .i64 0) := (Z22 BK321.out 1).trans rfl; have hcz51_2 : w50.cell? ⟨gb321, 2, none⟩ = some (.int .i64 0) := (Z22 BK321.out 2).trans rfl; have hfz51_0 := Z23 BK321.out 0; have hfz51_1 := Z23 BK321.out 1; have hfz51_2 := Z23 BK321.out 2))
                  replace HO_5 : Aside0 (Kd.R (Kd.int .i64) 3 (((w50.setCell ⟨gb321, 0, none⟩ (.int .i64 ((rd_T45 l1 x34_3).f0))).setCell ⟨gb321, 1, none⟩ (.int .i64 ((rd_T45 l1 x34_3).f1))).setCell ⟨gb321, 2, none⟩ (.int .i64 ((rd_T45 l1 x34_3).f2))) w.heap.size (fun _ => True) (.slice (some ⟨go9, 0, none⟩) x5_3.length co9) x5_3) := ⟨Yj (Z13 (p := ⟨gb321, 2, none⟩) (Z13 (p := ⟨gb321, 1, none⟩) (Z13 (p := ⟨gb321, 0, none⟩) (Z15 HO_5.out BK321.out (by decide)) (fun _ hk => hk.2) (.int .i64 ((rd_T45 l1 x34_3).f0))) (fun _ hk => hk.2) (.int .i64 ((rd_T45 l1 x34_3).f1))) (fun _ hk => hk.2) (.int .i64 ((rd_T45 l1 x34_3).f2))) (fun _ hk => trivial)⟩
                  replace HO_7 : Aside0 (Kd.N (Kd.slice 3 (Kd.int .i64)) 24 (((w50.setCell ⟨gb321, 0, none⟩ (.int .i64 ((rd_T45 l1 x34_3).f0))).setCell ⟨gb321, 1, none⟩ (.int .i64 ((rd_T45 l1 x34_3).f1))).setCell ⟨gb321, 2, none⟩ (.int .i64 ((rd_T45 l1 x34_3).f2))) w.heap.size (fun k_ => some k_ ≠ (.slice (some ⟨go9, 0, none⟩) x5_3.length co9 : Value).ownBlock ∧ k_ ≠ gb321) u7 x7_3) := ⟨Q32⟩
                  replace BK321 : Aside0 ((((w50.setCell ⟨gb321, 0, none⟩ (.int .i64 ((rd_T45 l1 x34_3).f0))).setCell ⟨gb321, 1, none⟩ (.int .i64 ((rd_T45 l1 x34_3).f1))).setCell ⟨gb321, 2, none⟩ (.int .i64 ((rd_T45 l1 x34_3).f2))).heap[gb321]? = some (.cells #[.int .i64 ((rd_T45 l1 x34_3).f0), .int .i64 ((rd_T45 l1 x34_3).f1), .int .i64 ((rd_T45 l1 x34_3).f2)] 45 (0, 0))) := ⟨Q26⟩
                  replace HB : Aside0 (Below w.heap.size w (((w50.setCell ⟨gb321, 0, none⟩ (.int .i64 ((rd_T45 l1 x34_3).f0))).setCell ⟨gb321, 1, none⟩ (.int .i64 ((rd_T45 l1 x34_3).f1))).setCell ⟨gb321, 2, none⟩ (.int .i64 ((rd_T45 l1 x34_3).f2)))) := ⟨Q0⟩
                  generalize (((w50.setCell ⟨gb321, 0, none⟩ (.int .i64 ((rd_T45 l1 x34_3).f0))).setCell ⟨gb321, 1, none⟩ (.int .i64 ((rd_T45 l1 x34_3).f1))).setCell ⟨gb321, 2, none⟩ (.int .i64 ((rd_T45 l1 x34_3).f2))) = w52 at HO_5 HO_7 BK321 HB ⊢
                  replace HO_5 := Ya (Z11 HO_5.out)
                  replace HO_7 := Ya (Kd.N_drew HO_7.out)
                  replace BK321 := Ya (Z25 BK321.out)
                  replace HB := Ya (Z4 HB.out)
                  obtain ⟨Ao54, co54, eo54⟩ := Kd.N_slice HO_7.out
                  (first | subst eo54 | (injection eo54 with f1_ f2_ f3_; have f4_ := f1_.symm; have f5_ := f3_.symm; clear f1_ f2_ f3_; subst f4_; subst f5_))
                  have p322 : 0 ≤ (x8_2 : Int) := Z29 Q1
                  have q322 : x8_2 < (x7_3.length : Int) := Z29 Q1
                  obtain ⟨ad322, A322_0, c322_0, e322, hx322_0, hl322_0, hi322_0⟩ := at_L2 (Kd.N_reads' HO_7.out).2.2 x8_2 p322 q322
                  cases e322
                  obtain ⟨ce322, hce322, hMe322, hcc322⟩ := Kd.N_get HO_7.out [] x8_2 p322 (by first | exact q322 | exact Z29 Q1 | (have e_ := (Kd.N_reads' HO_7.out).1; omega))
                  obtain ⟨ua322_0, uc322_0, rfl, ul322_0, ge322_0⟩ := Kd.FK_slice_open hMe322
                  have hv322_0 := hcc322 0 _ rfl
                  rw [Nat.add_zero, show ((Kd.slice 3 (Kd.int .i64))).sz = 1 from rfl, Nat.mul_one] at hv322_0
                  replace hv322_0 := Option.some.inj (hv322_0.symm.trans hx322_0)
                  injection hv322_0 with hva_ hvn_ hvc_
                  rw [hva_] at ge322_0
                  rw [hvc_] at ul322_0
                  have HL322_0 := Ya (show Kd.V (Kd.int .i64) 3 _ w.heap.size _ _ (rd_L2 x7_3 x8_2) from Kd.V_mk ul322_0 ge322_0)
                  clear hva_ hvn_ hvc_ ge322_0 ul322_0
                  clear hcc322 hce322
                  have HR322_0 := Ya hi322_0
                  have HC322_0 := Ya hl322_0
                  clear hi322_0 hl322_0
                  replace p322 := eq_true p322
                  replace q322 := eq_true q322
                  refine start_ (n := 7) (S := fun w' => w'.cell? ⟨gb321, 0, none⟩ = some (.int .i64 ((rd_T45 l1 x34_3).f0)) ∧ w'.cell? ⟨gb321, 1, none⟩ = some (.int .i64 ((rd_T45 l1 x34_3).f1)) ∧ w'.cell? ⟨gb321, 2, none⟩ = some (.int .i64 ((rd_T45 l1 x34_3).f2)) ∧ w'.cell? (ad322.add (x8_2).toNat) = some (.slice A322_0 (rd_L2 x7_3 x8_2).length c322_0)) (ds := []) (YA 7 0) (by kernel_rfl) rfl rfl ⟨(Z22 BK321.out 0).trans rfl, (Z22 BK321.out 1).trans rfl, (Z22 BK321.out 2).trans rfl, hx322_0⟩ (fun hHeld => ?_)
                  generalize w52.drew = w53 at HO_5 HO_7 BK321 HB HL322_0 HR322_0 hx322_0 hHeld ⊢
                  refine Yq 0 (some 38) (YA 7 1) rfl ?_
                  refine Yq 1 (some 39) (YA 7 3) rfl ?_
                  refine Yq 2 (some 40) (YA 7 7) rfl ?_
                  refine Ys 3 (some 41) (YA 7 15) rfl hHeld Q9 ?_
                  refine Ys 4 (some 42) (YA 7 31) rfl hHeld Q9 ?_
                  refine one_ (i := 5) (N := some 43) (YA 7 63) rfl rfl (by kernel_rfl) (by decide) (fun K hK => ?_)
                  refine goes_ Try.func72 (by kernel_rfl) rfl #[.slice A322_0 (rd_L2 x7_3 x8_2).length c322_0, .agg #[.int .i64 ((rd_T45 l1 x34_3).f0), .int .i64 ((rd_T45 l1 x34_3).f1), .int .i64 ((rd_T45 l1 x34_3).f2)]] (by rfl) rfl rfl Q29 ?_
                  with_reducible refine (spec_moApply.calls k3 _ _ (rd_L2 x7_3 x8_2) ((rd_T45 l1 x34_3).f0) ((rd_T45 l1 x34_3).f1) ((rd_T45 l1 x34_3).f2) t323 _ ?side1 ?side2 A23.out).mono ?_
                  (case side1 => exact Yc Q47)
                  (case side2 => exact HC322_0.out)
                  rintro e w55 ⟨v324, rfl, ho0, hb⟩
                  have HS3_ := (hb.cell (World.block_lt_of_cell? _ _ (hHeld.2.2.2))).trans (hHeld.2.2.2)
                  refine ⟨_, rfl, ?_⟩
                  replace HO_7 := Ya (Kd.N_elder' (Qm0 HO_7.out) (Kd.R_base ho0) hb)
                  replace HL322_0 := Ya (Kd.V_elder' (Qm1 HL322_0.out) (Kd.R_base ho0) hb)
                  have HO325 := Yl (Kd.R_new' ho0 (Z16 (Yr HO_5.out)))
                  replace HO_5 := Ya (Kd.R_elder' (Yr HO_5.out) (Kd.R_base ho0) hb)
                  replace BK321 := Yb BK321 hb
                  replace HR322_0 := Ya (Z21 Q10 hb)
                  replace HB := Yh hb
                  (try clear hb ho0)
                  refine hK.out _ _ ⟨(Z22 BK321.out 0).trans rfl, (Z22 BK321.out 1).trans rfl, (Z22 BK321.out 2).trans rfl, HS3_⟩ (fun hHeld => ?_)
                  clear hK K
                  refine norm_ (a' := ?_) ?_ ?_
                  rotate_left
                  ·show Act.put _ (some 43) _ = _
                   simp only [Act.put, Z0, Z1, Z2, i64_w, i32_w]
                   rfl
                  refine Yq 6 (some 11) (YA 7 127) rfl ?_
                  refine done_ (by kernel_rfl) ?_
                  obtain ⟨Ao56, co56, rfl⟩ := Z17 HO325.out
                  try go_wp2_with (first | ((with_reducible refine gate_callee (f := 86) rfl ?_); refine Yz 46 Try.func86 #[.slice Ao56 t323.length co56] ?_; (with_reducible refine (spec_raRank.calls k3 _ _ t323 t326 _ (Yc (Kd.R_reads' HO325.out).2.2) ((Kd.R_reads' HO325.out).2.1) A24.out).mono ?_); rintro e w57 ⟨rfl, hb⟩; refine ⟨_, rfl, ?_⟩; replace HO_5 := Yw HO_5 hb; replace HO_7 := Ya (Kd.N_below (Qm0 HO_7.out) hb); replace HL322_0 := Ya (Kd.V_below (Qm1 HL322_0.out) hb); replace HO325 := Yw HO325 hb; replace BK321 := Yb BK321 hb; replace HR322_0 := Ya (Z21 Q10 hb); replace HB := Yh hb; (try clear hb); have p327 : 0 ≤ (t326 : Int) := Z29 Q1; have q327 : t326 < (x5_3.length : Int) := Z29 Q1; obtain ⟨ad327, e327, hx327_0⟩ := Kd.at_int (Kd.R_reads' HO_5.out).2.2 t326 p327 q327; obtain rfl : (⟨go9, 0, none⟩ : Addr) = ad327 := (by injection e327); (first | simp only [add_plain] at hx327_0 | simp only [add_at] at hx327_0 | simp only [Addr.add, Nat.zero_add] at hx327_0 | skip); replace p327 := eq_true p327; replace q327 := eq_true q327))
                  (try simp only [← hl5_3])
                  go_roundg k3
                  case measure => have := HK1.out; have := HK2.out; have := HK3.out; omega
                  case rel => exact ⟨(x5_3), (x7_3), (wrap64 (x34_3 + 1)), Q3, H', ⟨Q43⟩, ⟨Q50⟩, ⟨by (try simp only [hl5_2]); (try simp only [hl5_3]); (with_reducible repeat (first | apply Kd.N_alloc | apply Kd.N_drewN | apply Kd.N_drew)); exact Kd.N_mono HO_7.out (fun _ hk => hk.1.1)⟩, ⟨Q0⟩⟩
                ·rw [if_neg c26] at H
                 exact absurd H (by simp)
               ·rw [if_neg c25] at H
                exact absurd H (by simp)
              ·rw [if_neg c22] at H
               exact absurd H (by simp)
             ·rw [if_neg c21] at H
              exact absurd H (by simp)
            ·rw [if_neg c20] at H
             exact absurd H (by simp)
           ·rw [if_neg c19] at H
            exact absurd H (by simp)
          ·rw [if_neg c18] at H
           have c18b0 := Z36 c18
           clear c18
           have H' := Ya H
           clear H
           go_wp2
           (try simp only [← hl5_2, ← hl5_3])
           go_roundg k3
           case measure => have := HK1.out; have := HK2.out; have := HK3.out; omega
           case rel => exact ⟨(x5_3), (x7_3), (wrap64 (x8_2 + 1)), Q3, H', ⟨Q43⟩, ⟨by (try simp only [hl5_2]); (try simp only [hl5_3]); (with_reducible repeat (first | apply Z9 | apply Z10 | apply Z11)); exact HO_5.out⟩, ⟨by (try simp only [hl5_2]); (try simp only [hl5_3]); (with_reducible repeat (first | apply Kd.N_alloc | apply Kd.N_drewN | apply Kd.N_drew)); exact HO_7.out⟩, ⟨Q0⟩⟩
       ·rw [if_neg c16] at H
        have c16b0 := Z36 c16
        clear c16
        obtain rfl := Option.some.inj H
        obtain ⟨Ao58, co58, eo58⟩ := Kd.N_slice HO_7.out
        subst eo58
        go_wp2
        go_ret
        exact ⟨_, Q2, Q14, Q0⟩
    ·rw [if_neg c8] at H
     exact absurd H (by simp)
def spec_DistancesFrom.f (k : Nat) (a0 : Int) (l1 : List (S45)) : Option (List Int × Bool) := (spec_moTask.f k a0 l1).bind fun t336 => (if t336 = true then ((spec_moDistances.f k a0 l1).bind fun t337 => (some (t337, true))) else (some (([] : List Int), false)))
theorem spec_DistancesFrom.mono : ∀ a0 a1 k, LeO (spec_DistancesFrom.f k a0 a1) (spec_DistancesFrom.f (k + 1) a0 a1) := by
 intro a0 a1 k
 unfold spec_DistancesFrom.f
 repeat' first
   | (with_reducible exact spec_moDistances.mono _ _ _)
   | (with_reducible exact spec_moTask.mono _ _ _)
   | (with_reducible exact LeO.refl _)
   | (with_reducible exact LeO.none _)
   | (with_reducible refine LeO.ite ?_ ?_)
   | (with_reducible refine LeO.bind ?_ (fun _ => ?_))
   | exact spec_moDistances.mono _ _ _
   | exact spec_moTask.mono _ _ _
   | exact LeO.none _
   | refine LeO.ite ?_ ?_
   | refine LeO.bind ?_ (fun _ => ?_)
set_option maxHeartbeats 8000000 in
set_option maxRecDepth 100000 in
theorem spec_DistancesFrom.calls (k : Nat) (a0 : Int) (A1 : Option Addr) (c1 : Nat) (l1 : List (S45)) (r1 : List Int) (r2 : Bool) (w : World) (hr1 : Kd.C k45 w A1 l1.length l1) (hc1 : l1.length ≤ c1) (h : spec_DistancesFrom.f k a0 l1 = some (r1, r2)) :
  Calls Try.prog 18 #[.int .i64 a0, .slice A1 l1.length c1] w fun e w' => ∃ v0_ : Value, e = .returned (.tuple #[v0_, .bool r2]) ∧ Kd.R (Kd.int .i64) 3 w' w.heap.size (fun _ => True) v0_ r1 ∧ Below w.heap.size w w' := by
 have HR1 := Ya hr1
 have HC1 := Ya hc1
 clear hr1 hc1
 have HB := Ya (Below.refl w.heap.size w)
 have H : ((spec_moTask.f k a0 l1).bind fun t336 => (if t336 = true then ((spec_moDistances.f k a0 l1).bind fun t337 => (some (t337, true))) else (some (([] : List Int), false)))) = some (r1, r2) := h
 clear h
 replace H := Z35.mp H
 obtain ⟨t336, A30, H⟩ := H
 replace H : (if t336 = true then ((spec_moDistances.f k a0 l1).bind fun t337 => (some (t337, true))) else (some (([] : List Int), false))) = some (r1, r2) := H
 have A3 := Ya A30
 clear A30
 by_cases c4 : t336 = true
 ·subst c4
  have H1 : ((spec_moDistances.f k a0 l1).bind fun t337 => (some (t337, true))) = some (r1, r2) := by rw [if_pos rfl] at H; exact H
  clear H
  have H := H1
  clear H1
  replace H := Z35.mp H
  obtain ⟨t337, A50, H⟩ := H
  replace H : (some (t337, true)) = some (r1, r2) := H
  have A5 := Ya A50
  clear A50
  simp only [Option.some.injEq, Prod.mk.injEq] at H
  obtain ⟨rfl, rfl⟩ := H
  go_enter Try.func18, Try.ntmps18
  go_wp2_with (first | ((with_reducible refine gate_callee (f := 41) rfl ?_); refine Yz 8 Try.func41 #[.int .i64 a0, .slice A1 l1.length c1] ?_; (with_reducible refine (spec_moTask.calls k a0 _ _ l1 true _ (Yc HR1.out) HC1.out A3.out).mono ?_); rintro e w6 ⟨rfl, hb⟩; refine ⟨_, rfl, ?_⟩; replace HB := Yh hb; (try clear hb)) | ((with_reducible refine gate_callee (f := 56) rfl ?_); refine Yz 12 Try.func56 #[.int .i64 a0, .slice A1 l1.length c1] ?_; (with_reducible refine (spec_moDistances.calls k a0 _ _ l1 t337 _ (Yc (Z21 HR1.out HB.out)) HC1.out A5.out).mono ?_); rintro e w7 ⟨v338, rfl, ho0, hb⟩; refine ⟨_, rfl, ?_⟩; have HO339 := Yl ho0; replace HB := Yh hb; (try clear hb ho0)))
  go_ret2
  exact ⟨_, Q2, by (with_reducible repeat (first | apply Z9 | apply Z10 | apply Z11)); exact HO339.out, Q0⟩
 ·replace c4 := Bool.eq_false_iff.mpr c4
  subst c4
  have H1 : (some (([] : List Int), false)) = some (r1, r2) := by rw [if_neg (show ¬ (false = true) by decide)] at H; exact H
  clear H
  have H := H1
  clear H1
  simp only [Option.some.injEq, Prod.mk.injEq] at H
  obtain ⟨rfl, rfl⟩ := H
  go_enter Try.func18, Try.ntmps18
  go_wp2_with (first | ((with_reducible refine gate_callee (f := 41) rfl ?_); refine Yz 8 Try.func41 #[.int .i64 a0, .slice A1 l1.length c1] ?_; (with_reducible refine (spec_moTask.calls k a0 _ _ l1 false _ (Yc HR1.out) HC1.out A3.out).mono ?_); rintro e w8 ⟨rfl, hb⟩; refine ⟨_, rfl, ?_⟩; replace HB := Yh hb; (try clear hb)))
  go_ret2
  exact ⟨_, Q2, Q11, Q0⟩
def impl_ReachCount.l0 : Nat → Int → List Int → Int → Int → Option (Int × Bool)
 | 0, _, _, _, _ => none
 | k + 1, x6, x15, x16, x17 => if x17 < x16 then (if 0 ≤ x17 then (if x17 < (x15.length : Int) then (if (rd x15 x17) ≥ 0 then (impl_ReachCount.l0 k (wrap64 (x6 + 1)) x15 x16 (wrap64 (x17 + 1))) else (impl_ReachCount.l0 k x6 x15 x16 (wrap64 (x17 + 1)))) else (none)) else (none)) else (some (x6, true))
def impl_ReachCount.f (k : Nat) (a0 : Int) (l1 : List (S45)) : Option (Int × Bool) := (impl_areMoves.f k a0 l1).bind fun t340 => (if t340 = true then ((impl_distances.f k a0 l1).bind fun t341 => (impl_ReachCount.l0 k 0 t341 (t341.length : Int) 0)) else (some (0, false)))
theorem impl_ReachCount.mono_l : ∀ k, (∀ y0 y1 y2 y3, LeO (impl_ReachCount.l0 k y0 y1 y2 y3) (impl_ReachCount.l0 (k + 1) y0 y1 y2 y3))
 | 0 => fun _ _ _ _ r h => by simp [impl_ReachCount.l0] at h
 | k + 1 => by
  have ih0 := impl_ReachCount.mono_l k
  ·intro y0 y1 y2 y3
   unfold impl_ReachCount.l0
   repeat' first
   | (with_reducible exact ih0 _ _ _ _)
   | (with_reducible exact impl_areMoves.mono _ _ _)
   | (with_reducible exact impl_distances.mono _ _ _)
   | (with_reducible exact LeO.refl _)
   | (with_reducible exact LeO.none _)
   | (with_reducible refine LeO.ite ?_ ?_)
   | (with_reducible refine LeO.bind ?_ (fun _ => ?_))
   | exact ih0 _ _ _ _
   | exact impl_areMoves.mono _ _ _
   | exact impl_distances.mono _ _ _
   | exact LeO.none _
   | refine LeO.ite ?_ ?_
   | refine LeO.bind ?_ (fun _ => ?_)
theorem impl_ReachCount.mono : ∀ a0 a1 k, LeO (impl_ReachCount.f k a0 a1) (impl_ReachCount.f (k + 1) a0 a1) := by
 intro a0 a1 k
 have ih0 := impl_ReachCount.mono_l k
 unfold impl_ReachCount.f
 repeat' first
   | (with_reducible exact ih0 _ _ _ _)
   | (with_reducible exact impl_areMoves.mono _ _ _)
   | (with_reducible exact impl_distances.mono _ _ _)
   | (with_reducible exact LeO.refl _)
   | (with_reducible exact LeO.none _)
   | (with_reducible refine LeO.ite ?_ ?_)
   | (with_reducible refine LeO.bind ?_ (fun _ => ?_))
   | exact ih0 _ _ _ _
   | exact impl_areMoves.mono _ _ _
   | exact impl_distances.mono _ _ _
   | exact LeO.none _
   | refine LeO.ite ?_ ?_
   | refine LeO.bind ?_ (fun _ => ?_)
set_option maxHeartbeats 8000000 in
set_option maxRecDepth 100000 in
theorem impl_ReachCount.calls (k : Nat) (a0 : Int) (A1 : Option Addr) (c1 : Nat) (l1 : List (S45)) (r1 : Int) (r2 : Bool) (w : World) (hr1 : Kd.C k45 w A1 l1.length l1) (hc1 : l1.length ≤ c1) (h : impl_ReachCount.f k a0 l1 = some (r1, r2)) :
  Calls Try.prog 19 #[.int .i64 a0, .slice A1 l1.length c1] w fun e w' => e = .returned (.tuple #[.int .i64 r1, .bool r2]) ∧ Below w.heap.size w w' := by
 have HR1 := Ya hr1
 have HC1 := Ya hc1
 clear hr1 hc1
 have HB := Ya (Below.refl w.heap.size w)
 have H : ((impl_areMoves.f k a0 l1).bind fun t340 => (if t340 = true then ((impl_distances.f k a0 l1).bind fun t341 => (impl_ReachCount.l0 k 0 t341 (t341.length : Int) 0)) else (some (0, false)))) = some (r1, r2) := h
 clear h
 replace H := Z35.mp H
 obtain ⟨t340, A30, H⟩ := H
 replace H : (if t340 = true then ((impl_distances.f k a0 l1).bind fun t341 => (impl_ReachCount.l0 k 0 t341 (t341.length : Int) 0)) else (some (0, false))) = some (r1, r2) := H
 have A3 := Ya A30
 clear A30
 by_cases c4 : t340 = true
 ·subst c4
  have H1 : ((impl_distances.f k a0 l1).bind fun t341 => (impl_ReachCount.l0 k 0 t341 (t341.length : Int) 0)) = some (r1, r2) := by rw [if_pos rfl] at H; exact H
  clear H
  have H := H1
  clear H1
  replace H := Z35.mp H
  obtain ⟨t341, A50, H⟩ := H
  replace H : (impl_ReachCount.l0 k 0 t341 (t341.length : Int) 0) = some (r1, r2) := H
  have A5 := Ya A50
  clear A50
  have H' := Ya H
  clear H
  go_enter Try.func19, Try.ntmps19
  go_wp2_with (first | ((with_reducible refine gate_callee (f := 47) rfl ?_); refine Yz 11 Try.func47 #[.int .i64 a0, .slice A1 l1.length c1] ?_; (with_reducible refine (impl_areMoves.calls k a0 _ _ l1 true _ (Yc HR1.out) HC1.out A3.out).mono ?_); rintro e w6 ⟨rfl, hb⟩; refine ⟨_, rfl, ?_⟩; replace HB := Yh hb; (try clear hb)) | ((with_reducible refine gate_callee (f := 55) rfl ?_); refine Yz 15 Try.func55 #[.int .i64 a0, .slice A1 l1.length c1] ?_; (with_reducible refine (impl_distances.calls k a0 _ _ l1 t341 _ (Yc (Z21 HR1.out HB.out)) HC1.out A5.out).mono ?_); rintro e w7 ⟨v342, rfl, ho0, hb⟩; refine ⟨_, rfl, ?_⟩; have HO343 := Yl ho0; replace HB := Yh hb; (try clear hb ho0); obtain ⟨Ao8, co8, rfl⟩ := Z17 HO343.out))
  go_loopg [6, 17] k (fun kq v6 v17 w' => ∃ (x6_1 : Int) (x17_1 : Int), v6 = .int .i64 x6_1 ∧ v17 = .int .i64 x17_1 ∧ Aside0 (impl_ReachCount.l0 kq x6_1 t341 (t341.length : Int) x17_1 = some (r1, r2)) ∧ Aside0 (kq ≤ k) ∧ Aside0 (Kd.R (Kd.int .i64) 3 w' w.heap.size (fun _ => True) (.slice Ao8 t341.length co8) t341) ∧ Aside0 (Below w.heap.size w w'))
  case atStart => exact ⟨(0), (0), Q3, Q3, H', ⟨Nat.le_refl _⟩, ⟨by (with_reducible repeat (first | apply Z9 | apply Z10 | apply Z11)); exact HO343.out⟩, ⟨Q0⟩⟩
  case round =>
   clear H'
   try clear c1
   try clear p2
   try clear c4
   try clear c5
   obtain ⟨x6_1, x17_1, rfl, rfl, HA, HK1, HO_15, HB⟩ := hrel
   cases gk with
   | zero => exact absurd HA.out (by simp [impl_ReachCount.l0])
   | succ k1 =>
    have H := HA.out
    clear HA
    simp only [impl_ReachCount.l0] at H
    by_cases c9 : x17_1 < (t341.length : Int)
    ·rw [if_pos c9] at H
     have c9b0 := Z37 c9
     clear c9
     by_cases c10 : 0 ≤ x17_1
     ·rw [if_pos c10] at H
      have c10b0 := Z37 c10
      clear c10
      by_cases c11 : x17_1 < (t341.length : Int)
      ·rw [if_pos c11] at H
       have c11b0 := Z37 c11
       clear c11
       by_cases c12 : (rd t341 x17_1) ≥ 0
       ·rw [if_pos c12] at H
        have c12b0 : decide (0 ≤ (rd t341 x17_1)) = true := Z37 c12
        clear c12
        have H' := Ya H
        clear H
        have p344 : 0 ≤ (x17_1 : Int) := Z29 Q1
        have q344 : x17_1 < (t341.length : Int) := Z29 Q1
        obtain ⟨ad344, e344, hx344_0⟩ := Kd.at_int (Kd.R_reads' HO_15.out).2.2 x17_1 p344 q344
        cases e344
        replace p344 := eq_true p344
        replace q344 := eq_true q344
        go_wp2
        go_roundg k1
        case measure => have := HK1.out; omega
        case rel => exact ⟨(wrap64 (x6_1 + 1)), (wrap64 (x17_1 + 1)), Q3, Q3, H', ⟨Q22⟩, ⟨by (with_reducible repeat (first | apply Z9 | apply Z10 | apply Z11)); exact HO_15.out⟩, ⟨Q0⟩⟩
       ·rw [if_neg c12] at H
        have c12b0 : decide (0 ≤ (rd t341 x17_1)) = false := Z36 c12
        clear c12
        have H' := Ya H
        clear H
        have p344 : 0 ≤ (x17_1 : Int) := Z29 Q1
        have q344 : x17_1 < (t341.length : Int) := Z29 Q1
        obtain ⟨ad344, e344, hx344_0⟩ := Kd.at_int (Kd.R_reads' HO_15.out).2.2 x17_1 p344 q344
        cases e344
        replace p344 := eq_true p344
        replace q344 := eq_true q344
        go_wp2
        go_roundg k1
        case measure => have := HK1.out; omega
        case rel => exact ⟨(x6_1), (wrap64 (x17_1 + 1)), Q3, Q3, H', ⟨Q22⟩, ⟨by (with_reducible repeat (first | apply Z9 | apply Z10 | apply Z11)); exact HO_15.out⟩, ⟨Q0⟩⟩
      ·rw [if_neg c11] at H
       exact absurd H (by simp)
     ·rw [if_neg c10] at H
      exact absurd H (by simp)
    ·rw [if_neg c9] at H
     have c9b0 := Z36 c9
     clear c9
     simp only [Option.some.injEq, Prod.mk.injEq] at H
     obtain ⟨rfl, rfl⟩ := H
     go_wp2
     go_ret2
     exact ⟨Q2, Q0⟩
 ·replace c4 := Bool.eq_false_iff.mpr c4
  subst c4
  have H1 : (some (0, false)) = some (r1, r2) := by rw [if_neg (show ¬ (false = true) by decide)] at H; exact H
  clear H
  have H := H1
  clear H1
  simp only [Option.some.injEq, Prod.mk.injEq] at H
  obtain ⟨rfl, rfl⟩ := H
  go_enter Try.func19, Try.ntmps19
  go_wp2_with (first | ((with_reducible refine gate_callee (f := 47) rfl ?_); refine Yz 11 Try.func47 #[.int .i64 a0, .slice A1 l1.length c1] ?_; (with_reducible refine (impl_areMoves.calls k a0 _ _ l1 false _ (Yc HR1.out) HC1.out A3.out).mono ?_); rintro e w13 ⟨rfl, hb⟩; refine ⟨_, rfl, ?_⟩; replace HB := Yh hb; (try clear hb)))
  go_ret2
  exact ⟨Q2, Q0⟩
mutual
def impl_inversions.l0 : Nat → List Int → List Int → List Int → Int → Int → Option (List Int)
 | 0, _, _, _, _, _ => none
 | k + 1, x0, x3, x10, x11, x12 => if x12 < x11 then (if 0 ≤ x12 then (if x12 < (x10.length : Int) then (if x12 ≤ (x0.length : Int) then (impl_inversions.l1 k x0 x3 (rd x10 x12) 0 x10 x11 x12 (x0.take (x12 : Int).toNat) ((x0.take (x12 : Int).toNat).length : Int) 0) else (none)) else (none)) else (none)) else (some x3)
def impl_inversions.l1 : Nat → List Int → List Int → Int → Int → List Int → Int → Int → List Int → Int → Int → Option (List Int)
 | 0, _, _, _, _, _, _, _, _, _, _ => none
 | k + 1, x0, x3, x5, x6, x10, x11, x12, x19, x20, x21 => if x21 < x20 then (if 0 ≤ x21 then (if x21 < (x19.length : Int) then (if (rd x19 x21) > x5 then (impl_inversions.l1 k x0 x3 x5 (wrap64 (x6 + 1)) x10 x11 x12 x19 x20 (wrap64 (x21 + 1))) else (impl_inversions.l1 k x0 x3 x5 x6 x10 x11 x12 x19 x20 (wrap64 (x21 + 1)))) else (none)) else (none)) else (if x3.length < 17592186044416 then (impl_inversions.l0 k x0 (x3 ++ [x6]) x10 x11 (wrap64 (x12 + 1))) else (none))
end
def impl_inversions.f (k : Nat) (l0 : List Int) : Option (List Int) := impl_inversions.l0 k l0 (([] : List Int)) l0 (l0.length : Int) 0
theorem impl_inversions.mono_l : ∀ k, (∀ y0 y1 y2 y3 y4, LeO (impl_inversions.l0 k y0 y1 y2 y3 y4) (impl_inversions.l0 (k + 1) y0 y1 y2 y3 y4)) ∧ (∀ y0 y1 y2 y3 y4 y5 y6 y7 y8 y9, LeO (impl_inversions.l1 k y0 y1 y2 y3 y4 y5 y6 y7 y8 y9) (impl_inversions.l1 (k + 1) y0 y1 y2 y3 y4 y5 y6 y7 y8 y9))
 | 0 => ⟨fun _ _ _ _ _ r h => by simp [impl_inversions.l0] at h, fun _ _ _ _ _ _ _ _ _ _ r h => by simp [impl_inversions.l1] at h⟩
 | k + 1 => by
  obtain ⟨ih0, ih1⟩ := impl_inversions.mono_l k
  refine ⟨?_, ?_⟩
  ·intro y0 y1 y2 y3 y4
   unfold impl_inversions.l0
   repeat' first
   | (with_reducible exact ih0 _ _ _ _ _)
   | (with_reducible exact ih1 _ _ _ _ _ _ _ _ _ _)
   | (with_reducible exact LeO.refl _)
   | (with_reducible exact LeO.none _)
   | (with_reducible refine LeO.ite ?_ ?_)
   | (with_reducible refine LeO.bind ?_ (fun _ => ?_))
   | exact ih0 _ _ _ _ _
   | exact ih1 _ _ _ _ _ _ _ _ _ _
   | exact LeO.none _
   | refine LeO.ite ?_ ?_
   | refine LeO.bind ?_ (fun _ => ?_)
  ·intro y0 y1 y2 y3 y4 y5 y6 y7 y8 y9
   unfold impl_inversions.l1
   repeat' first
   | (with_reducible exact ih0 _ _ _ _ _)
   | (with_reducible exact ih1 _ _ _ _ _ _ _ _ _ _)
   | (with_reducible exact LeO.refl _)
   | (with_reducible exact LeO.none _)
   | (with_reducible refine LeO.ite ?_ ?_)
   | (with_reducible refine LeO.bind ?_ (fun _ => ?_))
   | exact ih0 _ _ _ _ _
   | exact ih1 _ _ _ _ _ _ _ _ _ _
   | exact LeO.none _
   | refine LeO.ite ?_ ?_
   | refine LeO.bind ?_ (fun _ => ?_)
theorem impl_inversions.mono : ∀ a0 k, LeO (impl_inversions.f k a0) (impl_inversions.f (k + 1) a0) := by
 intro a0 k
 obtain ⟨ih0, ih1⟩ := impl_inversions.mono_l k
 unfold impl_inversions.f
 repeat' first
   | (with_reducible exact ih0 _ _ _ _ _)
   | (with_reducible exact ih1 _ _ _ _ _ _ _ _ _ _)
   | (with_reducible exact LeO.refl _)
   | (with_reducible exact LeO.none _)
   | (with_reducible refine LeO.ite ?_ ?_)
   | (with_reducible refine LeO.bind ?_ (fun _ => ?_))
   | exact ih0 _ _ _ _ _
   | exact ih1 _ _ _ _ _ _ _ _ _ _
   | exact LeO.none _
   | refine LeO.ite ?_ ?_
   | refine LeO.bind ?_ (fun _ => ?_)
set_option maxHeartbeats 8000000 in
set_option maxRecDepth 100000 in
theorem impl_inversions.calls (k : Nat) (A0 : Option Addr) (c0 : Nat) (l0 : List Int) (r : List Int) (w : World) (hr0 : Kd.C (Kd.int .i64) w A0 l0.length l0) (hc0 : l0.length ≤ c0) (h : impl_inversions.f k l0 = some r) :
  Calls Try.prog 87 #[.slice A0 l0.length c0] w fun e w' => ∃ v0_ : Value, e = .returned (v0_) ∧ Kd.R (Kd.int .i64) 3 w' w.heap.size (fun _ => True) v0_ r ∧ Below w.heap.size w w' := by
 have HR0 := Ya hr0
 have HC0 := Ya hc0
 clear hr0 hc0
 have HB := Ya (Below.refl w.heap.size w)
 have H : (impl_inversions.l0 k l0 (([] : List Int)) l0 (l0.length : Int) 0) = some r := h
 clear h
 obtain ⟨y345, hy345⟩ : ∃ y_ : List Int, y_ = (([] : List Int)) := ⟨_, rfl⟩
 replace H : (impl_inversions.l0 k l0 y345 l0 (l0.length : Int) 0) = some r := by first | (rw [hy345]; with_reducible exact H) | (have H2_ := (Option.bind_some _ _).symm.trans H; rw [hy345]; with_reducible exact H2_) | (have H2_ := (Option.bind_some _ _).symm.trans H; with_reducible exact H2_) | with_reducible exact H | (rw [hy345]; exact H) | exact H
 have Ny345 := Ya hy345
 clear hy345
 have H' := Ya H
 clear H
 go_enter Try.func87, Try.ntmps87
 go_wp2_with (first | ((with_reducible refine gate_dst (N := 9) rfl ?_); refine Kd.R_lit (Kd.int .i64) _ 3 ?hg (N := 9) ?hd (xs := ([] : List Int)) (inner := []) (ok := fun _ => True) (okp := fun _ => True) ?hr ?hp (fun _ hk => hk) trivial (Below.refl _ _) (Nat.le_refl _) (by simp) ?_; (case hd => rfl); (case hg => rfl); (case hr => first | (go_simp; done) | (go_simp; rfl)); (case hp => exact (Reps.none _ _)); intro v346 w2 ho3 hb hg_ hnew_; clear hg_ hnew_; (first | rw [← Ny345.out] at ho3 | (simp only [Int.reduceToNat] at ho3; rw [← Ny345.out] at ho3)); have HO347 := Yl ho3; replace HB := Yh hb; clear hb ho3))
 go_loopg [3, 12] k (fun kq v3 v12 w' => ∃ (x3_1 : List Int) (x12_1 : Int), v12 = .int .i64 x12_1 ∧ Aside0 (impl_inversions.l0 kq l0 x3_1 l0 (l0.length : Int) x12_1 = some r) ∧ Aside0 (kq ≤ k) ∧ Aside0 (Kd.R (Kd.int .i64) 3 w' w.heap.size (fun _ => True) v3 x3_1) ∧ Aside0 (Below w.heap.size w w'))
 case atStart => exact ⟨(y345), (0), Q3, H', ⟨Nat.le_refl _⟩, ⟨by (with_reducible repeat (first | apply Z9 | apply Z10 | apply Z11)); exact HO347.out⟩, ⟨Q0⟩⟩
 case round =>
  clear H'
  try clear p2
  obtain ⟨x3_1, x12_1, rfl, HA, HK1, HO_3, HB⟩ := hrel
  cases gk with
  | zero => exact absurd HA.out (by simp [impl_inversions.l0])
  | succ k1 =>
   have H := HA.out
   clear HA
   simp only [impl_inversions.l0] at H
   by_cases c4 : x12_1 < (l0.length : Int)
   ·rw [if_pos c4] at H
    have c4b0 := Z37 c4
    clear c4
    by_cases c5 : 0 ≤ x12_1
    ·rw [if_pos c5] at H
     have c5b0 := Z37 c5
     clear c5
     by_cases c6 : x12_1 < (l0.length : Int)
     ·rw [if_pos c6] at H
      have c6b0 := Z37 c6
      clear c6
      have c7b0 := eq_true (Z29 Q1 : 0 ≤ x12_1)
      by_cases c8 : x12_1 ≤ (l0.length : Int)
      ·rw [if_pos c8] at H
       have c8b0 := eq_true c8
       have c8b1 := Z37 c8
       have HLEc8 := Ya c8
       clear c8
       have H' := Ya H
       clear H
       have p348 : 0 ≤ (x12_1 : Int) := Z29 Q1
       have q348 : x12_1 < (l0.length : Int) := Z29 Q1
       obtain ⟨ad348, e348, hx348_0⟩ := Kd.at_int HR0.out x12_1 p348 q348
       cases e348
       try replace hx348_0 := (HB.out.cell (World.block_lt_of_cell? w _ hx348_0)).trans hx348_0
       replace p348 := eq_true p348
       replace q348 := eq_true q348
       obtain ⟨i09, hi09, _, hsz9, _⟩ := info_parts info3
       obtain ⟨hcut9, hA9, hC9⟩ := print_take_of (P := Try.prog) (Value.int .i64) 0 24 3 .i64 Try.underlying24 hi09 hsz9 (some ad348) c0 l0 x12_1 (Z29 Q1) (Z29 Q1) HC0.out
       have HR349 := Ya (Kd.C_of_reads (h1 := fun _ => rfl) (hA9 _ (Kd.reads_of_C HR0.out)))
       have HC349 := Ya hC9
       clear hA9 hC9 hi09 hsz9
       go_wp2
       go_loopg [6, 21] k1 (fun kq v6 v21 w' => ∃ (x6_2 : Int) (x21_2 : Int), v6 = .int .i64 x6_2 ∧ v21 = .int .i64 x21_2 ∧ Aside0 (impl_inversions.l1 kq l0 x3_1 (rd l0 x12_1) x6_2 l0 (l0.length : Int) x12_1 (l0.take (x12_1 : Int).toNat) ((l0.take (x12_1 : Int).toNat).length : Int) x21_2 = some r) ∧ Aside0 (kq ≤ k1) ∧ Aside0 (Kd.R (Kd.int .i64) 3 w' w.heap.size (fun _ => True) u3 x3_1) ∧ Aside0 (Below w.heap.size w w'))
       case atStart => exact ⟨(0), (0), Q3, Q3, H', ⟨Nat.le_refl _⟩, ⟨Q24⟩, ⟨Q0⟩⟩
       case round =>
        clear H'
        try clear p2
        try clear p3
        try clear q3
        try clear hx3
        try clear c4
        try clear c4b0
        try clear c5
        try clear c5b0
        try clear c6
        try clear c6b0
        try clear c7
        try clear c7b0
        try clear c8
        try clear c8b0
        try clear c8b1
        try clear hx348_0
        try clear p2
        try clear p348
        try clear q348
        obtain ⟨x6_2, x21_2, rfl, rfl, HA, HK2, HO_3, HB⟩ := hrel
        cases gk with
        | zero => exact absurd HA.out (by simp [impl_inversions.l1])
        | succ k2 =>
         have H := HA.out
         clear HA
         simp only [impl_inversions.l1] at H
         by_cases c10 : x21_2 < ((l0.take (x12_1 : Int).toNat).length : Int)
         ·rw [if_pos c10] at H
          have c10b0 := Z37 c10
          (try (have c10b1 : decide (x21_2 < max x12_1 0) = true := by have hc_ := c10; rw [Z31] at hc_; exact Z37 (by omega)))
          (try (have c10b2 : (x21_2 < max x12_1 0) = True := eq_true (by have hc_ := c10; rw [Z31] at hc_; omega)))
          clear c10
          by_cases c11 : 0 ≤ x21_2
          ·rw [if_pos c11] at H
           have c11b0 := Z37 c11
           clear c11
           by_cases c12 : x21_2 < ((l0.take (x12_1 : Int).toNat).length : Int)
           ·rw [if_pos c12] at H
            have c12b0 := Z37 c12
            (try (have c12b1 : decide (x21_2 < max x12_1 0) = true := by have hc_ := c12; rw [Z31] at hc_; exact Z37 (by omega)))
            (try (have c12b2 : (x21_2 < max x12_1 0) = True := eq_true (by have hc_ := c12; rw [Z31] at hc_; omega)))
            clear c12
            by_cases c13 : (rd (l0.take (x12_1 : Int).toNat) x21_2) > (rd l0 x12_1)
            ·rw [if_pos c13] at H
             have c13b0 : decide ((rd l0 x12_1) < (rd (l0.take (x12_1 : Int).toNat) x21_2)) = true := Z37 c13
             clear c13
             have H' := Ya H
             clear H
             have p350 : 0 ≤ (x21_2 : Int) := Z29 Q1
             have q350 : x21_2 < ((l0.take (x12_1 : Int).toNat).length : Int) := Z29 Q1
             obtain ⟨ad350, e350, hx350_0⟩ := Kd.at_int HR349.out x21_2 p350 q350
             obtain rfl : ad348 = ad350 := (by injection e350)
             try replace hx350_0 := (HB.out.cell (World.block_lt_of_cell? w _ hx350_0)).trans hx350_0
             replace p350 := eq_true p350
             replace q350 := eq_true q350
             go_wp2
             go_roundg k2
             case measure => have := HK1.out; have := HK2.out; omega
             case rel => exact ⟨(wrap64 (x6_2 + 1)), (wrap64 (x21_2 + 1)), Q3, Q3, H', ⟨Q40⟩, ⟨Q24⟩, ⟨Q0⟩⟩
            ·rw [if_neg c13] at H
             have c13b0 : decide ((rd l0 x12_1) < (rd (l0.take (x12_1 : Int).toNat) x21_2)) = false := Z36 c13
             clear c13
             have H' := Ya H
             clear H
             have p350 : 0 ≤ (x21_2 : Int) := Z29 Q1
             have q350 : x21_2 < ((l0.take (x12_1 : Int).toNat).length : Int) := Z29 Q1
             obtain ⟨ad350, e350, hx350_0⟩ := Kd.at_int HR349.out x21_2 p350 q350
             obtain rfl : ad348 = ad350 := (by injection e350)
             try replace hx350_0 := (HB.out.cell (World.block_lt_of_cell? w _ hx350_0)).trans hx350_0
             replace p350 := eq_true p350
             replace q350 := eq_true q350
             go_wp2
             go_roundg k2
             case measure => have := HK1.out; have := HK2.out; omega
             case rel => exact ⟨(x6_2), (wrap64 (x21_2 + 1)), Q3, Q3, H', ⟨Q40⟩, ⟨Q24⟩, ⟨Q0⟩⟩
           ·rw [if_neg c12] at H
            exact absurd H (by simp)
          ·rw [if_neg c11] at H
           exact absurd H (by simp)
         ·rw [if_neg c10] at H
          have c10b0 := Z36 c10
          (try (have c10b1 : decide (x21_2 < max x12_1 0) = false := by have h_ := (‹Aside0 (x12_1 ≤ (l0.length : Int))›).out; have hc_ := c10; rw [Z31] at hc_; exact Z36 (by omega)))
          clear c10
          by_cases c14 : x3_1.length < 17592186044416
          ·rw [if_pos c14] at H
           have LMc14 := Ya c14
           clear c14
           obtain ⟨y351, hy351⟩ : ∃ y_ : List Int, y_ = (x3_1 ++ [x6_2]) := ⟨_, rfl⟩
           replace H : (impl_inversions.l0 k2 l0 y351 l0 (l0.length : Int) (wrap64 (x12_1 + 1))) = some r := by first | (rw [hy351]; with_reducible exact H) | (have H2_ := (Option.bind_some _ _).symm.trans H; rw [hy351]; with_reducible exact H2_) | (have H2_ := (Option.bind_some _ _).symm.trans H; with_reducible exact H2_) | with_reducible exact H | (rw [hy351]; exact H) | exact H
           have Ny351 := Ya hy351
           clear hy351
           have H' := Ya H
           clear H
           go_wp2_with (first | ((with_reducible refine gate_builtin (b := .append) (xs := #[.tmp 31, .tmp 33]) rfl ?_); at_builtin; refine Kd.R_append (Kd.int .i64) (w0 := w) w.heap.size rfl (.tmp 31) (.tmp 33) 24 3 (.int .i64 0) 8 rfl Try.underlying24 info3 rfl (by decide) (by omega) u3 x3_1 x6_2 [.int .i64 x6_2] (fun _ => True) (fun _ => False) rfl rfl ?aP (fun _ hk => hk.elim) ?aF ?aO ?aB ?aS ?aL ?_; (case aP => exact rfl); (case aB => exact Q12); (case aF => exact (fun _ _ => trivial)); (case aO => exact (Yr HO_3.out)); (case aS => exact (Z7 Q12)); (case aL => have := LMc14.out; omega); intro v352 w15 ho hb hg hat; rw [← Ny351.out] at ho; replace HB := Ya hb; have HO353 := Ya ho; clear HO_3; clear ho hb hg hat))
           go_roundg k2
           case measure => have := HK1.out; have := HK2.out; omega
           case rel => exact ⟨(y351), (wrap64 (x12_1 + 1)), Q3, H', ⟨Q40⟩, ⟨by (with_reducible repeat (first | apply Z9 | apply Z10 | apply Z11)); exact HO353.out⟩, ⟨Q0⟩⟩
          ·rw [if_neg c14] at H
           exact absurd H (by simp)
      ·rw [if_neg c8] at H
       exact absurd H (by simp)
     ·rw [if_neg c6] at H
      exact absurd H (by simp)
    ·rw [if_neg c5] at H
     exact absurd H (by simp)
   ·rw [if_neg c4] at H
    have c4b0 := Z36 c4
    clear c4
    obtain rfl := Option.some.inj H
    go_wp2
    go_ret
    exact ⟨_, Q2, Q24, Q0⟩
def impl_sign.l0 : Nat → Int → List Int → Int → Int → Option (Int)
 | 0, _, _, _, _ => none
 | k + 1, x3, x7, x8, x9 => if x9 < x8 then (if 0 ≤ x9 then (if x9 < (x7.length : Int) then (impl_sign.l0 k (wrap64 (x3 + (rd x7 x9))) x7 x8 (wrap64 (x9 + 1))) else (none)) else (none)) else (some (wrap64 (1 - (wrap64 (2 * (Int.tmod x3 2))))))
def impl_sign.f (k : Nat) (l0 : List Int) : Option (Int) := (impl_inversions.f k l0).bind fun t354 => (impl_sign.l0 k 0 t354 (t354.length : Int) 0)
theorem impl_sign.mono_l : ∀ k, (∀ y0 y1 y2 y3, LeO (impl_sign.l0 k y0 y1 y2 y3) (impl_sign.l0 (k + 1) y0 y1 y2 y3))
 | 0 => fun _ _ _ _ r h => by simp [impl_sign.l0] at h
 | k + 1 => by
  have ih0 := impl_sign.mono_l k
  ·intro y0 y1 y2 y3
   unfold impl_sign.l0
   repeat' first
   | (with_reducible exact ih0 _ _ _ _)
   | (with_reducible exact impl_inversions.mono _ _)
   | (with_reducible exact LeO.refl _)
   | (with_reducible exact LeO.none _)
   | (with_reducible refine LeO.ite ?_ ?_)
   | (with_reducible refine LeO.bind ?_ (fun _ => ?_))
   | exact ih0 _ _ _ _
   | exact impl_inversions.mono _ _
   | exact LeO.none _
   | refine LeO.ite ?_ ?_
   | refine LeO.bind ?_ (fun _ => ?_)
theorem impl_sign.mono : ∀ a0 k, LeO (impl_sign.f k a0) (impl_sign.f (k + 1) a0) := by
 intro a0 k
 have ih0 := impl_sign.mono_l k
 unfold impl_sign.f
 repeat' first
   | (with_reducible exact ih0 _ _ _ _)
   | (with_reducible exact impl_inversions.mono _ _)
   | (with_reducible exact LeO.refl _)
   | (with_reducible exact LeO.none _)
   | (with_reducible refine LeO.ite ?_ ?_)
   | (with_reducible refine LeO.bind ?_ (fun _ => ?_))
   | exact ih0 _ _ _ _
   | exact impl_inversions.mono _ _
   | exact LeO.none _
   | refine LeO.ite ?_ ?_
   | refine LeO.bind ?_ (fun _ => ?_)
set_option maxHeartbeats 8000000 in
set_option maxRecDepth 100000 in
theorem impl_sign.calls (k : Nat) (A0 : Option Addr) (c0 : Nat) (l0 : List Int) (r : Int) (w : World) (hr0 : Kd.C (Kd.int .i64) w A0 l0.length l0) (hc0 : l0.length ≤ c0) (h : impl_sign.f k l0 = some r) :
  Calls Try.prog 59 #[.slice A0 l0.length c0] w fun e w' => e = .returned (.int .i64 r) ∧ Below w.heap.size w w' := by
 have HR0 := Ya hr0
 have HC0 := Ya hc0
 clear hr0 hc0
 have HB := Ya (Below.refl w.heap.size w)
 have H : ((impl_inversions.f k l0).bind fun t354 => (impl_sign.l0 k 0 t354 (t354.length : Int) 0)) = some r := h
 clear h
 replace H := Z35.mp H
 obtain ⟨t354, A20, H⟩ := H
 replace H : (impl_sign.l0 k 0 t354 (t354.length : Int) 0) = some r := H
 have A2 := Ya A20
 clear A20
 have H' := Ya H
 clear H
 go_enter Try.func59, Try.ntmps59
 go_wp2_with (first | ((with_reducible refine gate_callee (f := 87) rfl ?_); refine Yz 7 Try.func87 #[.slice A0 l0.length c0] ?_; (with_reducible refine (impl_inversions.calls k _ _ l0 t354 _ (Yc HR0.out) HC0.out A2.out).mono ?_); rintro e w3 ⟨v355, rfl, ho0, hb⟩; refine ⟨_, rfl, ?_⟩; have HO356 := Yl ho0; replace HB := Yh hb; (try clear hb ho0); obtain ⟨Ao4, co4, rfl⟩ := Z17 HO356.out))
 go_loopg [3, 9] k (fun kq v3 v9 w' => ∃ (x3_1 : Int) (x9_1 : Int), v3 = .int .i64 x3_1 ∧ v9 = .int .i64 x9_1 ∧ Aside0 (impl_sign.l0 kq x3_1 t354 (t354.length : Int) x9_1 = some r) ∧ Aside0 (kq ≤ k) ∧ Aside0 (Kd.R (Kd.int .i64) 3 w' w.heap.size (fun _ => True) (.slice Ao4 t354.length co4) t354) ∧ Aside0 (Below w.heap.size w w'))
 case atStart => exact ⟨(0), (0), Q3, Q3, H', ⟨Nat.le_refl _⟩, ⟨by (with_reducible repeat (first | apply Z9 | apply Z10 | apply Z11)); exact HO356.out⟩, ⟨Q0⟩⟩
 case round =>
  clear H'
  try clear p2
  obtain ⟨x3_1, x9_1, rfl, rfl, HA, HK1, HO_7, HB⟩ := hrel
  cases gk with
  | zero => exact absurd HA.out (by simp [impl_sign.l0])
  | succ k1 =>
   have H := HA.out
   clear HA
   simp only [impl_sign.l0] at H
   by_cases c5 : x9_1 < (t354.length : Int)
   ·rw [if_pos c5] at H
    have c5b0 := Z37 c5
    clear c5
    by_cases c6 : 0 ≤ x9_1
    ·rw [if_pos c6] at H
     have c6b0 := Z37 c6
     clear c6
     by_cases c7 : x9_1 < (t354.length : Int)
     ·rw [if_pos c7] at H
      have c7b0 := Z37 c7
      clear c7
      have H' := Ya H
      clear H
      have p357 : 0 ≤ (x9_1 : Int) := Z29 Q1
      have q357 : x9_1 < (t354.length : Int) := Z29 Q1
      obtain ⟨ad357, e357, hx357_0⟩ := Kd.at_int (Kd.R_reads' HO_7.out).2.2 x9_1 p357 q357
      cases e357
      replace p357 := eq_true p357
      replace q357 := eq_true q357
      go_wp2
      go_roundg k1
      case measure => have := HK1.out; omega
      case rel => exact ⟨(wrap64 (x3_1 + (rd t354 x9_1))), (wrap64 (x9_1 + 1)), Q3, Q3, H', ⟨Q22⟩, ⟨Q23⟩, ⟨Q0⟩⟩
     ·rw [if_neg c7] at H
      exact absurd H (by simp)
    ·rw [if_neg c6] at H
     exact absurd H (by simp)
   ·rw [if_neg c5] at H
    have c5b0 := Z36 c5
    clear c5
    obtain rfl := Option.some.inj H
    go_wp2
    go_ret
    exact ⟨Q2, Q0⟩
def impl_AreEven.idx (g : Nat → S45 → Option Bool) : Nat → List (S45) → Int → Option Int
 | 0, _, _ => none
 | k + 1, L, i => if i < (L.length : Int) then (if 0 ≤ i then ((g k (rd_T45 L i)).bind fun t => (if t = true then (some i) else (impl_AreEven.idx g k L (wrap64 (i + 1))))) else (none)) else (some (-1))
theorem impl_AreEven.idx_mono {g : Nat → S45 → Option Bool} (hg : ∀ k x, LeO (g k x) (g (k + 1) x)) : ∀ k L i, LeO (impl_AreEven.idx g k L i) (impl_AreEven.idx g (k + 1) L i)
 | 0, _, _ => fun r h => by simp [impl_AreEven.idx] at h
 | k + 1, L, i => by
  unfold impl_AreEven.idx
  repeat' first
   | (with_reducible exact impl_AreEven.idx_mono hg k _ _)
   | (with_reducible exact hg _ _)
   | (with_reducible exact LeO.refl _)
   | (with_reducible exact LeO.none _)
   | (with_reducible refine LeO.ite ?_ ?_)
   | (with_reducible refine LeO.bind ?_ (fun _ => ?_))
set_option maxHeartbeats 8000000 in
set_option maxRecDepth 100000 in
theorem impl_AreEven.index (g : Nat → S45 → Option Bool) (gb : Nat) (k : Nat) (A1 : Option Addr) (c1 : Nat) (L : List (S45)) (r : Int) (w : World) (hL : Kd.C k45 w A1 L.length L) (hcL : L.length ≤ c1)
  (hlam : ∀ (kq : Nat) (x : S45) (t : Bool) (w' : World), Below w.heap.size w w' → g kq x = some t → Calls Try.prog 58 #[.agg #[.int .i64 x.f0, .int .i64 x.f1, .int .i64 x.f2], .pointer (some ⟨gb, 0, none⟩)] w' fun e w'' => e = .returned (.bool t) ∧ Below w.heap.size w w'')
  (h : impl_AreEven.idx g k L 0 = some r) :
  Calls Try.prog 73 #[.slice A1 L.length c1, .func (Fn.func 58) #[] #[.pointer (some ⟨gb, 0, none⟩)]] w fun e w' => e = .returned (.int .i64 r) ∧ Below w.heap.size w w' := by
 have hu := Try.underlying45
 have HL := Ya hL
 have HCL := Ya hcL
 have HM := Ya hlam
 have H' := Ya h
 have HB := Ya (Below.refl w.heap.size w)
 clear hL hcL hlam h
 go_enter Try.func73, Try.ntmps73
 go_wp2
 go_loopg [5, 8] k (fun kq v5 v8 w' => ∃ (i : Int), v8 = .int .i64 i ∧ Aside0 (Below w.heap.size w w') ∧ Aside0 (impl_AreEven.idx g kq L i = some r) ∧ Aside0 (kq ≤ k))
 case atStart => exact ⟨0, rfl, HB, H', ⟨Nat.le_refl _⟩⟩
 case round =>
  clear H' HB
  obtain ⟨i, rfl, HB, HA, HK1⟩ := hrel
  cases gk with
  | zero => exact absurd HA.out (by simp [impl_AreEven.idx])
  | succ k1 =>
   have H := HA.out
   clear HA
   simp only [impl_AreEven.idx] at H
   by_cases c3 : i < (L.length : Int)
   ·rw [if_pos c3] at H
    have c3b0 := Z37 c3
    by_cases c4 : 0 ≤ i
    ·rw [if_pos c4] at H
     obtain ⟨t, A30, H⟩ := Z35.mp H
     have A3 := Ya A30
     clear A30
     obtain ⟨ad, ead, hx0, hx1, hx2⟩ := at_T45 HL.out i c4 c3
     cases ead
     replace hx0 := (HB.out.cell (World.block_lt_of_cell? w _ hx0)).trans hx0
     replace hx1 := (HB.out.cell (World.block_lt_of_cell? w _ hx1)).trans hx1
     replace hx2 := (HB.out.cell (World.block_lt_of_cell? w _ hx2)).trans hx2
     have c4b : (0 ≤ i) = True := eq_true c4
     have c3b : (i < (L.length : Int)) = True := eq_true c3
     clear c3 c4
     cases t
     ·simp only [Bool.false_eq_true, if_false] at H
      have H' := Ya H
      clear H
      go_wp2_with fail
      refine (HM.out k1 (rd_T45 L i) false _ HB.out A3.out).mono ?_
      rintro e w2 ⟨rfl, hb2⟩
      have HB2 := Ya hb2
      clear hb2
      go_wp2
      go_roundg k1
      case measure => have := HK1.out; omega
      case rel => exact ⟨wrap64 (i + 1), rfl, HB2, H', ⟨Q22⟩⟩
     ·simp only [if_true] at H
      obtain rfl := Option.some.inj H
      clear H
      go_wp2_with fail
      refine (HM.out k1 (rd_T45 L i) true _ HB.out A3.out).mono ?_
      rintro e w2 ⟨rfl, hb2⟩
      have HB2 := Ya hb2
      clear hb2
      go_wp2
      go_ret
      exact ⟨rfl, HB2.out⟩
    ·rw [if_neg c4] at H
     exact absurd H (by simp)
   ·rw [if_neg c3] at H
    obtain rfl := Option.some.inj H
    have c3b0 := Z36 c3
    clear c3 H
    go_wp2
    go_ret
    exact ⟨rfl, HB.out⟩
def impl_AreEven.g (n : Int) (k : Nat) (x : S45) : Option Bool := (impl_identity.f k n).bind fun t => ((impl_moved.f k t x.f0 x.f1 x.f2).bind fun u => ((impl_sign.f k u).bind fun s => (some (decide (s < 0)))))
theorem impl_AreEven.g_mono (n : Int) : ∀ k x, LeO (impl_AreEven.g n k x) (impl_AreEven.g n (k + 1) x) := by
 intro k x
 unfold impl_AreEven.g
 exact LeO.bind (impl_identity.mono _ _) (fun _ => LeO.bind (impl_moved.mono _ _ _ _ _) (fun _ => LeO.bind (impl_sign.mono _ _) (fun _ => LeO.refl _)))
def impl_AreEven.f (k : Nat) (a0 : Int) (l1 : List (S45)) : Option (Bool × Bool) := (impl_areMoves.f k a0 l1).bind fun t => (if t = true then ((impl_AreEven.idx (impl_AreEven.g a0) k l1 0).bind fun r => (some (!decide (0 ≤ r), true))) else (some (false, false)))
theorem impl_AreEven.mono : ∀ a0 a1 k, LeO (impl_AreEven.f k a0 a1) (impl_AreEven.f (k + 1) a0 a1) := by
 intro a0 a1 k
 unfold impl_AreEven.f
 refine LeO.bind (impl_areMoves.mono _ _ _) (fun _ => LeO.ite (LeO.bind (impl_AreEven.idx_mono (impl_AreEven.g_mono a0) k _ _) (fun _ => LeO.refl _)) (LeO.refl _))
set_option maxHeartbeats 8000000 in
set_option maxRecDepth 100000 in
theorem impl_AreEven.lam (n : Int) (gb : Nat) (w : World) (hb : w.cell? ⟨gb, 0, none⟩ = some (.int .i64 n)) (kq : Nat) (x : S45) (t : Bool) (w1 : World) (hB : Below w.heap.size w w1) (h : impl_AreEven.g n kq x = some t) :
  Calls Try.prog 58 #[.agg #[.int .i64 x.f0, .int .i64 x.f1, .int .i64 x.f2], .pointer (some ⟨gb, 0, none⟩)] w1 fun e w' => e = .returned (.bool t) ∧ Below w.heap.size w w' := by
 have hu := Try.underlying45
 have HB := Ya hB
 have HN := Ya hb
 unfold impl_AreEven.g at h
 obtain ⟨l, h1, h⟩ := Z35.mp h
 obtain ⟨u, h2, h⟩ := Z35.mp h
 obtain ⟨s, h3, h⟩ := Z35.mp h
 obtain rfl := Option.some.inj h
 have H1 := Ya h1
 have H2 := Ya h2
 have H3 := Ya h3
 clear h1 h2 h3 h hB hb
 go_enter Try.func58, Try.ntmps58
 go_wp2_with (first | ((with_reducible refine gate_dst (N := 2) rfl ?_); refine Yx 2 #[.int .i64 x.f0, .int .i64 x.f1, .int .i64 x.f2] 45 ?_; intro gx hgx w2 hbox hb2; have HB2 := Ya (show Below w.heap.size w w2 from HB.out.trans (hb2.mono HB.out.size)); have BK := Ya hbox; clear HB; have HB := HB2; clear HB2 hb2 hbox hgx))
 replace BK := Ya (Z25 BK.out)
 replace HB := Ya (Z4 HB.out)
 refine start_ (n := 7) (S := fun w' => w'.cell? ⟨gb, 0, none⟩ = some (.int .i64 n) ∧ w'.cell? ⟨gx, 0, none⟩ = some (.int .i64 x.f0) ∧ w'.cell? ⟨gx, 1, none⟩ = some (.int .i64 x.f1) ∧ w'.cell? ⟨gx, 2, none⟩ = some (.int .i64 x.f2)) (ds := []) (YA 7 0) (by kernel_rfl) rfl rfl ⟨(HB.out.cell (World.block_lt_of_cell? w _ HN.out)).trans HN.out, (Z22 BK.out 0).trans rfl, (Z22 BK.out 1).trans rfl, (Z22 BK.out 2).trans rfl⟩ (fun hHeld => ?_)
 generalize w2.drew = w6 at BK HB hHeld ⊢
 refine Ys 0 (some 4) (YA 7 1) rfl hHeld Q9 ?_
 refine Ys 2 (some 6) (YA 7 5) rfl hHeld Q9 ?_
 refine one_ (i := 1) (N := some 5) (YA 7 7) rfl rfl (by kernel_rfl) (by decide) (fun K hK => ?_)
 refine goes_ Try.func53 (by kernel_rfl) rfl #[.int .i64 n] (by rfl) rfl rfl Q34 ?_
 with_reducible refine (impl_identity.calls kq n l _ H1.out).mono ?_
 rintro e w7 ⟨v3, rfl, ho0, hb⟩
 refine ⟨_, rfl, ?_⟩
 obtain ⟨A3, c3, rfl⟩ := Z17 ho0
 have ho1 := Ya (Kd.R_reads' ho0)
 replace HB := Ya (show Below w.heap.size w _ from HB.out.trans (hb.mono HB.out.size))
 replace BK := Ya (Z27 BK.out hb)
 have HO3 := Ya (ho1.out)
 (try clear hb ho0)
 clear ho1
 refine hK.out _ _ ⟨(HB.out.cell (World.block_lt_of_cell? w _ HN.out)).trans HN.out, (Z22 BK.out 0).trans rfl, (Z22 BK.out 1).trans rfl, (Z22 BK.out 2).trans rfl⟩ (fun hHeld => ?_)
 clear hK K
 refine norm_ (a' := ?_) ?_ ?_
 rotate_left
 ·show Act.put _ (some 5) _ = _
  simp only [Act.put, Z0, Z1, Z2, i64_w, i32_w]
  rfl
 refine one_ (i := 3) (N := some 7) (YA 7 15) rfl rfl (by kernel_rfl) (by decide) (fun K hK => ?_)
 refine goes_ Try.func51 (by kernel_rfl) rfl #[.slice A3 l.length c3, .agg #[.int .i64 x.f0, .int .i64 x.f1, .int .i64 x.f2]] (by rfl) rfl rfl Q34 ?_
 with_reducible refine (impl_moved.calls kq A3 c3 l x.f0 x.f1 x.f2 u _ HO3.out.2.2 HO3.out.2.1 H2.out).mono ?_
 rintro e w8 ⟨v4, rfl, ho0, hb⟩
 refine ⟨_, rfl, ?_⟩
 obtain ⟨A4, c4, rfl⟩ := Z17 ho0
 have ho1 := Ya (Kd.R_reads' ho0)
 replace HB := Ya (show Below w.heap.size w _ from HB.out.trans (hb.mono HB.out.size))
 replace BK := Ya (Z27 BK.out hb)
 have HO4 := Ya (ho1.out)
 (try clear hb ho0)
 clear ho1 HO3
 refine hK.out _ _ ⟨(HB.out.cell (World.block_lt_of_cell? w _ HN.out)).trans HN.out, (Z22 BK.out 0).trans rfl, (Z22 BK.out 1).trans rfl, (Z22 BK.out 2).trans rfl⟩ (fun hHeld => ?_)
 clear hK K
 refine norm_ (a' := ?_) ?_ ?_
 rotate_left
 ·show Act.put _ (some 7) _ = _
  simp only [Act.put, Z0, Z1, Z2, i64_w, i32_w]
  rfl
 refine one_ (i := 4) (N := some 8) (YA 7 31) rfl rfl (by kernel_rfl) (by decide) (fun K hK => ?_)
 refine goes_ Try.func59 (by kernel_rfl) rfl #[.slice A4 u.length c4] (by rfl) rfl rfl Q34 ?_
 with_reducible refine (impl_sign.calls kq A4 c4 u s _ HO4.out.2.2 HO4.out.2.1 H3.out).mono ?_
 rintro e w9 ⟨rfl, hb⟩
 refine ⟨_, rfl, ?_⟩
 replace HB := Ya (show Below w.heap.size w _ from HB.out.trans (hb.mono HB.out.size))
 replace BK := Ya (Z27 BK.out hb)
 (try clear hb)
 clear HO4
 refine hK.out _ _ ⟨(HB.out.cell (World.block_lt_of_cell? w _ HN.out)).trans HN.out, (Z22 BK.out 0).trans rfl, (Z22 BK.out 1).trans rfl, (Z22 BK.out 2).trans rfl⟩ (fun hHeld => ?_)
 clear hK K
 refine norm_ (a' := ?_) ?_ ?_
 rotate_left
 ·show Act.put _ (some 8) _ = _
  simp only [Act.put, Z0, Z1, Z2, i64_w, i32_w]
  rfl
 refine Yq 5 (some 9) (YA 7 63) rfl ?_
 refine Yq 6 (some 3) (YA 7 127) rfl ?_
 refine done_ (by kernel_rfl) ?_
 try go_wp2
 go_ret
 exact ⟨rfl, HB.out⟩
set_option maxHeartbeats 8000000 in
set_option maxRecDepth 100000 in
theorem impl_AreEven.contains (n : Int) (gb : Nat) (k : Nat) (A1 : Option Addr) (c1 : Nat) (L : List (S45)) (r : Int) (w : World) (hL : Kd.C k45 w A1 L.length L) (hcL : L.length ≤ c1) (hb : w.cell? ⟨gb, 0, none⟩ = some (.int .i64 n)) (h : impl_AreEven.idx (impl_AreEven.g n) k L 0 = some r) :
  Calls Try.prog 57 #[.slice A1 L.length c1, .func (Fn.func 58) #[] #[.pointer (some ⟨gb, 0, none⟩)]] w fun e w' => e = .returned (.bool (decide (0 ≤ r))) ∧ Below w.heap.size w w' := by
 have HL := Ya hL
 have HC := Ya hcL
 have HN := Ya hb
 have H := Ya h
 clear hL hcL hb h
 go_enter Try.func57, Try.ntmps57
 go_wp2_with fail
 refine (impl_AreEven.index (impl_AreEven.g n) gb k A1 c1 L r w HL.out HC.out (fun kq x t w' hB h => impl_AreEven.lam n gb w HN.out kq x t w' hB h) H.out).mono ?_
 rintro e w2 ⟨rfl, hb2⟩
 go_wp2
 go_ret
 exact ⟨rfl, hb2⟩
set_option maxHeartbeats 8000000 in
set_option maxRecDepth 100000 in
theorem impl_AreEven.calls (k : Nat) (a0 : Int) (A1 : Option Addr) (c1 : Nat) (l1 : List (S45)) (r1 r2 : Bool) (w : World) (hr1 : Kd.C k45 w A1 l1.length l1) (hc1 : l1.length ≤ c1) (h : impl_AreEven.f k a0 l1 = some (r1, r2)) :
  Calls Try.prog 20 #[.int .i64 a0, .slice A1 l1.length c1] w fun e w' => e = .returned (.tuple #[.bool r1, .bool r2]) ∧ Below w.heap.size w w' := by
 have HR := Ya hr1
 have HC := Ya hc1
 have HB := Ya (Below.refl w.heap.size w)
 unfold impl_AreEven.f at h
 obtain ⟨t, h1, h⟩ := Z35.mp h
 have H1 := Ya h1
 clear h1 hr1 hc1
 cases t
 ·simp only [Bool.false_eq_true, if_false, Option.some.injEq, Prod.mk.injEq] at h
  obtain ⟨rfl, rfl⟩ := h
  go_enter Try.func20, Try.ntmps20
  go_wp2_with (first | ((with_reducible refine gate_dst (N := 2) rfl ?_); refine Yx 2 #[.int .i64 a0] 3 ?_; intro gx hgx w2 hbox hb2; have HB2 := Ya (show Below w.heap.size w w2 from HB.out.trans (hb2.mono HB.out.size)); have BK := Ya hbox; have hx : w2.cell? ⟨gx, 0, none⟩ = some (.int .i64 a0) := (Z22 hbox 0).trans rfl; clear HB; have HB := HB2; clear HB2 hb2 hbox hgx))
  refine (impl_areMoves.calls k a0 A1 c1 l1 false _ (Z21 HR.out HB.out) HC.out H1.out).mono ?_
  rintro e w3 ⟨rfl, hb3⟩
  have HB3 := Ya (HB.out.trans (hb3.mono HB.out.size))
  clear hb3 hx
  go_wp2
  go_ret2
  exact ⟨rfl, HB3.out⟩
 ·simp only [if_true] at h
  obtain ⟨i, h2, h⟩ := Z35.mp h
  simp only [Option.some.injEq, Prod.mk.injEq] at h
  obtain ⟨rfl, rfl⟩ := h
  have H2 := Ya h2
  clear h2
  go_enter Try.func20, Try.ntmps20
  go_wp2_with (first | ((with_reducible refine gate_dst (N := 2) rfl ?_); refine Yx 2 #[.int .i64 a0] 3 ?_; intro gx hgx w2 hbox hb2; have HB2 := Ya (show Below w.heap.size w w2 from HB.out.trans (hb2.mono HB.out.size)); have BK := Ya hbox; have hx : w2.cell? ⟨gx, 0, none⟩ = some (.int .i64 a0) := (Z22 hbox 0).trans rfl; clear HB; have HB := HB2; clear HB2 hb2 hbox hgx))
  refine (impl_areMoves.calls k a0 A1 c1 l1 true _ (Z21 HR.out HB.out) HC.out H1.out).mono ?_
  rintro e w3 ⟨rfl, hb3⟩
  have BK3 := Ya (Z27 BK.out hb3)
  have HB3 := Ya (HB.out.trans (hb3.mono HB.out.size))
  clear hb3 hx HB BK
  go_wp2_with fail
  refine (impl_AreEven.contains a0 gx k A1 c1 l1 i w3 (Z21 HR.out HB3.out) HC.out ((Z22 BK3.out 0).trans rfl) H2.out).mono ?_
  rintro e w4 ⟨rfl, hb4⟩
  have HB4 := Ya (HB3.out.trans (hb4.mono HB3.out.size))
  clear hb4
  go_wp2
  go_ret2
  exact ⟨rfl, HB4.out⟩
end Go.Proofs.Ytllhnnjkonghlaa.MFnReached
