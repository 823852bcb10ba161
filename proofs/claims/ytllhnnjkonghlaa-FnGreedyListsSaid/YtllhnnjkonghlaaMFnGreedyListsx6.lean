import Derived.Test.YtllhnnjkonghlaaMFnGreedyListsx0
import Derived.Test.YtllhnnjkonghlaaMFnGreedyListsx1
namespace Go.Proofs.Ytllhnnjkonghlaa.MFnGreedyLists
open Go.RowKit Go.Proofs.YtllhnnjkonghlaaW.PrintWords Go.Proofs.YtllhnnjkonghlaaW.PrintLast Go.Proofs.YtllhnnjkonghlaaW.PrintMore
attribute [local go_sem] max2_int min2_int max_two min_two max_three min_three max_four min_four   
set_option linter.unusedVariables false
set_option linter.unusedSimpArgs false
theorem impl_GreedyList.zeroB (w : World) : (zeroValue 4).run Try.prog w = .ok (.bool false) w := by kernel_rfl
theorem impl_GreedyList.mt : Try.prog.underlying 73 = some (.map 3 4) := Try.underlying73
theorem impl_GreedyList.mk_ : Try.prog.underlying 3 = some (.int .i64) := Try.underlying3
theorem impl_GreedyList.me : Try.prog.underlying 4 = some .bool := Try.underlying4
def impl_GreedyList.idx (g : Nat → S45 → Option Bool) : Nat → List (S45) → Int → Option Int
 | 0, _, _ => none
 | k + 1, L, i => if i < (L.length : Int) then (if 0 ≤ i then ((g k (rd_T45 L i)).bind fun t => (if t = true then (some i) else (impl_GreedyList.idx g k L (wrap64 (i + 1))))) else (none)) else (some (-1))
theorem impl_GreedyList.idx_mono {g : Nat → S45 → Option Bool} (hg : ∀ k x, LeO (g k x) (g (k + 1) x)) : ∀ k L i, LeO (impl_GreedyList.idx g k L i) (impl_GreedyList.idx g (k + 1) L i)
 | 0, _, _ => fun r h => by simp [impl_GreedyList.idx] at h
 | k + 1, L, i => by
  unfold impl_GreedyList.idx
  repeat' first
   | (with_reducible exact impl_GreedyList.idx_mono hg k _ _)
   | (with_reducible exact hg _ _)
   | (with_reducible exact LeO.refl _)
   | (with_reducible exact LeO.none _)
   | (with_reducible refine LeO.ite ?_ ?_)
   | (with_reducible refine LeO.bind ?_ (fun _ => ?_))
set_option maxHeartbeats 8000000 in
set_option maxRecDepth 100000 in
theorem impl_GreedyList.index (g : Nat → S45 → Option Bool) (g1 g2 : Nat) (k : Nat) (A1 : Option Addr) (c1 : Nat) (L : List (S45)) (r : Int) (w : World) (hL : Kd.C k45 w A1 L.length L) (hcL : L.length ≤ c1)
  (hlam : ∀ (kq : Nat) (x : S45) (t : Bool) (w' : World), Below w.heap.size w w' → g kq x = some t → Calls Try.prog 74 #[.agg #[.int .i64 x.f0, .int .i64 x.f1, .int .i64 x.f2], .pointer (some ⟨g1, 0, none⟩), .pointer (some ⟨g2, 0, none⟩)] w' fun e w'' => e = .returned (.bool t) ∧ Below w.heap.size w w'')
  (h : impl_GreedyList.idx g k L 0 = some r) :
  Calls Try.prog 73 #[.slice A1 L.length c1, .func (Fn.func 74) #[] #[.pointer (some ⟨g1, 0, none⟩), .pointer (some ⟨g2, 0, none⟩)]] w fun e w' => e = .returned (.int .i64 r) ∧ Below w.heap.size w w' := by
 have hu := Try.underlying45
 have HL := Ya hL
 have HCL := Ya hcL
 have HM := Ya hlam
 have H' := Ya h
 have HB := Ya (Below.refl w.heap.size w)
 clear hL hcL hlam h
 go_enter Try.func73, Try.ntmps73
 go_wp2
 go_loopg [5, 8] k (fun kq v5 v8 w' => ∃ (i : Int), v8 = .int .i64 i ∧ Aside0 (Below w.heap.size w w') ∧ Aside0 (impl_GreedyList.idx g kq L i = some r) ∧ Aside0 (kq ≤ k))
 case atStart => exact ⟨0, rfl, HB, H', ⟨Nat.le_refl _⟩⟩
 case round =>
  clear H' HB
  obtain ⟨i, rfl, HB, HA, HK1⟩ := hrel
  cases gk with
  | zero => exact absurd HA.out (by simp [impl_GreedyList.idx])
  | succ k1 =>
   have H := HA.out
   clear HA
   simp only [impl_GreedyList.idx] at H
   by_cases c3 : i < (L.length : Int)
   ·rw [if_pos c3] at H
    have c3b0 := Z37 c3
    by_cases c4 : 0 ≤ i
    ·rw [if_pos c4] at H
     obtain ⟨t, A30, H⟩ := Z35.mp H
     have A3 := Ya A30
     clear A30
     obtain ⟨ad, ead, hx0, hx1, hx2⟩ := at_T45 HL.out i c4 c3
     cases ead
     replace hx0 := (HB.out.cell (World.block_lt_of_cell? w _ hx0)).trans hx0
     replace hx1 := (HB.out.cell (World.block_lt_of_cell? w _ hx1)).trans hx1
     replace hx2 := (HB.out.cell (World.block_lt_of_cell? w _ hx2)).trans hx2
     have c4b : (0 ≤ i) = True := eq_true c4
     have c3b : (i < (L.length : Int)) = True := eq_true c3
     clear c3 c4
     cases t
     ·simp only [Bool.false_eq_true, if_false] at H
      have H' := Ya H
      clear H
      go_wp2_with fail
      refine (HM.out k1 (rd_T45 L i) false _ HB.out A3.out).mono ?_
      rintro e w2 ⟨rfl, hb2⟩
      have HB2 := Ya hb2
      clear hb2
      go_wp2
      go_roundg k1
      case measure => have := HK1.out; omega
      case rel => exact ⟨wrap64 (i + 1), rfl, HB2, H', ⟨Q28⟩⟩
     ·simp only [if_true] at H
      obtain rfl := Option.some.inj H
      clear H
      go_wp2_with fail
      refine (HM.out k1 (rd_T45 L i) true _ HB.out A3.out).mono ?_
      rintro e w2 ⟨rfl, hb2⟩
      have HB2 := Ya hb2
      clear hb2
      go_wp2
      go_ret
      exact ⟨rfl, HB2.out⟩
    ·rw [if_neg c4] at H
     exact absurd H (by simp)
   ·rw [if_neg c3] at H
    obtain rfl := Option.some.inj H
    have c3b0 := Z36 c3
    clear c3 H
    go_wp2
    go_ret
    exact ⟨rfl, HB.out⟩
def impl_GreedyList.g (M l : List Int) (k : Nat) (x : S45) : Option Bool := (impl_moved.f k l x.f0 x.f1 x.f2).bind fun u => ((impl_permutationRank.f k u).bind fun r => (if (Lit.int .i64 r).wf = true then some (!decide (r ∈ M)) else none))
theorem impl_GreedyList.g_mono (M l : List Int) : ∀ k x, LeO (impl_GreedyList.g M l k x) (impl_GreedyList.g M l (k + 1) x) := by
 intro k x
 unfold impl_GreedyList.g
 exact LeO.bind (impl_moved.mono _ _ _ _ _) (fun _ => LeO.bind (impl_permutationRank.mono _ _) (fun _ => LeO.refl _))
def impl_GreedyList.l0 : Nat → List (S45) → List (List Int) → List Int → Option (List (List Int))
 | 0, _, _, _ => none
 | k + 1, L, X, M => if 0 < X.length then (if X.length < 1000000 then (if M.length < 1000000 then ((impl_GreedyList.idx (impl_GreedyList.g M (rd_L3 X ((X.length : Int) - 1))) k L 0).bind fun r => (if r < 0 then some X else (if r < (L.length : Int) then ((impl_moved.f k (rd_L3 X ((X.length : Int) - 1)) (rd_T45 L r).f0 (rd_T45 L r).f1 (rd_T45 L r).f2).bind fun nx => ((impl_permutationRank.f k nx).bind fun q => (if (Lit.int .i64 q).wf = true then (impl_GreedyList.l0 k L (X ++ [nx]) (if q ∈ M then M else q :: M)) else none))) else none))) else none) else none) else none
theorem impl_GreedyList.mono_l : ∀ k L X M, LeO (impl_GreedyList.l0 k L X M) (impl_GreedyList.l0 (k + 1) L X M)
 | 0, _, _, _ => fun r h => by simp [impl_GreedyList.l0] at h
 | k + 1, L, X, M => by
  unfold impl_GreedyList.l0
  exact LeO.ite (LeO.ite (LeO.ite (LeO.bind (impl_GreedyList.idx_mono (impl_GreedyList.g_mono M _) k _ _) (fun _ => LeO.ite (LeO.refl _) (LeO.ite (LeO.bind (impl_moved.mono _ _ _ _ _) (fun _ => LeO.bind (impl_permutationRank.mono _ _) (fun _ => LeO.ite (impl_GreedyList.mono_l k _ _ _) (LeO.none _)))) (LeO.none _)))) (LeO.none _)) (LeO.none _)) (LeO.none _)
def impl_GreedyList.f (k : Nat) (a0 : Int) (l1 : List (S45)) : Option (List (List Int) × Bool) := (impl_areMoves.f k a0 l1).bind fun t => (if t = true then ((impl_identity.f k a0).bind fun s => ((impl_GreedyList.l0 k l1 [s] [0]).bind fun X => some (X, true))) else some ([], false))
theorem impl_GreedyList.mono : ∀ a0 a1 k, LeO (impl_GreedyList.f k a0 a1) (impl_GreedyList.f (k + 1) a0 a1) := by
 intro a0 a1 k
 unfold impl_GreedyList.f
 exact LeO.bind (impl_areMoves.mono _ _ _) (fun _ => LeO.ite (LeO.bind (impl_identity.mono _ _) (fun _ => LeO.bind (impl_GreedyList.mono_l _ _ _ _) (fun _ => LeO.refl _))) (LeO.refl _))
open Go.Proofs.Ytllhnnjkonghlaa.MapSet in
set_option maxHeartbeats 8000000 in
set_option maxRecDepth 100000 in
theorem impl_GreedyList.lam (M : List Int) (X : List (List Int)) (bm : Nat) (AX : Option Addr) (cX : Nat) (g1 g2 : Nat) (w : World) (hX : Kd.C (Kd.slice 3 (Kd.int .i64)) w AX X.length X) (hp : 0 < X.length) (hq : X.length < 1000000) (hn1 : w.cell? ⟨g1, 0, none⟩ = some (.map (some bm))) (hn2 : w.cell? ⟨g2, 0, none⟩ = some (.slice AX X.length cX)) (hM : MSet Try.prog 3 4 w bm M) (kq : Nat) (x : S45) (t : Bool) (w1 : World) (hB : Below w.heap.size w w1) (h : impl_GreedyList.g M (rd_L3 X ((X.length : Int) - 1)) kq x = some t) :
  Calls Try.prog 74 #[.agg #[.int .i64 x.f0, .int .i64 x.f1, .int .i64 x.f2], .pointer (some ⟨g1, 0, none⟩), .pointer (some ⟨g2, 0, none⟩)] w1 fun e w' => e = .returned (.bool t) ∧ Below w.heap.size w w' := by
 have hu := Try.underlying45
 have HB := Ya hB
 have HM := Ya hM
 unfold impl_GreedyList.g at h
 obtain ⟨u, h1, h⟩ := Z35.mp h
 obtain ⟨r, h2, h⟩ := Z35.mp h
 by_cases cw : (Lit.int .i64 r).wf = true
 rotate_left
 ·rw [if_neg cw] at h; cases h
 rw [if_pos cw] at h
 obtain rfl := Option.some.inj h
 have HW := Ya cw
 have H1 := Ya h1
 have H2 := Ya h2
 obtain ⟨aX, Al, cl, eaX, hxl, hll, hrl⟩ := at_L3 hX ((X.length : Int) - 1) (by omega) (by omega)
 cases eaX
 rw [show ((X.length : Int) - 1).toNat = X.length - 1 from by omega] at hxl
 have HN1 := Ya hn1
 have HN2 := Ya hn2
 have HXL := Ya hxl
 have HLL := Ya hll
 have HRL := Ya hrl
 have hw1 : IntKind.i64.wrap ((X.length : Int) - 1) = (X.length : Int) - 1 := IntWalk.i64_in _ (by omega)
 have q0 : (0 ≤ (X.length : Int) - 1) = True := eq_true (by omega)
 have q1 : (1 ≤ (X.length : Int)) = True := eq_true (by omega)
 have q2 : ((X.length : Int) - 1 < (X.length : Int)) = True := eq_true (by omega)
 have q3 : (1 ≤ X.length) = True := eq_true (by omega)
 have q4 : decide (0 ≤ (X.length : Int) - 1) = true := Z37 (by omega)
 have q5 : decide ((X.length : Int) - 1 < (X.length : Int)) = true := Z37 (by omega)
 have q6 : (0 < X.length) = True := eq_true hp
 clear h1 h2 h hB hn1 hn2 hxl hll hrl hX hM cw hp hq
 go_enter Try.func74, Try.ntmps74
 go_wp2_with (first | ((with_reducible refine gate_dst (N := 3) rfl ?_); refine Yx 3 #[.int .i64 x.f0, .int .i64 x.f1, .int .i64 x.f2] 45 ?_; intro gx hgx w2 hbox hb2; have HB2 := Ya (show Below w.heap.size w w2 from HB.out.trans (hb2.mono HB.out.size)); have BK := Ya hbox; clear HB; have HB := HB2; clear HB2 hb2 hbox hgx))
 replace BK := Ya (Z25 BK.out)
 replace HB := Ya (Z4 HB.out)
 refine start_ (n := 13) (S := fun w' => w'.cell? ⟨g1, 0, none⟩ = some (.map (some bm)) ∧ w'.cell? ⟨g2, 0, none⟩ = some (.slice (some aX) X.length cX) ∧ w'.cell? ⟨gx, 0, none⟩ = some (.int .i64 x.f0) ∧ w'.cell? ⟨gx, 1, none⟩ = some (.int .i64 x.f1) ∧ w'.cell? ⟨gx, 2, none⟩ = some (.int .i64 x.f2) ∧ w'.cell? (aX.add (X.length - 1)) = some (.slice Al (rd_L3 X ((X.length : Int) - 1)).length cl) ∧ (Instr.lookup 73 (.map (some bm)) (.int .i64 r) false).run Try.prog w' = .ok (.bool (decide (r ∈ M))) w') (ds := []) (YA 13 0) (by kernel_rfl) rfl rfl ⟨(HB.out.cell (World.block_lt_of_cell? w _ HN1.out)).trans HN1.out, (HB.out.cell (World.block_lt_of_cell? w _ HN2.out)).trans HN2.out, (Z22 BK.out 0).trans rfl, (Z22 BK.out 1).trans rfl, (Z22 BK.out 2).trans rfl, (HB.out.cell (World.block_lt_of_cell? w _ HXL.out)).trans HXL.out, (HM.out.below HB.out).lookup impl_GreedyList.mt impl_GreedyList.mk_ impl_GreedyList.me (impl_GreedyList.zeroB _) HW.out⟩ (fun hHeld => ?_)
 generalize w2.drew = w6 at BK HB hHeld ⊢
 refine Ys 0 (some 5) (YA 13 1) rfl hHeld Q23 ?_
 refine Ys 1 (some 6) (YA 13 3) rfl hHeld Q23 ?_
 refine Ys 2 (some 7) (YA 13 7) rfl hHeld Q23 ?_
 refine Yq 3 (some 8) (YA 13 15) rfl ?_
 refine Yq 4 (some 9) (YA 13 31) rfl ?_
 refine Yq 5 (some 10) (YA 13 63) rfl ?_
 refine Ys 6 (some 11) (YA 13 127) rfl hHeld Q23 ?_
 refine Ys 7 (some 12) (YA 13 255) rfl hHeld Q23 ?_
 refine one_ (i := 8) (N := some 13) (YA 13 511) rfl rfl (by kernel_rfl) (by decide) (fun K hK => ?_)
 refine goes_ Try.func51 (by kernel_rfl) rfl #[.slice Al (rd_L3 X ((X.length : Int) - 1)).length cl, .agg #[.int .i64 x.f0, .int .i64 x.f1, .int .i64 x.f2]] (by rfl) rfl rfl Q51 ?_
 with_reducible refine (impl_moved.calls kq Al cl (rd_L3 X ((X.length : Int) - 1)) x.f0 x.f1 x.f2 u _ (Z21 HRL.out HB.out) HLL.out H1.out).mono ?_
 rintro e w7 ⟨v3, rfl, ho0, hb⟩
 refine ⟨_, rfl, ?_⟩
 obtain ⟨A3, c3, rfl⟩ := Z17 ho0
 have ho1 := Ya (Kd.R_reads' ho0)
 replace HB := Ya (show Below w.heap.size w _ from HB.out.trans (hb.mono HB.out.size))
 replace BK := Ya (Z27 BK.out hb)
 have HO3 := Ya (ho1.out)
 (try clear hb ho0)
 clear ho1
 refine hK.out _ _ ⟨(HB.out.cell (World.block_lt_of_cell? w _ HN1.out)).trans HN1.out, (HB.out.cell (World.block_lt_of_cell? w _ HN2.out)).trans HN2.out, (Z22 BK.out 0).trans rfl, (Z22 BK.out 1).trans rfl, (Z22 BK.out 2).trans rfl, (HB.out.cell (World.block_lt_of_cell? w _ HXL.out)).trans HXL.out, (HM.out.below HB.out).lookup impl_GreedyList.mt impl_GreedyList.mk_ impl_GreedyList.me (impl_GreedyList.zeroB _) HW.out⟩ (fun hHeld => ?_)
 clear hK K
 refine norm_ (a' := ?_) ?_ ?_
 rotate_left
 ·show Act.put _ (some 13) _ = _
  simp only [Act.put, Z0, Z1, Z2, i64_w, i32_w]
  rfl
 refine one_ (i := 9) (N := some 14) (YA 13 1023) rfl rfl (by kernel_rfl) (by decide) (fun K hK => ?_)
 refine goes_ Try.func52 (by kernel_rfl) rfl #[.slice A3 u.length c3] (by rfl) rfl rfl Q51 ?_
 with_reducible refine (impl_permutationRank.calls kq A3 c3 u r _ HO3.out.2.2 HO3.out.2.1 H2.out).mono ?_
 rintro e w8 ⟨rfl, hd⟩
 refine ⟨_, rfl, ?_⟩
 have hb : Below w7.heap.size w7 w8 := by first | exact hd | exact Drawn0.below hd
 clear hd
 replace HB := Ya (show Below w.heap.size w _ from HB.out.trans (hb.mono HB.out.size))
 replace BK := Ya (Z27 BK.out hb)
 skip
 clear HO3
 refine hK.out _ _ ⟨(HB.out.cell (World.block_lt_of_cell? w _ HN1.out)).trans HN1.out, (HB.out.cell (World.block_lt_of_cell? w _ HN2.out)).trans HN2.out, (Z22 BK.out 0).trans rfl, (Z22 BK.out 1).trans rfl, (Z22 BK.out 2).trans rfl, (HB.out.cell (World.block_lt_of_cell? w _ HXL.out)).trans HXL.out, (HM.out.below HB.out).lookup impl_GreedyList.mt impl_GreedyList.mk_ impl_GreedyList.me (impl_GreedyList.zeroB _) HW.out⟩ (fun hHeld => ?_)
 clear hK K
 refine norm_ (a' := ?_) ?_ ?_
 rotate_left
 ·show Act.put _ (some 14) _ = _
  simp only [Act.put, Z0, Z1, Z2, i64_w, i32_w]
  rfl
 refine Ys 10 (some 15) (YA 13 2047) rfl hHeld Q23 ?_
 refine Yq 11 (some 16) (YA 13 4095) rfl ?_
 refine Yq 12 (some 4) (YA 13 8191) rfl ?_
 refine done_ (by kernel_rfl) ?_
 try go_wp2
 go_ret
 exact ⟨rfl, HB.out⟩
open Go.Proofs.Ytllhnnjkonghlaa.MapSet in
set_option maxHeartbeats 8000000 in
set_option maxRecDepth 100000 in
theorem impl_GreedyList.calls (k : Nat) (a0 : Int) (A1 : Option Addr) (c1 : Nat) (l1 : List (S45)) (r1 : List (List Int)) (r2 : Bool) (w : World) (hr1 : Kd.C k45 w A1 l1.length l1) (hc1 : l1.length ≤ c1) (h : impl_GreedyList.f k a0 l1 = some (r1, r2)) :
  Calls Try.prog 33 #[.int .i64 a0, .slice A1 l1.length c1] w fun e w' => ∃ v0_ : Value, e = .returned (.tuple #[v0_, .bool r2]) ∧ Kd.S (Kd.slice 3 (Kd.int .i64)) 24 w' w.heap.size (fun _ => True) v0_ r1 ∧ Below w.heap.size w w' := by
 have hu := Try.underlying45
 have HR1 := Ya hr1
 have HC1 := Ya hc1
 unfold impl_GreedyList.f at h
 obtain ⟨t1, h1, H⟩ := Z35.mp h
 have T1 := Ya h1
 clear h h1 hr1 hc1
 cases t1
 ·simp only [Bool.false_eq_true, if_false, Option.some.injEq, Prod.mk.injEq] at H
  obtain ⟨rfl, rfl⟩ := H
  go_enter Try.func33, Try.ntmps33
  go_wp2_with fail
  refine (impl_areMoves.calls k a0 A1 c1 l1 false _ HR1.out HC1.out T1.out).mono ?_
  rintro e w1 ⟨rfl, hb1⟩
  go_wp2
  go_ret2
  exact ⟨_, rfl, Kd.S_nil _ _ _ _ _, hb1⟩
 simp only [if_true] at H
 obtain ⟨s0, h2, H⟩ := Z35.mp H
 obtain ⟨XX, h3, H⟩ := Z35.mp H
 simp only [Option.some.injEq, Prod.mk.injEq] at H
 obtain ⟨rfl, rfl⟩ := H
 have T2 := Ya h2
 have H3 := Ya h3
 have hmm := @run_makeMap Try.prog
 clear h2 h3
 go_enter Try.func33, Try.ntmps33
 go_wp2_with fail
 refine (impl_areMoves.calls k a0 A1 c1 l1 true _ HR1.out HC1.out T1.out).mono ?_
 rintro e w1 ⟨rfl, hb1⟩
 have HB1 := Ya hb1
 clear hb1
 go_wp2_with fail
 refine (impl_identity.calls k a0 s0 _ T2.out).mono ?_
 rintro e w3 ⟨v3, rfl, ho3, hb3⟩
 obtain ⟨Af, cf, rfl⟩ := Z17 ho3
 have HF := Ya (Kd.R_lower ho3 HB1.out.size)
 have HB := Ya (HB1.out.trans (hb3.mono HB1.out.size))
 clear ho3 hb3 HB1
 go_wp2_with (first | ((with_reducible refine gate_dst (N := 16) rfl ?_); refine Kd.R_lit (Kd.tag (fun _ => 0) (Kd.slice 3 (Kd.int .i64))) (w0 := w) w.heap.size 24 ?hg (N := 16) ?hd (xs := [(s0, 0)]) (inner := [.slice Af s0.length cf]) (ok := fun _ => True) (okp := fun k_ => some k_ = (.slice Af s0.length cf : Value).ownBlock) ?hr ?hp (fun _ hk => trivial) trivial HB.out HB.out.size (by simp) ?_; (case hd => rfl); (case hg => rfl); (case hr => first | (go_simp; done) | (go_simp; rfl)); (case hp => exact (Reps.one (show Kd.M (Kd.tag (fun _ => 0) (Kd.slice 3 (Kd.int .i64))) _ _ _ (s0, 0) [.slice Af s0.length cf] from ⟨_, rfl, Z12 (Kd.R_tight rfl HF.out) (fun _ hk => ⟨hk, rfl⟩)⟩) (Reps.none _ _))); intro v4 w4 ho4 hb4 hg4 hnew4; have HF4 := Ya (Kd.R_grown HF.out hg4 (fun _ _ e => by cases e)); have HO4 := Ya (show Kd.S (Kd.slice 3 (Kd.int .i64)) 24 w4 w.heap.size (fun _ => True) v4 [s0] from ⟨_, ho4⟩); have HB4 := Ya hb4; clear HF HB ho4 hb4 hg4 hnew4; obtain ⟨A4, c4, e4⟩ := Z17 (Kd.S_R HO4.out); subst e4; have HO5 := Ya (Kd.S_alloc (Kd.S_mono (Kd.S_bound HO4.out) (fun k hk => (hk.2.2.1 : k < w4.heap.size))) (.map #[] 0)); have HM5 := Ya (MSet.made w4 Try.prog 3 4); have HB5 := Ya (Z5 HB4.out (.map #[] 0)); have HG4 := Ya HB4.out.size; clear HO4 HF4 HB4) | ((with_reducible refine wpList_insert rfl (.tmp 17) (.const (.int .i64 0)) (.const (.bool true)) rfl impl_GreedyList.mt impl_GreedyList.mk_ impl_GreedyList.me rfl HM5.out (by unfold maxLen; decide) 0 (by decide) rfl rfl ?_); intro w5 hm5 hg5; have HM6 := Ya (show MSet Try.prog 3 4 w5 w4.heap.size [0] from hm5); have HO6 := Ya (Kd.S_step HO5.out (fun k_ hk h_ => hg5.block k_ h_ (fun e_ => by injection e_ with e_; rw [e_] at hk; exact absurd hk (Nat.lt_irrefl _)))); have HB6 := Ya (HB5.out.grown hg5 HB5.out.size (fun j hj => by cases hj; exact HG4.out)); clear HM5 HO5 HB5 hm5 hg5) | ((with_reducible refine gate_dst (N := 6) rfl ?_); refine Yx 6 #[.slice none 0 0] 50 ?_; intro go hgo w6 hbox hb; have BO6 := Ya hbox; have HLT := Ya (show w4.heap.size ≤ go by rw [hgo]; exact Nat.le_of_lt HM6.out.lt); have HGO := Ya (show w.heap.size ≤ go by rw [hgo]; exact HB6.out.size); have HM7 := Ya (HM6.out.below hb); have HO7 := Ya (Kd.S_below HO6.out hb); have HB7 := Ya (HB6.out.trans (hb.mono HB6.out.size)); have hx6 : w6.cell? ⟨go, 0, none⟩ = some (.slice none 0 0) := (Z22 hbox 0).trans rfl; have hf6 : w6.frozen? ⟨go, 0, none⟩ = false := Z23 hbox 0; clear HM6 HO6 HB6 hbox hb hgo) | ((with_reducible refine gate_dst (N := 7) rfl ?_); refine Yx 7 #[.map none] 73 ?_; intro gm hgm w7 hbox hb; have BM7 := Ya hbox; have HLM := Ya (show w4.heap.size ≤ gm by rw [hgm]; exact Nat.le_of_lt HM7.out.lt); have BO7 := Ya (Z27 BO6.out hb); have HGM := Ya (show w.heap.size ≤ gm by rw [hgm]; exact HB7.out.size); have HM8 := Ya (HM7.out.below hb); have HO8 := Ya (Kd.S_below HO7.out hb); have HB8 := Ya (HB7.out.trans (hb.mono HB7.out.size)); have hx7 : w7.cell? ⟨gm, 0, none⟩ = some (.map none) := (Z22 hbox 0).trans rfl; have hf7 : w7.frozen? ⟨gm, 0, none⟩ = false := Z23 hbox 0; have hx6' : w7.cell? ⟨go, 0, none⟩ = some (.slice none 0 0) := (Z22 BO7.out 0).trans rfl; have hf6' : w7.frozen? ⟨go, 0, none⟩ = false := Z23 BO7.out 0; have HNE := Ya (blk_ne BO7.out BM7.out (by decide)); clear HM7 HO7 HB7 BO6 hbox hb hgm hx6 hf6) | ((with_reducible refine gate_store (t := 50) (p := 6) rfl ?_); refine store_event (t := 50) (p := 6) (v := ?vo_1) (w1 := (w7.setCell ⟨go, 0, none⟩ (.slice A4 [s0].length c4))) ?hg ?ho ?hn ?hr ?_; (case ho => rfl); (case hg => rfl); (case hn => rfl); (case hr => first | (go_simp; done) | (go_simp; rfl)); intro w8 hw; have BO8 := Ya (show w8.heap[go]? = some (.cells #[.slice A4 [s0].length c4] 50 (0, 0)) by rw [hw]; exact Z28 BO7.out 0 _ rfl); have BM8 := Ya (show w8.heap[gm]? = some (.cells #[.map none] 73 (0, 0)) by rw [hw]; exact blk_far BM7.out (Ne.symm HNE.out) _); have HM9 := Ya (show MSet Try.prog 3 4 w8 w4.heap.size [0] by rw [hw]; exact HM8.out.setCell (HM8.out.block BO7.out) _); have HO9 := Ya (show Kd.S (Kd.slice 3 (Kd.int .i64)) 24 w8 w.heap.size (fun k_ => k_ < w4.heap.size) (.slice A4 [s0].length c4) [s0] by rw [hw]; exact Kd.S_step HO8.out (fun k_ hk h_ => Below.heap_setCell w7 _ _ k_ (fun e_ => by have h1_ := HLT.out; rw [e_] at hk; exact absurd hk (Nat.not_lt.2 h1_)))); have HB9 := Ya (show Below w.heap.size w w8 by rw [hw]; exact Z6 HB8.out HGO.out); have hx7' : w8.cell? ⟨gm, 0, none⟩ = some (.map none) := (Z22 BM8.out 0).trans rfl; have hf7' : w8.frozen? ⟨gm, 0, none⟩ = false := Z23 BM8.out 0; clear HM8 HO8 HB8 BM7 hx6' hf6' hx7 hf7 hw) | ((with_reducible refine gate_store (t := 73) (p := 7) rfl ?_); refine store_event (t := 73) (p := 7) (v := ?vo_2) (w1 := (w8.setCell ⟨gm, 0, none⟩ (.map (some w4.heap.size)))) ?hg ?ho ?hn ?hr ?_; (case ho => rfl); (case hg => rfl); (case hn => rfl); (case hr => first | (go_simp; done) | (go_simp; rfl)); intro w9 hw; have BO9 := Ya (show w9.heap[go]? = some (.cells #[.slice A4 [s0].length c4] 50 (0, 0)) by rw [hw]; exact blk_far BO8.out HNE.out _); have HM10 := Ya (show MSet Try.prog 3 4 w9 w4.heap.size [0] by rw [hw]; exact HM9.out.setCell (HM9.out.block BM8.out) _); have BM9 := Ya (show w9.heap[gm]? = some (.cells #[.map (some w4.heap.size)] 73 (0, 0)) by rw [hw]; exact Z28 BM8.out 0 _ rfl); have HO10 := Ya (show Kd.S (Kd.slice 3 (Kd.int .i64)) 24 w9 w.heap.size (fun k_ => k_ ≠ go ∧ k_ ≠ gm ∧ k_ ≠ w4.heap.size) (.slice A4 [s0].length c4) [s0] by rw [hw]; exact Kd.S_mono (Kd.S_step HO9.out (fun k_ hk h_ => Below.heap_setCell w8 _ _ k_ (fun e_ => by have h1_ := HLM.out; rw [e_] at hk; exact absurd hk (Nat.not_lt.2 h1_)))) (fun k_ hk => ⟨fun e_ => by have h1_ := HLT.out; rw [e_] at hk; exact absurd hk (Nat.not_lt.2 h1_), fun e_ => by have h1_ := HLM.out; rw [e_] at hk; exact absurd hk (Nat.not_lt.2 h1_), fun e_ => by rw [e_] at hk; exact absurd hk (Nat.lt_irrefl _)⟩)); have HB10 := Ya (show Below w.heap.size w w9 by rw [hw]; exact Z6 HB9.out HGM.out); clear HM9 HO9 HB9 BO8 BO7 BM8 hx7' hf7' hw))
 clear hmm
 obtain ⟨bm, hbm⟩ : ∃ b_ : Nat, b_ = w4.heap.size := ⟨_, rfl⟩
 rw [← hbm] at HM10 BM9 HO10
 have HGB := Ya (show w.heap.size ≤ bm by rw [hbm]; exact HG4.out)
 clear hbm HLT HLM HG4
 (try simp only [Act.put, Z0, Z2, Z1])
 go_loopg [8, 9] k (fun kq v8 v9 w' => ∃ (X : List (List Int)) (M : List Int) (vo : Value), Aside0 (impl_GreedyList.l0 kq l1 X M = some XX) ∧ Aside0 (kq ≤ k) ∧ Aside0 (Kd.S (Kd.slice 3 (Kd.int .i64)) 24 w' w.heap.size (fun k_ => k_ ≠ go ∧ k_ ≠ gm ∧ k_ ≠ bm) vo X) ∧ Aside0 (w'.heap[go]? = some (.cells #[vo] 50 (0, 0))) ∧ Aside0 (w'.heap[gm]? = some (.cells #[.map (some bm)] 73 (0, 0))) ∧ Aside0 (MSet Try.prog 3 4 w' bm M) ∧ Aside0 (Below w.heap.size w w'))
 case atStart => exact ⟨[s0], [0], _, H3, ⟨Nat.le_refl _⟩, HO10, BO9, BM9, HM10, HB10⟩
 case round =>
  clear H3 HO10 BO9 BM9 HM10 HB10
  obtain ⟨X, M, vo, HA, HK1, HO, BO, BM, HM, HB⟩ := hrel
  cases gk with
  | zero => exact absurd HA.out (by simp [impl_GreedyList.l0])
  | succ k1 =>
   have H := HA.out
   clear HA
   simp only [impl_GreedyList.l0] at H
   by_cases hp : 0 < X.length
   rotate_left
   ·rw [if_neg hp] at H; cases H
   rw [if_pos hp] at H
   by_cases hq : X.length < 1000000
   rotate_left
   ·rw [if_neg hq] at H; cases H
   rw [if_pos hq] at H
   by_cases hml : M.length < 1000000
   rotate_left
   ·rw [if_neg hml] at H; cases H
   rw [if_pos hml] at H
   obtain ⟨r, hr, H⟩ := Z35.mp H
   have HR := Ya hr
   have HML := Ya hml
   have HPX := Ya hp
   have HQX := Ya hq
   obtain ⟨AX, cX, eX⟩ := Z17 (Kd.S_R HO.out)
   subst eX
   have hx6 : wr.cell? ⟨go, 0, none⟩ = some (.slice AX X.length cX) := (Z22 BO.out 0).trans rfl
   clear hr hml hp hq
   by_cases cr : r < 0
   ·rw [if_pos cr] at H
    have cb2 : decide (r < 0) = true := Z37 cr
    clear cr
    obtain rfl := Option.some.inj H
    clear H
    go_wp2_with fail
    refine (impl_GreedyList.index (impl_GreedyList.g M (rd_L3 X ((X.length : Int) - 1))) gm go k1 A1 c1 l1 r wr (Z21 HR1.out HB.out) HC1.out (fun kq x t w' hB h => impl_GreedyList.lam M X bm AX cX gm go wr (Kd.R_reads' (Kd.S_R HO.out)).2.2 HPX.out HQX.out ((Z22 BM.out 0).trans rfl) ((Z22 BO.out 0).trans rfl) HM.out kq x t w' hB h) HR.out).mono ?_
    rintro e w5 ⟨rfl, hb⟩
    have HB5 := Ya (HB.out.trans (hb.mono HB.out.size))
    have HO5 := Ya (Kd.S_below HO.out hb)
    have hx5 : w5.cell? ⟨go, 0, none⟩ = some (.slice AX X.length cX) := (Z22 (Z27 BO.out hb) 0).trans rfl
    clear hb hx6
    go_wp2
    go_ret2
    exact ⟨_, rfl, Kd.S_mono HO5.out (fun _ _ => trivial), HB5.out⟩
   ·rw [if_neg cr] at H
    have cb2 : decide (r < 0) = false := Z36 cr
    by_cases cq : r < (l1.length : Int)
    rotate_left
    ·rw [if_neg cq] at H; cases H
    rw [if_pos cq] at H
    obtain ⟨nx, hnx, H⟩ := Z35.mp H
    obtain ⟨q, hq, H⟩ := Z35.mp H
    by_cases cw : (Lit.int .i64 q).wf = true
    rotate_left
    ·rw [if_neg cw] at H; cases H
    rw [if_pos cw] at H
    have T4 := Ya hnx
    have T5 := Ya hq
    have HWQ := Ya cw
    have H' := Ya H
    have p2 : 0 ≤ r := by omega
    clear hnx hq cw H
    ·go_wp2_with fail
     refine (impl_GreedyList.index (impl_GreedyList.g M (rd_L3 X ((X.length : Int) - 1))) gm go k1 A1 c1 l1 r wr (Z21 HR1.out HB.out) HC1.out (fun kq x t w' hB h => impl_GreedyList.lam M X bm AX cX gm go wr (Kd.R_reads' (Kd.S_R HO.out)).2.2 HPX.out HQX.out ((Z22 BM.out 0).trans rfl) ((Z22 BO.out 0).trans rfl) HM.out kq x t w' hB h) HR.out).mono ?_
     rintro e w5 ⟨rfl, hb⟩
     replace HB := Ya (HB.out.trans (hb.mono HB.out.size))
     replace HO := Ya (Kd.S_below HO.out hb)
     replace BO := Ya (Z27 BO.out hb)
     replace BM := Ya (Z27 BM.out hb)
     replace HM := Ya (HM.out.below hb)
     clear hb hx6
     obtain ⟨aX, Al, cl, eaX, hx4, hle4, hie4⟩ := at_L3 (Kd.R_reads' (Kd.S_R HO.out)).2.2 ((X.length : Int) - 1) (by have := HPX.out; omega) (by omega)
     cases eaX
     rw [show ((X.length : Int) - 1).toNat = X.length - 1 from by omega] at hx4
     have HLE := Ya hle4
     have HIE := Ya hie4
     obtain ⟨ad1, ead1, hy0, hy1, hy2⟩ := at_T45 HR1.out r p2 cq
     cases ead1
     replace hy0 := (HB.out.cell (World.block_lt_of_cell? w _ hy0)).trans hy0
     replace hy1 := (HB.out.cell (World.block_lt_of_cell? w _ hy1)).trans hy1
     replace hy2 := (HB.out.cell (World.block_lt_of_cell? w _ hy2)).trans hy2
     have hx3 : w5.cell? ⟨go, 0, none⟩ = some (.slice (some aX) X.length cX) := (Z22 BO.out 0).trans rfl
     have hw1 : IntKind.i64.wrap ((X.length : Int) - 1) = (X.length : Int) - 1 := IntWalk.i64_in _ (by have := HPX.out; have := HQX.out; omega)
     have pp := eq_true p2
     have pq := eq_true cq
     have q0 : (0 ≤ (X.length : Int) - 1) = True := eq_true (by have := HPX.out; omega)
     have q1 : (1 ≤ (X.length : Int)) = True := eq_true (by have := HPX.out; omega)
     have q2 : ((X.length : Int) - 1 < (X.length : Int)) = True := eq_true (by omega)
     have q3 : (1 ≤ X.length) = True := eq_true (by have := HPX.out; omega)
     have q6 : (0 < X.length) = True := eq_true HPX.out
     clear p2 cq cr hle4 hie4
     go_wp2_with fail
     replace HO := Ya (Kd.S_drew HO.out)
     replace HB := Ya (Z4 HB.out)
     replace HIE := Ya (Z20 HIE.out)
     replace BO := Ya (Z25 BO.out)
     replace BM := Ya (Z25 BM.out)
     replace HM := Ya (HM.out.drew)
     refine start_ (n := 12) (S := fun w' => w'.cell? ⟨go, 0, none⟩ = some (.slice (some aX) X.length cX) ∧ w'.cell? (aX.add (X.length - 1)) = some (.slice Al (rd_L3 X ((X.length : Int) - 1)).length cl) ∧ w'.cell? (ad1.add (r.toNat * 3)) = some (.int .i64 (rd_T45 l1 r).f0) ∧ w'.cell? ⟨(ad1.add (r.toNat * 3)).block, (ad1.add (r.toNat * 3)).off + 1, none⟩ = some (.int .i64 (rd_T45 l1 r).f1) ∧ w'.cell? ⟨(ad1.add (r.toNat * 3)).block, (ad1.add (r.toNat * 3)).off + 2, none⟩ = some (.int .i64 (rd_T45 l1 r).f2)) (ds := []) (YA 12 0) (by kernel_rfl) rfl rfl ⟨hx3, hx4, hy0, hy1, hy2⟩ (fun hHeld => ?_)
     generalize w5.drew = w6 at HO HB HIE BO BM HM hHeld ⊢
     clear hx3 hx4 hy0 hy1 hy2
     refine Yq 6 (some 31) (YA 12 64) rfl ?_
     refine Yq 7 (some 32) (YA 12 192) rfl ?_
     refine Yq 8 (some 33) (YA 12 448) rfl ?_
     refine Ys 0 (some 25) (YA 12 449) rfl hHeld Q44 ?_
     refine Ys 1 (some 26) (YA 12 451) rfl hHeld Q44 ?_
     refine Yq 2 (some 27) (YA 12 455) rfl ?_
     refine Yq 3 (some 28) (YA 12 463) rfl ?_
     refine Yq 4 (some 29) (YA 12 479) rfl ?_
     refine Ys 5 (some 30) (YA 12 511) rfl hHeld Q44 ?_
     refine Ys 9 (some 34) (YA 12 1023) rfl hHeld Q44 ?_
     refine one_ (i := 10) (N := some 35) (YA 12 2047) rfl rfl (by kernel_rfl) (by decide) (fun K hK => ?_)
     refine goes_ Try.func51 (by kernel_rfl) rfl #[.slice Al (rd_L3 X ((X.length : Int) - 1)).length cl, .agg #[.int .i64 (rd_T45 l1 r).f0, .int .i64 (rd_T45 l1 r).f1, .int .i64 (rd_T45 l1 r).f2]] (by rfl) rfl rfl Q51 ?_
     with_reducible refine (impl_moved.calls k1 Al cl (rd_L3 X ((X.length : Int) - 1)) _ _ _ nx _ HIE.out HLE.out T4.out).mono ?_
     rintro e w7 ⟨v7, rfl, ho7, hb⟩
     refine ⟨_, rfl, ?_⟩
     have hs0 := (hb.cell (World.block_lt_of_cell? _ _ (hHeld.1))).trans (hHeld.1)
     have hs1 := (hb.cell (World.block_lt_of_cell? _ _ (hHeld.2.1))).trans (hHeld.2.1)
     have hs2 := (hb.cell (World.block_lt_of_cell? _ _ (hHeld.2.2.1))).trans (hHeld.2.2.1)
     have hs3 := (hb.cell (World.block_lt_of_cell? _ _ (hHeld.2.2.2.1))).trans (hHeld.2.2.2.1)
     have hs4 := (hb.cell (World.block_lt_of_cell? _ _ (hHeld.2.2.2.2))).trans (hHeld.2.2.2.2)
     obtain ⟨An, cn, rfl⟩ := Z17 ho7
     have HL7 := Ya (Kd.R_lower ho7 HB.out.size)
     have n0_ := Ya (Kd.S_elder' HO.out (Kd.R_base ho7) hb)
     have n1_ := Ya (HB.out.trans (hb.mono HB.out.size))
     have n2_ := Ya (Z27 BO.out hb)
     have n3_ := Ya (Z27 BM.out hb)
     have n4_ := Ya (HM.out.below hb)
     have HS7 := Ya (⟨hs0, hs1, hs2, hs3, hs4⟩ : _ ∧ _ ∧ _ ∧ _ ∧ _)
     clear HO HB BO BM HM ho7 hb hs0 hs1 hs2 hs3 hs4
     have HO := n0_
     have HB := n1_
     have BO := n2_
     have BM := n3_
     have HM := n4_
     clear n0_ n1_ n2_ n3_ n4_
     refine hK.out _ _ ⟨HS7.out.1, HS7.out.2.1, HS7.out.2.2.1, HS7.out.2.2.2.1, HS7.out.2.2.2.2⟩ (fun hHeld => ?_)
     clear hK K
     refine norm_ (a' := ?_) ?_ ?_
     rotate_left
     ·show Act.put _ (some 35) _ = _
      simp only [Act.put, Z0, Z1, Z2, i64_w, i32_w]
      rfl
     refine Yq 11 (some 9) (YA 12 4095) rfl ?_
     refine done_ (by kernel_rfl) ?_
     clear hw1 pp pq q0 q1 q2 q3 q6 HS7 HIE HLE
     go_wp2_with fail
     obtain ⟨w9, hw9⟩ : ∃ w9 : World, w9 = w7 := ⟨_, rfl⟩
     subst hw9
     replace HO := Ya (Kd.S_drew HO.out)
     replace HB := Ya (Z4 HB.out)
     replace BO := Ya (Z25 BO.out)
     replace BM := Ya (Z25 BM.out)
     replace HM := Ya (HM.out.drew)
     replace HL7 := Ya (Z11 HL7.out)
     refine start_ (n := 4) (S := fun w' => w'.cell? ⟨gm, 0, none⟩ = some (.map (some bm))) (ds := [3]) #[false, false, false, false] (by kernel_rfl) rfl rfl ((Z22 BM.out 0).trans rfl) (fun hHeld => ?_)
     generalize w9.drew = w10 at HO HB BO BM HM HL7 hHeld ⊢
     refine Yq 1 (some 37) #[false, true, false, false] rfl ?_
     refine take_ (i := 0) (N := some 36) (v := ?_) (a' := ?_) #[true, true, false, false] rfl rfl (by kernel_rfl) (fun _ _ _ h => h) (Or.inl ⟨by rfl, ?_⟩) hHeld ?_ ?_
     rotate_left
     ·intro w' s0
      go_simp
      with_reducible rfl
     rotate_left
     ·simp only [Act.put, Z0, Z1, Z2, i64_w, i32_w]
      rfl
     refine one_ (i := 2) (N := some 38) #[true, true, true, false] rfl rfl (by kernel_rfl) (by decide) (fun K hK => ?_)
     refine goes_ Try.func52 (by kernel_rfl) rfl #[.slice An nx.length cn] (by rfl) rfl rfl Q51 ?_
     with_reducible refine (impl_permutationRank.calls k1 An cn nx q _ (Kd.R_reads' HL7.out).2.2 (Kd.R_reads' HL7.out).2.1 T5.out).mono ?_
     rintro e w11 ⟨rfl, hd⟩
     refine ⟨_, rfl, ?_⟩
     have hb : Below w10.heap.size w10 w11 := by first | exact hd | exact Drawn0.below hd
     clear hd
     replace HO := Ya (Kd.S_below HO.out hb)
     replace HB := Ya (HB.out.trans (hb.mono HB.out.size))
     replace BO := Ya (Z27 BO.out hb)
     replace BM := Ya (Z27 BM.out hb)
     replace HM := Ya (HM.out.below hb)
     replace HL7 := Ya (Z14 HL7.out hb)
     clear hb
     refine hK.out _ _ ((Z22 BM.out 0).trans rfl) (fun hHeld => ?_)
     clear hK K
     refine norm_ (a' := ?_) ?_ ?_
     rotate_left
     ·show Act.put _ (some 38) _ = _
      simp only [Act.put, Z0, Z1, Z2, i64_w, i32_w]
      rfl
     refine last_ (i := 3) (N := none) #[true, true, true, true] rfl rfl (by kernel_rfl) (by decide) (fun K hK => ?_)
     obtain ⟨w12, hrun, hm12, hg12⟩ := HM.out.store impl_GreedyList.mt impl_GreedyList.mk_ impl_GreedyList.me HWQ.out (by have := HML.out; unfold maxLen; omega)
     refine skip_ (w1 := ?_) (by rfl) rfl ?_ ?_
     rotate_left
     ·go_simp
      rfl
     refine hK.out _ _ ?_
     clear hK K
     refine done_ (by kernel_rfl) ?_
     have HM12 := Ya hm12
     have BO12 := Ya (blk_grown BO.out hg12 (fun e_ => by injection e_ with e_; exact HM.out.block BO.out e_.symm))
     have BM12 := Ya (blk_grown BM.out hg12 (fun e_ => by injection e_ with e_; exact HM.out.block BM.out e_.symm))
     have HO12 := Ya (Kd.S_step HO.out (fun k_ hk h_ => hg12.block k_ h_ (fun e_ => by injection e_ with e_; exact hk.1.2.2 e_)))
     have HL12 := Ya (Kd.R_step (Kd.R_bound HL7.out) (fun k_ hk h_ => hg12.block k_ h_ (fun e_ => by
      injection e_ with e_
      obtain ⟨_, _, hc_⟩ := hk.2.2.2
      obtain ⟨cells_, hc_⟩ := hc_
      rw [e_] at hc_
      exact HM.out.block hc_ rfl)))
     have HB12 := Ya (HB.out.grown hg12 HB.out.size (fun j hj => by cases hj; exact HGB.out))
     have hx12 : w12.cell? ⟨go, 0, none⟩ = some (.slice (some aX) X.length cX) := (Z22 BO12.out 0).trans rfl
     clear HO HB BO BM HM HL7 hrun hm12 hg12
     obtain ⟨Y, hY⟩ : ∃ Y_ : List (List Int), Y_ = X ++ [nx] := ⟨_, rfl⟩
     have NY := Ya hY
     rw [← hY] at H'
     clear hY
     go_wp2_with (first | ((with_reducible refine gate_builtin (b := .append) (xs := #[.tmp 39, .tmp 41]) rfl ?_); at_builtin; refine Kd.S_append (Kd.slice 3 (Kd.int .i64)) (w0 := w) w.heap.size rfl (.tmp 39) (.tmp 41) 50 24 (.slice none 0 0) 24 rfl Try.underlying50 info24 rfl (by decide) (by omega) (.slice (some aX) X.length cX) X nx [.slice An nx.length cn] (fun k_ => k_ ≠ go ∧ k_ ≠ gm ∧ k_ ≠ bm) (fun k_ => some k_ = (.slice An nx.length cn : Value).ownBlock) rfl rfl ?aP ?aK ?aF ?aO ?aB ?aS ?aL ?_; (case aP => exact Kd.M_row (Z12 (Kd.R_tight rfl HL12.out) (fun _ hk => hk))); (case aK => exact (fun k_ hk_ => by
      obtain ⟨_, h2_, h3_, q_, hq_, cells_, hc_⟩ := (Kd.R_bound HL12.out).1 k_ hk_.symm
      have ht_ : q_ = 3 := by simpa [show (Kd.int .i64).E = [] from rfl] using hq_
      refine ⟨⟨fun e_ => ?_, fun e_ => ?_, fun e_ => ?_⟩, ((Kd.R_apart' HL12.out (Kd.S_typed HO12.out) (by decide)).1 k_ hk_.symm).2⟩
      ·rw [e_] at hc_; exact blk_ne hc_ BO12.out (by rw [ht_]; decide) rfl
      ·rw [e_] at hc_; exact blk_ne hc_ BM12.out (by rw [ht_]; decide) rfl
      ·rw [e_] at hc_; exact HM12.out.block hc_ rfl)); (case aB => exact HB12.out); (case aF => exact (fun k_ hk => ⟨by have := blk_lt BO12.out; omega, by have := blk_lt BM12.out; omega, by have := HM12.out.lt; omega⟩)); (case aO => exact (Kd.S_mono HO12.out (fun k_ hk => ⟨hk.1, fun e_ => hk.2 e_⟩))); (case aS => exact HB12.out.size); (case aL => have := HQX.out; omega); intro v13 w13 ho13 hb13 hg13 hat13; rw [← NY.out] at ho13; have HO13 := Ya ho13; have HB13 := Ya hb13; have BO13 := Ya (blk_grown BO12.out hg13 (fun e_ => ((Kd.S_R HO12.out).1 go e_.symm).1.1 rfl)); have BM13 := Ya (blk_grown BM12.out hg13 (fun e_ => ((Kd.S_R HO12.out).1 gm e_.symm).1.2.1 rfl)); have HM13 := Ya (HM12.out.kept hg13 (fun e_ => ((Kd.S_R HO12.out).1 bm e_.symm).1.2.2 rfl)); obtain ⟨A13, c13, e13⟩ := Z17 (Kd.S_R HO13.out); subst e13; have hx13 : w13.cell? ⟨go, 0, none⟩ = some (.slice (some aX) X.length cX) := (Z22 BO13.out 0).trans rfl; have hf13 : w13.frozen? ⟨go, 0, none⟩ = false := Z23 BO13.out 0; clear HL12 HO12 HB12 BO12 BM12 HM12 hx12 ho13 hb13 hg13 hat13) | ((with_reducible refine gate_store (t := 50) (p := 6) rfl ?_); refine store_event (t := 50) (p := 6) (v := ?vo_3) (w1 := (w13.setCell ⟨go, 0, none⟩ (.slice A13 Y.length c13))) ?hg ?ho ?hn ?hr ?_; (case ho => rfl); (case hg => rfl); (case hn => rfl); (case hr => first | (go_simp; done) | (go_simp; rfl)); intro w14 hw; have BO14 := Ya (show w14.heap[go]? = some (.cells #[.slice A13 Y.length c13] 50 (0, 0)) by rw [hw]; exact Z28 BO13.out 0 _ rfl); have BM14 := Ya (show w14.heap[gm]? = some (.cells #[.map (some bm)] 73 (0, 0)) by rw [hw]; exact blk_far BM13.out (Ne.symm HNE.out) _); have HM14 := Ya (show MSet Try.prog 3 4 w14 bm _ by rw [hw]; exact HM13.out.setCell (HM13.out.block BO13.out) _); have HO14 := Ya (show Kd.S (Kd.slice 3 (Kd.int .i64)) 24 w14 w.heap.size (fun k_ => k_ ≠ go ∧ k_ ≠ gm ∧ k_ ≠ bm) (.slice A13 Y.length c13) Y by rw [hw]; exact Kd.S_step HO13.out (fun k_ hk h_ => Below.heap_setCell w13 _ _ k_ hk.1)); have HB14 := Ya (show Below w.heap.size w w14 by rw [hw]; exact Z6 HB13.out HGO.out); clear HO13 HB13 BO13 BM13 HM13 hx13 hf13 hw))
     go_roundg k1
     case measure => have := HK1.out; omega
     case rel => exact ⟨Y, _, _, H', ⟨Q28⟩, HO14, BO14, BM14, HM14, HB14⟩
def spec_l1In.f (a0 : Int) (a1 : Int) (a2 : Int) : Option (Bool) := if a0 ≥ a1 then (some (decide (a0 ≤ a2))) else (some false)
set_option maxHeartbeats 8000000 in
set_option maxRecDepth 100000 in
theorem spec_l1In.calls (a0 : Int) (a1 : Int) (a2 : Int) (r : Bool) (w : World) (h : spec_l1In.f a0 a1 a2 = some r) :
  Calls Try.prog 42 #[.int .i64 a0, .int .i64 a1, .int .i64 a2] w fun e w' => e = .returned (.bool r) ∧ Drawn0 w w' := by
 have H : (if a0 ≥ a1 then (some (decide (a0 ≤ a2))) else (some false)) = some r := h
 clear h
 by_cases c4 : a0 ≥ a1
 ·rw [if_pos c4] at H
  have c4b0 : decide (a1 ≤ a0) = true := Z37 c4
  clear c4
  obtain rfl := Option.some.inj H
  go_enter Try.func42, Try.ntmps42
  go_wp2
  go_ret
  exact ⟨Q18, Q7⟩
 ·rw [if_neg c4] at H
  have c4b0 : decide (a1 ≤ a0) = false := Z36 c4
  clear c4
  obtain rfl := Option.some.inj H
  go_enter Try.func42, Try.ntmps42
  go_wp2
  go_ret
  exact ⟨Q18, Q7⟩
def spec_moGood.f (a0 : Int) (a1_0 : Int) (a1_1 : Int) (a1_2 : Int) : Option (Bool) := if a1_0 = 0 then ((spec_l1In.f a1_2 1 (wrap64 (a0 - 1))).bind fun t286 => (if t286 = true then ((spec_l1In.f a1_1 0 (wrap64 (a1_2 - 1))).bind fun t287 => (some t287)) else (some false))) else (if a1_0 = 1 then ((spec_l1In.f a1_1 2 a0).bind fun t288 => (if t288 = true then (some (a1_2 == 0)) else (some false))) else (if a1_0 = 2 then ((spec_l1In.f a1_1 2 a0).bind fun t289 => (if t289 = true then (some (a1_2 == 0)) else (some false))) else (some false)))
set_option maxHeartbeats 8000000 in
set_option maxRecDepth 100000 in
theorem spec_moGood.calls (a0 : Int) (a1_0 : Int) (a1_1 : Int) (a1_2 : Int) (r : Bool) (w : World) (h : spec_moGood.f a0 a1_0 a1_1 a1_2 = some r) :
  Calls Try.prog 81 #[.int .i64 a0, .agg #[.int .i64 a1_0, .int .i64 a1_1, .int .i64 a1_2]] w fun e w' => e = .returned (.bool r) ∧ Below w.heap.size w w' := by
 have hu45 := Try.underlying45
 have HB := Ya (Below.refl w.heap.size w)
 have H : (if a1_0 = 0 then ((spec_l1In.f a1_2 1 (wrap64 (a0 - 1))).bind fun t286 => (if t286 = true then ((spec_l1In.f a1_1 0 (wrap64 (a1_2 - 1))).bind fun t287 => (some t287)) else (some false))) else (if a1_0 = 1 then ((spec_l1In.f a1_1 2 a0).bind fun t288 => (if t288 = true then (some (a1_2 == 0)) else (some false))) else (if a1_0 = 2 then ((spec_l1In.f a1_1 2 a0).bind fun t289 => (if t289 = true then (some (a1_2 == 0)) else (some false))) else (some false)))) = some r := h
 clear h
 by_cases c3 : a1_0 = 0
 ·rw [if_pos c3] at H
  have c3b0 : (a1_0 == 0) = true := beq_iff_eq.mpr c3
  have c3b1 : (a1_0 != 0) = false := bne_eq_false_iff_eq.mpr c3
  clear c3
  replace H := Z35.mp H
  obtain ⟨t286, A40, H⟩ := H
  replace H : (if t286 = true then ((spec_l1In.f a1_1 0 (wrap64 (a1_2 - 1))).bind fun t287 => (some t287)) else (some false)) = some r := H
  have A4 := Ya A40
  clear A40
  by_cases c5 : t286 = true
  ·subst c5
   have H1 : ((spec_l1In.f a1_1 0 (wrap64 (a1_2 - 1))).bind fun t287 => (some t287)) = some r := by rw [if_pos rfl] at H; exact H
   clear H
   have H := H1
   clear H1
   replace H := Z35.mp H
   obtain ⟨t287, A60, H⟩ := H
   replace H : (some t287) = some r := H
   have A6 := Ya A60
   clear A60
   obtain rfl := Option.some.inj H
   go_enter Try.func81, Try.ntmps81
   go_wp2_with (first | ((with_reducible refine gate_dst (N := 3) rfl ?_); refine Yx 3 #[.int .i64 a1_0, .int .i64 a1_1, .int .i64 a1_2] 45 ?_; intro gb285 hg w7 hbox hb; have BK285 := Ya hbox; have GE285 := Yg hg; replace HB := Yh hb; clear hb hbox hg; have hcz8_0 : w7.cell? ⟨gb285, 0, none⟩ = some (.int .i64 a1_0) := (Z22 BK285.out 0).trans rfl; have hcz8_1 : w7.cell? ⟨gb285, 1, none⟩ = some (.int .i64 a1_1) := (Z22 BK285.out 1).trans rfl; have hcz8_2 : w7.cell? ⟨gb285, 2, none⟩ = some (.int .i64 a1_2) := (Z22 BK285.out 2).trans rfl; have hfz8_0 := Z23 BK285.out 0; have hfz8_1 := Z23 BK285.out 1; have hfz8_2 := Z23 BK285.out 2) | ((with_reducible refine gate_callee (f := 42) rfl ?_); refine Yz 13 Try.func42 #[.int .i64 a1_2, .int .i64 1, .int .i64 (wrap64 (a0 - 1))] ?_; (with_reducible refine (spec_l1In.calls a1_2 1 (wrap64 (a0 - 1)) true _ A4.out).mono ?_); rintro e w' ⟨rfl, ⟨nd, rfl⟩⟩; refine ⟨_, rfl, ?_⟩) | (go_at_call 42; (with_reducible refine (spec_l1In.calls a1_1 0 (wrap64 (a1_2 - 1)) t287 _ A6.out).mono ?_); rintro e w' ⟨rfl, ⟨nd, rfl⟩⟩))
   go_ret
   exact ⟨Q2, Q0⟩
  ·replace c5 := Bool.eq_false_iff.mpr c5
   subst c5
   have H1 : (some false) = some r := by rw [if_neg (show ¬ (false = true) by decide)] at H; exact H
   clear H
   have H := H1
   clear H1
   obtain rfl := Option.some.inj H
   go_enter Try.func81, Try.ntmps81
   go_wp2_with (first | ((with_reducible refine gate_dst (N := 3) rfl ?_); refine Yx 3 #[.int .i64 a1_0, .int .i64 a1_1, .int .i64 a1_2] 45 ?_; intro gb285 hg w9 hbox hb; have BK285 := Ya hbox; have GE285 := Yg hg; replace HB := Yh hb; clear hb hbox hg; have hcz10_0 : w9.cell? ⟨gb285, 0, none⟩ = some (.int .i64 a1_0) := (Z22 BK285.out 0).trans rfl; have hcz10_1 : w9.cell? ⟨gb285, 1, none⟩ = some (.int .i64 a1_1) := (Z22 BK285.out 1).trans rfl; have hcz10_2 : w9.cell? ⟨gb285, 2, none⟩ = some (.int .i64 a1_2) := (Z22 BK285.out 2).trans rfl; have hfz10_0 := Z23 BK285.out 0; have hfz10_1 := Z23 BK285.out 1; have hfz10_2 := Z23 BK285.out 2) | ((with_reducible refine gate_callee (f := 42) rfl ?_); refine Yz 13 Try.func42 #[.int .i64 a1_2, .int .i64 1, .int .i64 (wrap64 (a0 - 1))] ?_; (with_reducible refine (spec_l1In.calls a1_2 1 (wrap64 (a0 - 1)) false _ A4.out).mono ?_); rintro e w' ⟨rfl, ⟨nd, rfl⟩⟩; refine ⟨_, rfl, ?_⟩))
   go_ret
   exact ⟨Q2, Q0⟩
 ·rw [if_neg c3] at H
  have c3b0 : (a1_0 == 0) = false := beq_eq_false_iff_ne.mpr c3
  have c3b1 : (a1_0 != 0) = true := bne_iff_ne.mpr c3
  by_cases c11 : a1_0 = 1
  ·rw [if_pos c11] at H
   have c11b0 : (a1_0 == 1) = true := beq_iff_eq.mpr c11
   have c11b1 : (a1_0 != 1) = false := bne_eq_false_iff_eq.mpr c11
   clear c11
   replace H := Z35.mp H
   obtain ⟨t288, A120, H⟩ := H
   replace H : (if t288 = true then (some (a1_2 == 0)) else (some false)) = some r := H
   have A12 := Ya A120
   clear A120
   by_cases c13 : t288 = true
   ·subst c13
    have H1 : (some (a1_2 == 0)) = some r := by rw [if_pos rfl] at H; exact H
    clear H
    have H := H1
    clear H1
    obtain rfl := Option.some.inj H
    go_enter Try.func81, Try.ntmps81
    go_wp2_with (first | ((with_reducible refine gate_dst (N := 3) rfl ?_); refine Yx 3 #[.int .i64 a1_0, .int .i64 a1_1, .int .i64 a1_2] 45 ?_; intro gb285 hg w14 hbox hb; have BK285 := Ya hbox; have GE285 := Yg hg; replace HB := Yh hb; clear hb hbox hg; have hcz15_0 : w14.cell? ⟨gb285, 0, none⟩ = some (.int .i64 a1_0) := (Z22 BK285.out 0).trans rfl; have hcz15_1 : w14.cell? ⟨gb285, 1, none⟩ = some (.int .i64 a1_1) := (Z22 BK285.out 1).trans rfl; have hcz15_2 : w14.cell? ⟨gb285, 2, none⟩ = some (.int .i64 a1_2) := (Z22 BK285.out 2).trans rfl; have hfz15_0 := Z23 BK285.out 0; have hfz15_1 := Z23 BK285.out 1; have hfz15_2 := Z23 BK285.out 2) | ((with_reducible refine gate_callee (f := 42) rfl ?_); refine Yz 28 Try.func42 #[.int .i64 a1_1, .int .i64 2, .int .i64 a0] ?_; (with_reducible refine (spec_l1In.calls a1_1 2 a0 true _ A12.out).mono ?_); rintro e w' ⟨rfl, ⟨nd, rfl⟩⟩; refine ⟨_, rfl, ?_⟩))
    go_ret
    exact ⟨Q2, Q0⟩
   ·replace c13 := Bool.eq_false_iff.mpr c13
    subst c13
    have H1 : (some false) = some r := by rw [if_neg (show ¬ (false = true) by decide)] at H; exact H
    clear H
    have H := H1
    clear H1
    obtain rfl := Option.some.inj H
    go_enter Try.func81, Try.ntmps81
    go_wp2_with (first | ((with_reducible refine gate_dst (N := 3) rfl ?_); refine Yx 3 #[.int .i64 a1_0, .int .i64 a1_1, .int .i64 a1_2] 45 ?_; intro gb285 hg w16 hbox hb; have BK285 := Ya hbox; have GE285 := Yg hg; replace HB := Yh hb; clear hb hbox hg; have hcz17_0 : w16.cell? ⟨gb285, 0, none⟩ = some (.int .i64 a1_0) := (Z22 BK285.out 0).trans rfl; have hcz17_1 : w16.cell? ⟨gb285, 1, none⟩ = some (.int .i64 a1_1) := (Z22 BK285.out 1).trans rfl; have hcz17_2 : w16.cell? ⟨gb285, 2, none⟩ = some (.int .i64 a1_2) := (Z22 BK285.out 2).trans rfl; have hfz17_0 := Z23 BK285.out 0; have hfz17_1 := Z23 BK285.out 1; have hfz17_2 := Z23 BK285.out 2) | ((with_reducible refine gate_callee (f := 42) rfl ?_); refine Yz 28 Try.func42 #[.int .i64 a1_1, .int .i64 2, .int .i64 a0] ?_; (with_reducible refine (spec_l1In.calls a1_1 2 a0 false _ A12.out).mono ?_); rintro e w' ⟨rfl, ⟨nd, rfl⟩⟩; refine ⟨_, rfl, ?_⟩))
    go_ret
    exact ⟨Q2, Q0⟩
  ·rw [if_neg c11] at H
   have c11b0 : (a1_0 == 1) = false := beq_eq_false_iff_ne.mpr c11
   have c11b1 : (a1_0 != 1) = true := bne_iff_ne.mpr c11
   by_cases c18 : a1_0 = 2
   ·rw [if_pos c18] at H
    have c18b0 : (a1_0 == 2) = true := beq_iff_eq.mpr c18
    have c18b1 : (a1_0 != 2) = false := bne_eq_false_iff_eq.mpr c18
    clear c18
    replace H := Z35.mp H
    obtain ⟨t289, A190, H⟩ := H
    replace H : (if t289 = true then (some (a1_2 == 0)) else (some false)) = some r := H
    have A19 := Ya A190
    clear A190
    by_cases c20 : t289 = true
    ·subst c20
     have H1 : (some (a1_2 == 0)) = some r := by rw [if_pos rfl] at H; exact H
     clear H
     have H := H1
     clear H1
     obtain rfl := Option.some.inj H
     go_enter Try.func81, Try.ntmps81
     go_wp2_with (first | ((with_reducible refine gate_dst (N := 3) rfl ?_); refine Yx 3 #[.int .i64 a1_0, .int .i64 a1_1, .int .i64 a1_2] 45 ?_; intro gb285 hg w21 hbox hb; have BK285 := Ya hbox; have GE285 := Yg hg; replace HB := Yh hb; clear hb hbox hg; have hcz22_0 : w21.cell? ⟨gb285, 0, none⟩ = some (.int .i64 a1_0) := (Z22 BK285.out 0).trans rfl; have hcz22_1 : w21.cell? ⟨gb285, 1, none⟩ = some (.int .i64 a1_1) := (Z22 BK285.out 1).trans rfl; have hcz22_2 : w21.cell? ⟨gb285, 2, none⟩ = some (.int .i64 a1_2) := (Z22 BK285.out 2).trans rfl; have hfz22_0 := Z23 BK285.out 0; have hfz22_1 := Z23 BK285.out 1; have hfz22_2 := Z23 BK285.out 2) | ((with_reducible refine gate_callee (f := 42) rfl ?_); refine Yz 28 Try.func42 #[.int .i64 a1_1, .int .i64 2, .int .i64 a0] ?_; (with_reducible refine (spec_l1In.calls a1_1 2 a0 true _ A19.out).mono ?_); rintro e w' ⟨rfl, ⟨nd, rfl⟩⟩; refine ⟨_, rfl, ?_⟩))
     go_ret
     exact ⟨Q2, Q0⟩
    ·replace c20 := Bool.eq_false_iff.mpr c20
     subst c20
     have H1 : (some false) = some r := by rw [if_neg (show ¬ (false = true) by decide)] at H; exact H
     clear H
     have H := H1
     clear H1
     obtain rfl := Option.some.inj H
     go_enter Try.func81, Try.ntmps81
     go_wp2_with (first | ((with_reducible refine gate_dst (N := 3) rfl ?_); refine Yx 3 #[.int .i64 a1_0, .int .i64 a1_1, .int .i64 a1_2] 45 ?_; intro gb285 hg w23 hbox hb; have BK285 := Ya hbox; have GE285 := Yg hg; replace HB := Yh hb; clear hb hbox hg; have hcz24_0 : w23.cell? ⟨gb285, 0, none⟩ = some (.int .i64 a1_0) := (Z22 BK285.out 0).trans rfl; have hcz24_1 : w23.cell? ⟨gb285, 1, none⟩ = some (.int .i64 a1_1) := (Z22 BK285.out 1).trans rfl; have hcz24_2 : w23.cell? ⟨gb285, 2, none⟩ = some (.int .i64 a1_2) := (Z22 BK285.out 2).trans rfl; have hfz24_0 := Z23 BK285.out 0; have hfz24_1 := Z23 BK285.out 1; have hfz24_2 := Z23 BK285.out 2) | ((with_reducible refine gate_callee (f := 42) rfl ?_); refine Yz 28 Try.func42 #[.int .i64 a1_1, .int .i64 2, .int .i64 a0] ?_; (with_reducible refine (spec_l1In.calls a1_1 2 a0 false _ A19.out).mono ?_); rintro e w' ⟨rfl, ⟨nd, rfl⟩⟩; refine ⟨_, rfl, ?_⟩))
     go_ret
     exact ⟨Q2, Q0⟩
   ·rw [if_neg c18] at H
    have c18b0 : (a1_0 == 2) = false := beq_eq_false_iff_ne.mpr c18
    have c18b1 : (a1_0 != 2) = true := bne_iff_ne.mpr c18
    obtain rfl := Option.some.inj H
    go_enter Try.func81, Try.ntmps81
    go_wp2_with (first | ((with_reducible refine gate_dst (N := 3) rfl ?_); refine Yx 3 #[.int .i64 a1_0, .int .i64 a1_1, .int .i64 a1_2] 45 ?_; intro gb285 hg w25 hbox hb; have BK285 := Ya hbox; have GE285 := Yg hg; replace HB := Yh hb; clear hb hbox hg; have hcz26_0 : w25.cell? ⟨gb285, 0, none⟩ = some (.int .i64 a1_0) := (Z22 BK285.out 0).trans rfl; have hcz26_1 : w25.cell? ⟨gb285, 1, none⟩ = some (.int .i64 a1_1) := (Z22 BK285.out 1).trans rfl; have hcz26_2 : w25.cell? ⟨gb285, 2, none⟩ = some (.int .i64 a1_2) := (Z22 BK285.out 2).trans rfl; have hfz26_0 := Z23 BK285.out 0; have hfz26_1 := Z23 BK285.out 1; have hfz26_2 := Z23 BK285.out 2))
    go_ret
    exact ⟨Q2, Q0⟩
def spec_moTask.l0 : Nat → Int → List (S45) → List (S45) → Int → Int → Option (Bool)
 | 0, _, _, _, _, _ => none
 | k + 1, x0, x1, x7, x8, x9 => if x9 < x8 then (if 0 ≤ x9 then (if x9 < (x7.length : Int) then ((spec_moGood.f x0 ((rd_T45 x7 x9).f0) ((rd_T45 x7 x9).f1) ((rd_T45 x7 x9).f2)).bind fun t292 => (if t292 = true then (spec_moTask.l0 k x0 x1 x7 x8 (wrap64 (x9 + 1))) else (some false))) else (none)) else (none)) else ((spec_l1In.f x0 1 5).bind fun t293 => (if t293 = true then (some (decide ((x1.length : Int) ≤ 12))) else (some false)))
def spec_moTask.f (k : Nat) (a0 : Int) (l1 : List (S45)) : Option (Bool) := spec_moTask.l0 k a0 l1 l1 (l1.length : Int) 0
theorem spec_moTask.mono_l : ∀ k, (∀ y0 y1 y2 y3 y4, LeO (spec_moTask.l0 k y0 y1 y2 y3 y4) (spec_moTask.l0 (k + 1) y0 y1 y2 y3 y4))
 | 0 => fun _ _ _ _ _ r h => by simp [spec_moTask.l0] at h
 | k + 1 => by
  have ih0 := spec_moTask.mono_l k
  ·intro y0 y1 y2 y3 y4
   unfold spec_moTask.l0
   repeat' first
   | (with_reducible exact ih0 _ _ _ _ _)
   | (with_reducible exact LeO.refl _)
   | (with_reducible exact LeO.none _)
   | (with_reducible refine LeO.ite ?_ ?_)
   | (with_reducible refine LeO.bind ?_ (fun _ => ?_))
   | exact ih0 _ _ _ _ _
   | exact LeO.none _
   | refine LeO.ite ?_ ?_
   | refine LeO.bind ?_ (fun _ => ?_)
theorem spec_moTask.mono : ∀ a0 a1 k, LeO (spec_moTask.f k a0 a1) (spec_moTask.f (k + 1) a0 a1) := by
 intro a0 a1 k
 have ih0 := spec_moTask.mono_l k
 unfold spec_moTask.f
 repeat' first
   | (with_reducible exact ih0 _ _ _ _ _)
   | (with_reducible exact LeO.refl _)
   | (with_reducible exact LeO.none _)
   | (with_reducible refine LeO.ite ?_ ?_)
   | (with_reducible refine LeO.bind ?_ (fun _ => ?_))
   | exact ih0 _ _ _ _ _
   | exact LeO.none _
   | refine LeO.ite ?_ ?_
   | refine LeO.bind ?_ (fun _ => ?_)
set_option maxHeartbeats 8000000 in
set_option maxRecDepth 100000 in
theorem spec_moTask.calls (k : Nat) (a0 : Int) (A1 : Option Addr) (c1 : Nat) (l1 : List (S45)) (r : Bool) (w : World) (hr1 : Kd.C k45 w A1 l1.length l1) (hc1 : l1.length ≤ c1) (h : spec_moTask.f k a0 l1 = some r) :
  Calls Try.prog 41 #[.int .i64 a0, .slice A1 l1.length c1] w fun e w' => e = .returned (.bool r) ∧ Below w.heap.size w w' := by
 have hu45 := Try.underlying45
 have HR1 := Ya hr1
 have HC1 := Ya hc1
 clear hr1 hc1
 have HB := Ya (Below.refl w.heap.size w)
 have H : (spec_moTask.l0 k a0 l1 l1 (l1.length : Int) 0) = some r := h
 clear h
 have H' := Ya H
 clear H
 go_enter Try.func41, Try.ntmps41
 go_wp2
 go_loopg [9] k (fun kq v9 w' => ∃ (x9_1 : Int), v9 = .int .i64 x9_1 ∧ Aside0 (spec_moTask.l0 kq a0 l1 l1 (l1.length : Int) x9_1 = some r) ∧ Aside0 (kq ≤ k) ∧ Aside0 (Below w.heap.size w w'))
 case atStart => exact ⟨(0), Q5, H', ⟨Nat.le_refl _⟩, ⟨Q0⟩⟩
 case round =>
  clear H'
  try clear c1
  try clear p2
  obtain ⟨x9_1, rfl, HA, HK1, HB⟩ := hrel
  cases gk with
  | zero => exact absurd HA.out (by simp [spec_moTask.l0])
  | succ k1 =>
   have H := HA.out
   clear HA
   simp only [spec_moTask.l0] at H
   by_cases c3 : x9_1 < (l1.length : Int)
   ·rw [if_pos c3] at H
    have c3b0 := Z37 c3
    clear c3
    by_cases c4 : 0 ≤ x9_1
    ·rw [if_pos c4] at H
     have c4b0 := Z37 c4
     clear c4
     by_cases c5 : x9_1 < (l1.length : Int)
     ·rw [if_pos c5] at H
      have c5b0 := Z37 c5
      clear c5
      replace H := Z35.mp H
      obtain ⟨t292, A60, H⟩ := H
      replace H : (if t292 = true then (spec_moTask.l0 k1 a0 l1 l1 (l1.length : Int) (wrap64 (x9_1 + 1))) else (some false)) = some r := H
      have A6 := Ya A60
      clear A60
      by_cases c7 : t292 = true
      ·subst c7
       have H1 : (spec_moTask.l0 k1 a0 l1 l1 (l1.length : Int) (wrap64 (x9_1 + 1))) = some r := by rw [if_pos rfl] at H; exact H
       clear H
       have H := H1
       clear H1
       have H' := Ya H
       clear H
       have p290 : 0 ≤ (x9_1 : Int) := Z29 Q1
       have q290 : x9_1 < (l1.length : Int) := Z29 Q1
       obtain ⟨ad290, e290, hx290_0, hx290_1, hx290_2⟩ := at_T45 HR1.out x9_1 p290 q290
       cases e290
       try replace hx290_0 := (HB.out.cell (World.block_lt_of_cell? w _ hx290_0)).trans hx290_0
       try replace hx290_1 := (HB.out.cell (World.block_lt_of_cell? w _ hx290_1)).trans hx290_1
       try replace hx290_2 := (HB.out.cell (World.block_lt_of_cell? w _ hx290_2)).trans hx290_2
       replace p290 := eq_true p290
       replace q290 := eq_true q290
       go_wp2_with (first | ((with_reducible refine gate_dst (N := 6) rfl ?_); (try (refine gate_guard (by rfl) ?_; dsimp only)); refine Yx 6 #[.int .i64 0, .int .i64 0, .int .i64 0] 45 ?_; intro gb291 hg w8 hbox hb; have BK291 := Ya hbox; have GE291 := Yg hg; replace HB := Yh hb; clear hb hbox hg; have hcz9_0 : w8.cell? ⟨gb291, 0, none⟩ = some (.int .i64 0) := (Z22 BK291.out 0).trans rfl; have hcz9_1 : w8.cell? ⟨gb291, 1, none⟩ = some (.int .i64 0) := (Z22 BK291.out 1).trans rfl; have hcz9_2 : w8.cell? ⟨gb291, 2, none⟩ = some (.int .i64 0) := (Z22 BK291.out 2).trans rfl; have hfz9_0 := Z23 BK291.out 0; have hfz9_1 := Z23 BK291.out 1; have hfz9_2 := Z23 BK291.out 2) | ((with_reducible refine gate_callee (f := 81) rfl ?_); refine Yz 15 Try.func81 #[.int .i64 a0, .agg #[.int .i64 ((rd_T45 l1 x9_1).f0), .int .i64 ((rd_T45 l1 x9_1).f1), .int .i64 ((rd_T45 l1 x9_1).f2)]] ?_; (with_reducible refine (spec_moGood.calls a0 ((rd_T45 l1 x9_1).f0) ((rd_T45 l1 x9_1).f1) ((rd_T45 l1 x9_1).f2) true _ A6.out).mono ?_); rintro e w10 ⟨rfl, hb⟩; refine ⟨_, rfl, ?_⟩; replace BK291 := Yb ⟨Yv3 BK291.out⟩ hb; replace HB := Yh hb; (try clear hb)))
       go_roundg k1
       case measure => have := HK1.out; omega
       case rel => exact ⟨(wrap64 (x9_1 + 1)), Q5, H', ⟨Q28⟩, ⟨Q0⟩⟩
      ·replace c7 := Bool.eq_false_iff.mpr c7
       subst c7
       have H1 : (some false) = some r := by rw [if_neg (show ¬ (false = true) by decide)] at H; exact H
       clear H
       have H := H1
       clear H1
       obtain rfl := Option.some.inj H
       have p290 : 0 ≤ (x9_1 : Int) := Z29 Q1
       have q290 : x9_1 < (l1.length : Int) := Z29 Q1
       obtain ⟨ad290, e290, hx290_0, hx290_1, hx290_2⟩ := at_T45 HR1.out x9_1 p290 q290
       cases e290
       try replace hx290_0 := (HB.out.cell (World.block_lt_of_cell? w _ hx290_0)).trans hx290_0
       try replace hx290_1 := (HB.out.cell (World.block_lt_of_cell? w _ hx290_1)).trans hx290_1
       try replace hx290_2 := (HB.out.cell (World.block_lt_of_cell? w _ hx290_2)).trans hx290_2
       replace p290 := eq_true p290
       replace q290 := eq_true q290
       go_wp2_with (first | ((with_reducible refine gate_dst (N := 6) rfl ?_); (try (refine gate_guard (by rfl) ?_; dsimp only)); refine Yx 6 #[.int .i64 0, .int .i64 0, .int .i64 0] 45 ?_; intro gb291 hg w11 hbox hb; have BK291 := Ya hbox; have GE291 := Yg hg; replace HB := Yh hb; clear hb hbox hg; have hcz12_0 : w11.cell? ⟨gb291, 0, none⟩ = some (.int .i64 0) := (Z22 BK291.out 0).trans rfl; have hcz12_1 : w11.cell? ⟨gb291, 1, none⟩ = some (.int .i64 0) := (Z22 BK291.out 1).trans rfl; have hcz12_2 : w11.cell? ⟨gb291, 2, none⟩ = some (.int .i64 0) := (Z22 BK291.out 2).trans rfl; have hfz12_0 := Z23 BK291.out 0; have hfz12_1 := Z23 BK291.out 1; have hfz12_2 := Z23 BK291.out 2) | ((with_reducible refine gate_callee (f := 81) rfl ?_); refine Yz 15 Try.func81 #[.int .i64 a0, .agg #[.int .i64 ((rd_T45 l1 x9_1).f0), .int .i64 ((rd_T45 l1 x9_1).f1), .int .i64 ((rd_T45 l1 x9_1).f2)]] ?_; (with_reducible refine (spec_moGood.calls a0 ((rd_T45 l1 x9_1).f0) ((rd_T45 l1 x9_1).f1) ((rd_T45 l1 x9_1).f2) false _ A6.out).mono ?_); rintro e w13 ⟨rfl, hb⟩; refine ⟨_, rfl, ?_⟩; replace BK291 := Yb ⟨Yv3 BK291.out⟩ hb; replace HB := Yh hb; (try clear hb)))
       go_ret
       exact ⟨Q2, Q0⟩
     ·rw [if_neg c5] at H
      exact absurd H (by simp)
    ·rw [if_neg c4] at H
     exact absurd H (by simp)
   ·rw [if_neg c3] at H
    have c3b0 := Z36 c3
    clear c3
    replace H := Z35.mp H
    obtain ⟨t293, A140, H⟩ := H
    replace H : (if t293 = true then (some (decide ((l1.length : Int) ≤ 12))) else (some false)) = some r := H
    have A14 := Ya A140
    clear A140
    by_cases c15 : t293 = true
    ·subst c15
     have H1 : (some (decide ((l1.length : Int) ≤ 12))) = some r := by rw [if_pos rfl] at H; exact H
     clear H
     have H := H1
     clear H1
     obtain rfl := Option.some.inj H
     go_wp2_with (first | ((with_reducible refine gate_callee (f := 42) rfl ?_); refine Yz 19 Try.func42 #[.int .i64 a0, .int .i64 1, .int .i64 5] ?_; (with_reducible refine (spec_l1In.calls a0 1 5 true _ A14.out).mono ?_); rintro e w' ⟨rfl, ⟨nd, rfl⟩⟩; refine ⟨_, rfl, ?_⟩))
     go_ret
     exact ⟨Q2, Q0⟩
    ·replace c15 := Bool.eq_false_iff.mpr c15
     subst c15
     have H1 : (some false) = some r := by rw [if_neg (show ¬ (false = true) by decide)] at H; exact H
     clear H
     have H := H1
     clear H1
     obtain rfl := Option.some.inj H
     go_wp2_with (first | ((with_reducible refine gate_callee (f := 42) rfl ?_); refine Yz 19 Try.func42 #[.int .i64 a0, .int .i64 1, .int .i64 5] ?_; (with_reducible refine (spec_l1In.calls a0 1 5 false _ A14.out).mono ?_); rintro e w' ⟨rfl, ⟨nd, rfl⟩⟩; refine ⟨_, rfl, ?_⟩))
     go_ret
     exact ⟨Q2, Q0⟩
def spec_raUpTo.l0 : Nat → Int → List Int → Int → Option (List Int)
 | 0, _, _, _ => none
 | k + 1, x0, x3, x4 => if x4 < x0 then (if x3.length < 17592186044416 then (spec_raUpTo.l0 k x0 (x3 ++ [x4]) (wrap64 (x4 + 1))) else (none)) else (some x3)
def spec_raUpTo.f (k : Nat) (a0 : Int) : Option (List Int) := spec_raUpTo.l0 k a0 ([] : List Int) 0
theorem spec_raUpTo.mono_l : ∀ k, (∀ y0 y1 y2, LeO (spec_raUpTo.l0 k y0 y1 y2) (spec_raUpTo.l0 (k + 1) y0 y1 y2))
 | 0 => fun _ _ _ r h => by simp [spec_raUpTo.l0] at h
 | k + 1 => by
  have ih0 := spec_raUpTo.mono_l k
  ·intro y0 y1 y2
   unfold spec_raUpTo.l0
   repeat' first
   | (with_reducible exact ih0 _ _ _)
   | (with_reducible exact LeO.refl _)
   | (with_reducible exact LeO.none _)
   | (with_reducible refine LeO.ite ?_ ?_)
   | (with_reducible refine LeO.bind ?_ (fun _ => ?_))
   | exact ih0 _ _ _
   | exact LeO.none _
   | refine LeO.ite ?_ ?_
   | refine LeO.bind ?_ (fun _ => ?_)
theorem spec_raUpTo.mono : ∀ a0 k, LeO (spec_raUpTo.f k a0) (spec_raUpTo.f (k + 1) a0) := by
 intro a0 k
 have ih0 := spec_raUpTo.mono_l k
 unfold spec_raUpTo.f
 repeat' first
   | (with_reducible exact ih0 _ _ _)
   | (with_reducible exact LeO.refl _)
   | (with_reducible exact LeO.none _)
   | (with_reducible refine LeO.ite ?_ ?_)
   | (with_reducible refine LeO.bind ?_ (fun _ => ?_))
   | exact ih0 _ _ _
   | exact LeO.none _
   | refine LeO.ite ?_ ?_
   | refine LeO.bind ?_ (fun _ => ?_)
set_option maxHeartbeats 8000000 in
set_option maxRecDepth 100000 in
theorem spec_raUpTo.calls (k : Nat) (a0 : Int) (r : List Int) (w : World) (h : spec_raUpTo.f k a0 = some r) :
  Calls Try.prog 45 #[.int .i64 a0] w fun e w' => ∃ v0_ : Value, e = .returned (v0_) ∧ Kd.R (Kd.int .i64) 3 w' w.heap.size (fun _ => True) v0_ r ∧ Below w.heap.size w w' := by
 have HB := Ya (Below.refl w.heap.size w)
 have H : (spec_raUpTo.l0 k a0 ([] : List Int) 0) = some r := h
 clear h
 have H' := Ya H
 clear H
 go_enter Try.func45, Try.ntmps45
 go_wp2
 go_loopg [3, 4] k (fun kq v3 v4 w' => ∃ (x3_1 : List Int) (x4_1 : Int), v4 = .int .i64 x4_1 ∧ Aside0 (spec_raUpTo.l0 kq a0 x3_1 x4_1 = some r) ∧ Aside0 (kq ≤ k) ∧ Aside0 (Kd.R (Kd.int .i64) 3 w' w.heap.size (fun _ => True) v3 x3_1) ∧ Aside0 (Below w.heap.size w w'))
 case atStart => exact ⟨(([] : List Int)), (0), Q5, H', ⟨Nat.le_refl _⟩, ⟨Q11⟩, ⟨Q0⟩⟩
 case round =>
  clear H'
  obtain ⟨x3_1, x4_1, rfl, HA, HK1, HO_3, HB⟩ := hrel
  cases gk with
  | zero => exact absurd HA.out (by simp [spec_raUpTo.l0])
  | succ k1 =>
   have H := HA.out
   clear HA
   simp only [spec_raUpTo.l0] at H
   by_cases c2 : x4_1 < a0
   ·rw [if_pos c2] at H
    have c2b0 := Z37 c2
    clear c2
    by_cases c3 : x3_1.length < 17592186044416
    ·rw [if_pos c3] at H
     have LMc3 := Ya c3
     clear c3
     obtain ⟨y294, hy294⟩ : ∃ y_ : List Int, y_ = (x3_1 ++ [x4_1]) := ⟨_, rfl⟩
     replace H : (spec_raUpTo.l0 k1 a0 y294 (wrap64 (x4_1 + 1))) = some r := by first | (rw [hy294]; with_reducible exact H) | (have H2_ := (Option.bind_some _ _).symm.trans H; rw [hy294]; with_reducible exact H2_) | (have H2_ := (Option.bind_some _ _).symm.trans H; with_reducible exact H2_) | with_reducible exact H | (rw [hy294]; exact H) | exact H
     have Ny294 := Ya hy294
     clear hy294
     have H' := Ya H
     clear H
     go_wp2_with (first | ((with_reducible refine gate_builtin (b := .append) (xs := #[.tmp 10, .tmp 12]) rfl ?_); at_builtin; refine Kd.R_append (Kd.int .i64) (w0 := w) w.heap.size rfl (.tmp 10) (.tmp 12) 24 3 (.int .i64 0) 8 rfl Try.underlying24 info3 rfl (by decide) (by omega) u3 x3_1 x4_1 [.int .i64 x4_1] (fun _ => True) (fun _ => False) rfl rfl ?aP (fun _ hk => hk.elim) ?aF ?aO ?aB ?aS ?aL ?_; (case aP => exact rfl); (case aB => exact Q12); (case aF => exact (fun _ _ => trivial)); (case aO => exact (Yr HO_3.out)); (case aS => exact (Z7 Q12)); (case aL => have := LMc3.out; omega); intro v295 w4 ho hb hg hat; rw [← Ny294.out] at ho; replace HB := Ya hb; have HO296 := Ya ho; clear HO_3; clear ho hb hg hat))
     go_roundg k1
     case measure => have := HK1.out; omega
     case rel => exact ⟨(y294), (wrap64 (x4_1 + 1)), Q5, H', ⟨Q28⟩, ⟨by (with_reducible repeat (first | apply Z9 | apply Z10 | apply Z11)); exact HO296.out⟩, ⟨Q0⟩⟩
    ·rw [if_neg c3] at H
     exact absurd H (by simp)
   ·rw [if_neg c2] at H
    have c2b0 := Z36 c2
    clear c2
    obtain rfl := Option.some.inj H
    go_wp2
    go_ret
    exact ⟨_, Q2, by (with_reducible repeat (first | apply Z9 | apply Z10 | apply Z11)); exact HO_3.out, Q0⟩
def spec_l1Own.f (l0 : List Int) : Option (List Int) := (some (([] : List Int) : List Int)).bind fun y297 => (if y297.length + l0.length < 17592186044416 then (some (y297 ++ l0)) else (none))
set_option maxHeartbeats 8000000 in
set_option maxRecDepth 100000 in
theorem spec_l1Own.calls (A0 : Option Addr) (c0 : Nat) (l0 : List Int) (r : List Int) (w : World) (hr0 : Kd.C (Kd.int .i64) w A0 l0.length l0) (hc0 : l0.length ≤ c0) (h : spec_l1Own.f l0 = some r) :
  Calls Try.prog 83 #[.slice A0 l0.length c0] w fun e w' => ∃ v0_ : Value, e = .returned (v0_) ∧ Kd.R (Kd.int .i64) 3 w' w.heap.size (fun _ => True) v0_ r ∧ Below w.heap.size w w' := by
 have HR0 := Ya hr0
 have HC0 := Ya hc0
 clear hr0 hc0
 have HB := Ya (Below.refl w.heap.size w)
 have H : ((some (([] : List Int) : List Int)).bind fun y297 => (if y297.length + l0.length < 17592186044416 then (some (y297 ++ l0)) else (none))) = some r := h
 clear h
 obtain ⟨y297, hy297⟩ : ∃ y_ : List Int, y_ = (([] : List Int)) := ⟨_, rfl⟩
 replace H : (if y297.length + l0.length < 17592186044416 then (some (y297 ++ l0)) else (none)) = some r := by first | (rw [hy297]; with_reducible exact H) | (have H2_ := (Option.bind_some _ _).symm.trans H; rw [hy297]; with_reducible exact H2_) | (have H2_ := (Option.bind_some _ _).symm.trans H; with_reducible exact H2_) | with_reducible exact H | (rw [hy297]; exact H) | exact H
 have Ny297 := Ya hy297
 clear hy297
 by_cases c2 : y297.length + l0.length < 17592186044416
 ·rw [if_pos c2] at H
  have LMc2 := Ya c2
  clear c2
  obtain ⟨y300, hy300⟩ : ∃ y_ : List Int, y_ = (y297 ++ l0) := ⟨_, rfl⟩
  replace H : (some y300) = some r := by first | (rw [hy300]; with_reducible exact H) | (have H2_ := (Option.bind_some _ _).symm.trans H; rw [hy300]; with_reducible exact H2_) | (have H2_ := (Option.bind_some _ _).symm.trans H; with_reducible exact H2_) | with_reducible exact H | (rw [hy300]; exact H) | exact H
  have Ny300 := Ya hy300
  clear hy300
  obtain rfl := Option.some.inj H
  go_enter Try.func83, Try.ntmps83
  go_wp2_with (first | ((with_reducible refine gate_dst (N := 3) rfl ?_); refine Kd.R_lit (Kd.int .i64) _ 3 ?hg (N := 3) ?hd (xs := ([] : List Int)) (inner := []) (ok := fun _ => True) (okp := fun _ => True) ?hr ?hp (fun _ hk => hk) trivial (Below.refl _ _) (Nat.le_refl _) (by simp) ?_; (case hd => rfl); (case hg => rfl); (case hr => first | (go_simp; done) | (go_simp; rfl)); (case hp => exact (Reps.none _ _)); intro v298 w3 ho4 hb hg_ hnew_; clear hg_ hnew_; (first | rw [← Ny297.out] at ho4 | (simp only [Int.reduceToNat] at ho4; rw [← Ny297.out] at ho4)); have HO299 := Yl ho4; replace HB := Yh hb; clear hb ho4) | ((with_reducible refine gate_builtin (b := .append) (xs := #[.tmp 3, .tmp 4]) rfl ?_); at_builtin; refine Kd.R_append_rows (Kd.int .i64) (w0 := w) w.heap.size rfl (.tmp 3) (.tmp 4) 24 3 (.int .i64 0) 8 rfl Try.underlying24 info3 rfl (by decide) (by omega) v298 y297 l0 _ _ _ (fun _ => True) (fun _ => False) rfl rfl ?aO ?aR (fun _ _ h => h) (fun _ h => h.elim) ?aF ?aB ?aS ?aL ?_; (case aR => repeat (first | exact (Z21 HR0.out HB.out) | (with_reducible refine Z18 ?_ _) | (with_reducible refine Z19 ?_ _) | (with_reducible refine Z20 ?_))); (case aB => exact Q12); (case aF => exact (fun _ _ => trivial)); (case aO => exact (Yr HO299.out)); (case aS => exact (Z7 Q12)); (case aL => have := LMc2.out; omega); intro v301 w5 ho hb hg hat; rw [← Ny300.out] at ho; replace HB := Ya hb; have HO302 := Ya ho; clear HO299; clear ho hb hg hat))
  go_ret
  exact ⟨_, Q2, by (with_reducible repeat (first | apply Z9 | apply Z10 | apply Z11)); exact HO302.out, Q0⟩
 ·rw [if_neg c2] at H
  exact absurd H (by simp)
mutual
def spec_moApply.l0 : Nat → List Int → List Int → Int → Int → Int → Int → Option (List Int)
 | 0, _, _, _, _, _, _ => none
 | k + 1, x0, x5, x6, x304000, x304001, x304002 => if x6 < x304001 then (if 0 ≤ (wrap64 ((wrap64 (x304001 - 1)) - x6)) then (if (wrap64 ((wrap64 (x304001 - 1)) - x6)) < (x0.length : Int) then (if 0 ≤ x6 then (if x6 < (x5.length : Int) then (spec_moApply.l0 k x0 (x5.set (x6 : Int).toNat (rd x0 (wrap64 ((wrap64 (x304001 - 1)) - x6)))) (wrap64 (x6 + 1)) x304000 x304001 x304002) else (none)) else (none)) else (none)) else (none)) else (some x5)
def spec_moApply.l1 : Nat → List Int → List Int → Int → Int → Int → Int → Option (List Int)
 | 0, _, _, _, _, _, _ => none
 | k + 1, x0, x5, x7, x304000, x304001, x304002 => if x7 < x304001 then (if x304001 = 0 then (none) else (if 0 ≤ (Int.tmod (wrap64 (x7 + 1)) x304001) then (if (Int.tmod (wrap64 (x7 + 1)) x304001) < (x0.length : Int) then (if 0 ≤ x7 then (if x7 < (x5.length : Int) then (spec_moApply.l1 k x0 (x5.set (x7 : Int).toNat (rd x0 (Int.tmod (wrap64 (x7 + 1)) x304001))) (wrap64 (x7 + 1)) x304000 x304001 x304002) else (none)) else (none)) else (none)) else (none))) else (some x5)
end
def spec_moApply.f (k : Nat) (l0 : List Int) (a1_0 : Int) (a1_1 : Int) (a1_2 : Int) : Option (List Int) := (spec_l1Own.f l0).bind fun t304 => (if a1_0 = 0 then (if 0 ≤ a1_2 then (if a1_2 < (l0.length : Int) then (if 0 ≤ a1_1 then (if a1_1 < (t304.length : Int) then (if a1_1 < (l0.length : Int) then (if a1_2 < (t304.length : Int) then (some ((t304.set (a1_1 : Int).toNat (rd l0 a1_2)).set (a1_2 : Int).toNat (rd l0 a1_1))) else (none)) else (none)) else (none)) else (none)) else (none)) else (none)) else (if a1_0 = 1 then (spec_moApply.l0 k l0 t304 0 a1_0 a1_1 a1_2) else (spec_moApply.l1 k l0 t304 0 a1_0 a1_1 a1_2)))
theorem spec_moApply.mono_l : ∀ k, (∀ y0 y1 y2 y3 y4 y5, LeO (spec_moApply.l0 k y0 y1 y2 y3 y4 y5) (spec_moApply.l0 (k + 1) y0 y1 y2 y3 y4 y5)) ∧ (∀ y0 y1 y2 y3 y4 y5, LeO (spec_moApply.l1 k y0 y1 y2 y3 y4 y5) (spec_moApply.l1 (k + 1) y0 y1 y2 y3 y4 y5))
 | 0 => ⟨fun _ _ _ _ _ _ r h => by simp [spec_moApply.l0] at h, fun _ _ _ _ _ _ r h => by simp [spec_moApply.l1] at h⟩
 | k + 1 => by
  obtain ⟨ih0, ih1⟩ := spec_moApply.mono_l k
  refine ⟨?_, ?_⟩
  ·intro y0 y1 y2 y3 y4 y5
   unfold spec_moApply.l0
   repeat' first
   | (with_reducible exact ih0 _ _ _ _ _ _)
   | (with_reducible exact ih1 _ _ _ _ _ _)
   | (with_reducible exact LeO.refl _)
   | (with_reducible exact LeO.none _)
   | (with_reducible refine LeO.ite ?_ ?_)
   | (with_reducible refine LeO.bind ?_ (fun _ => ?_))
   | exact ih0 _ _ _ _ _ _
   | exact ih1 _ _ _ _ _ _
   | exact LeO.none _
   | refine LeO.ite ?_ ?_
   | refine LeO.bind ?_ (fun _ => ?_)
  ·intro y0 y1 y2 y3 y4 y5
   unfold spec_moApply.l1
   repeat' first
   | (with_reducible exact ih0 _ _ _ _ _ _)
   | (with_reducible exact ih1 _ _ _ _ _ _)
   | (with_reducible exact LeO.refl _)
   | (with_reducible exact LeO.none _)
   | (with_reducible refine LeO.ite ?_ ?_)
   | (with_reducible refine LeO.bind ?_ (fun _ => ?_))
   | exact ih0 _ _ _ _ _ _
   | exact ih1 _ _ _ _ _ _
   | exact LeO.none _
   | refine LeO.ite ?_ ?_
   | refine LeO.bind ?_ (fun _ => ?_)
theorem spec_moApply.mono : ∀ a0 a1 a2 a3 k, LeO (spec_moApply.f k a0 a1 a2 a3) (spec_moApply.f (k + 1) a0 a1 a2 a3) := by
 intro a0 a1 a2 a3 k
 obtain ⟨ih0, ih1⟩ := spec_moApply.mono_l k
 unfold spec_moApply.f
 repeat' first
   | (with_reducible exact ih0 _ _ _ _ _ _)
   | (with_reducible exact ih1 _ _ _ _ _ _)
   | (with_reducible exact LeO.refl _)
   | (with_reducible exact LeO.none _)
   | (with_reducible refine LeO.ite ?_ ?_)
   | (with_reducible refine LeO.bind ?_ (fun _ => ?_))
   | exact ih0 _ _ _ _ _ _
   | exact ih1 _ _ _ _ _ _
   | exact LeO.none _
   | refine LeO.ite ?_ ?_
   | refine LeO.bind ?_ (fun _ => ?_)
def spec_moApply.T8 : Bool × List (List Nat × List Nat) := (true, [([], []), ([], []), ([1], [1]), ([], []), ([], []), ([4], [4]), ([3, 5], [3, 5]), ([6], [6]), ([0, 2, 0, 1, 2, 3, 4, 5, 6, 7], [0, 2]), ([8, 7, 0, 1, 2, 3, 4, 5, 6, 7], [7, 8])])
def spec_moApply.B8 : List Nat := [0, 0, 2, 0, 0, 16, 56, 120, 255, 511]
theorem spec_moApply.tab8 : rtab .any (opsOf Try.f72 8) = spec_moApply.T8 := by kernel_rfl
theorem spec_moApply.bits8 : waitsOk spec_moApply.T8.2 spec_moApply.B8 = true := by kernel_rfl
def spec_moApply.T9 : Bool × List (List Nat × List Nat) := (true, [([], []), ([], []), ([1], [1]), ([], []), ([], []), ([4], [4]), ([3, 5], [3, 5]), ([6], [6]), ([0, 2, 0, 1, 2, 3, 4, 5, 6, 7], [0, 2]), ([8, 7, 0, 1, 2, 3, 4, 5, 6, 7], [7, 8])])
def spec_moApply.B9 : List Nat := [0, 0, 2, 0, 0, 16, 56, 120, 255, 511]
theorem spec_moApply.tab9 : rtab .any (opsOf Try.f72 9) = spec_moApply.T9 := by kernel_rfl
theorem spec_moApply.bits9 : waitsOk spec_moApply.T9.2 spec_moApply.B9 = true := by kernel_rfl
set_option maxHeartbeats 8000000 in
set_option maxRecDepth 100000 in
theorem spec_moApply.calls (k : Nat) (A0 : Option Addr) (c0 : Nat) (l0 : List Int) (a1_0 : Int) (a1_1 : Int) (a1_2 : Int) (r : List Int) (w : World) (hr0 : Kd.C (Kd.int .i64) w A0 l0.length l0) (hc0 : l0.length ≤ c0) (h : spec_moApply.f k l0 a1_0 a1_1 a1_2 = some r) :
  Calls Try.prog 72 #[.slice A0 l0.length c0, .agg #[.int .i64 a1_0, .int .i64 a1_1, .int .i64 a1_2]] w fun e w' => ∃ v0_ : Value, e = .returned (v0_) ∧ Kd.R (Kd.int .i64) 3 w' w.heap.size (fun _ => True) v0_ r ∧ Below w.heap.size w w' := by
 have hu45 := Try.underlying45
 have HR0 := Ya hr0
 have HC0 := Ya hc0
 clear hr0 hc0
 have HB := Ya (Below.refl w.heap.size w)
 have H : ((spec_l1Own.f l0).bind fun t304 => (if a1_0 = 0 then (if 0 ≤ a1_2 then (if a1_2 < (l0.length : Int) then (if 0 ≤ a1_1 then (if a1_1 < (t304.length : Int) then (if a1_1 < (l0.length : Int) then (if a1_2 < (t304.length : Int) then (some ((t304.set (a1_1 : Int).toNat (rd l0 a1_2)).set (a1_2 : Int).toNat (rd l0 a1_1))) else (none)) else (none)) else (none)) else (none)) else (none)) else (none)) else (if a1_0 = 1 then (spec_moApply.l0 k l0 t304 0 a1_0 a1_1 a1_2) else (spec_moApply.l1 k l0 t304 0 a1_0 a1_1 a1_2)))) = some r := h
 clear h
 replace H := Z35.mp H
 obtain ⟨t304, A30, H⟩ := H
 replace H : (if a1_0 = 0 then (if 0 ≤ a1_2 then (if a1_2 < (l0.length : Int) then (if 0 ≤ a1_1 then (if a1_1 < (t304.length : Int) then (if a1_1 < (l0.length : Int) then (if a1_2 < (t304.length : Int) then (some ((t304.set (a1_1 : Int).toNat (rd l0 a1_2)).set (a1_2 : Int).toNat (rd l0 a1_1))) else (none)) else (none)) else (none)) else (none)) else (none)) else (none)) else (if a1_0 = 1 then (spec_moApply.l0 k l0 t304 0 a1_0 a1_1 a1_2) else (spec_moApply.l1 k l0 t304 0 a1_0 a1_1 a1_2))) = some r := H
 have A3 := Ya A30
 clear A30
 by_cases c4 : a1_0 = 0
 ·rw [if_pos c4] at H
  have c4b0 : (a1_0 == 0) = true := beq_iff_eq.mpr c4
  have c4b1 : (a1_0 != 0) = false := bne_eq_false_iff_eq.mpr c4
  clear c4
  by_cases c5 : 0 ≤ a1_2
  ·rw [if_pos c5] at H
   have c5b0 := Z37 c5
   clear c5
   by_cases c6 : a1_2 < (l0.length : Int)
   ·rw [if_pos c6] at H
    have c6b0 := Z37 c6
    clear c6
    by_cases c7 : 0 ≤ a1_1
    ·rw [if_pos c7] at H
     have c7b0 := Z37 c7
     clear c7
     by_cases c8 : a1_1 < (t304.length : Int)
     ·rw [if_pos c8] at H
      have c8b0 := Z37 c8
      clear c8
      obtain ⟨y308, hy308⟩ : ∃ y_ : List Int, y_ = (t304.set (a1_1 : Int).toNat (rd l0 a1_2)) := ⟨_, rfl⟩
      replace H : (if a1_1 < (l0.length : Int) then (if a1_2 < (t304.length : Int) then (some (y308.set (a1_2 : Int).toNat (rd l0 a1_1))) else (none)) else (none)) = some r := by first | (rw [hy308]; with_reducible exact H) | (have H2_ := (Option.bind_some _ _).symm.trans H; rw [hy308]; with_reducible exact H2_) | (have H2_ := (Option.bind_some _ _).symm.trans H; with_reducible exact H2_) | with_reducible exact H | (rw [hy308]; exact H) | exact H
      have Ny308 := Ya hy308
      clear hy308
      by_cases c10 : a1_1 < (l0.length : Int)
      ·rw [if_pos c10] at H
       have c10b0 := Z37 c10
       clear c10
       by_cases c11 : a1_2 < (t304.length : Int)
       ·rw [if_pos c11] at H
        have c11b0 := Z37 c11
        clear c11
        obtain ⟨y310, hy310⟩ : ∃ y_ : List Int, y_ = (y308.set (a1_2 : Int).toNat (rd l0 a1_1)) := ⟨_, rfl⟩
        replace H : (some y310) = some r := by first | (rw [hy310]; with_reducible exact H) | (have H2_ := (Option.bind_some _ _).symm.trans H; rw [hy310]; with_reducible exact H2_) | (have H2_ := (Option.bind_some _ _).symm.trans H; with_reducible exact H2_) | with_reducible exact H | (rw [hy310]; exact H) | exact H
        have Ny310 := Ya hy310
        clear hy310
        obtain rfl := Option.some.inj H
        go_enter Try.func72, Try.ntmps72
        try go_wp2_with (first | ((with_reducible refine gate_dst (N := 3) rfl ?_); refine Yx 3 #[.int .i64 a1_0, .int .i64 a1_1, .int .i64 a1_2] 45 ?_; intro gb303 hg w13 hbox hb; have BK303 := Ya hbox; have GE303 := Yg hg; replace HB := Yh hb; clear hb hbox hg) | ((with_reducible refine gate_callee (f := 83) rfl ?_); refine Yz 9 Try.func83 #[.slice A0 l0.length c0] ?_; (with_reducible refine (spec_l1Own.calls _ _ l0 t304 _ (Yc (Z21 HR0.out HB.out)) HC0.out A3.out).mono ?_); rintro e w14 ⟨v305, rfl, ho0, hb⟩; refine ⟨_, rfl, ?_⟩; have HO306 := Yl ho0; replace BK303 := Yb BK303 hb; replace HB := Yh hb; (try clear hb ho0); have hcz15_0 : w14.cell? ⟨gb303, 0, none⟩ = some (.int .i64 a1_0) := (Z22 BK303.out 0).trans rfl; have hcz15_1 : w14.cell? ⟨gb303, 1, none⟩ = some (.int .i64 a1_1) := (Z22 BK303.out 1).trans rfl; have hcz15_2 : w14.cell? ⟨gb303, 2, none⟩ = some (.int .i64 a1_2) := (Z22 BK303.out 2).trans rfl; have hfz15_0 := Z23 BK303.out 0; have hfz15_1 := Z23 BK303.out 1; have hfz15_2 := Z23 BK303.out 2))
        replace HO306 := Ya (Z11 HO306.out)
        replace BK303 := Ya (Z25 BK303.out)
        replace HB := Ya (Z4 HB.out)
        have p307 : 0 ≤ (a1_2 : Int) := Z29 Q1
        have q307 : a1_2 < (l0.length : Int) := Z29 Q1
        obtain ⟨ad307, e307, hx307_0⟩ := Kd.at_int HR0.out a1_2 p307 q307
        have hw307_0 := hx307_0
        cases e307
        try replace hx307_0 := (HB.out.cell (World.block_lt_of_cell? w _ hx307_0)).trans hx307_0
        replace p307 := eq_true p307
        replace q307 := eq_true q307
        have p9 : 0 ≤ (a1_1 : Int) := Z29 Q1
        have q9 : (a1_1 : Int) < ((t304.length : Int) : Int) := Z29 Q1
        obtain ⟨go9, co9, eo9, gb9, gl9, cl9, HG9⟩ := Kd.R_form HO306.out (by omega)
        (first | cases eo9 | (injection eo9 with ea_ en_ ec_; (first | subst ea_ | (injection ea_ with ea_; subst ea_)); subst ec_; clear en_))
        have GB9 := Ya gb9
        have GG9 := Ya HG9
        clear gb9 gl9 HG9
        obtain ⟨hx9_0, hf9_0⟩ := Kd.R_celln 0 HO306.out (a1_1 : Int) p9 q9
        replace p9 := eq_true p9
        replace q9 := eq_true q9
        have HP17 := Kd.R_putn HO306.out (a1_1 : Int) (rd l0 a1_2)
        rw [← Ny308.out] at HP17
        have HQ17 := Ya HP17
        clear HP17
        refine start_ (n := 10) (S := fun w' => w'.cell? ⟨gb303, 0, none⟩ = some (.int .i64 a1_0) ∧ w'.cell? ⟨gb303, 1, none⟩ = some (.int .i64 a1_1) ∧ w'.cell? ⟨gb303, 2, none⟩ = some (.int .i64 a1_2) ∧ w'.cell? (ad307.add (a1_2).toNat) = some (.int .i64 (rd l0 a1_2))) (ds := [9]) (YA 10 0) (by kernel_rfl) rfl rfl ⟨(Z22 BK303.out 0).trans rfl, (Z22 BK303.out 1).trans rfl, (Z22 BK303.out 2).trans rfl, ((HB.out.cell (World.block_lt_of_cell? w _ hw307_0)).trans hw307_0)⟩ (fun hHeld => ?_); refine with_tabW spec_moApply.tab8 spec_moApply.bits8 (fun HT_ HW_ => ?_)
        generalize w14.drew = w16 at HO306 BK303 HB GG9 HQ17 hf9_0 hx307_0 hx9_0 hHeld ⊢
        refine Yp 0 (some 31) (YA 10 1) rfl HT_.out ?_
        refine Yp 1 (some 32) (YA 10 3) rfl HT_.out ?_
        refine Yp 3 (some 34) (YA 10 11) rfl HT_.out ?_
        refine Yp 4 (some 35) (YA 10 27) rfl HT_.out ?_
        refine Yt 2 (some 33) (YA 10 31) rfl HT_.out HW_.out hHeld Q17 ?_
        refine Yt 5 (some 36) (YA 10 63) rfl HT_.out HW_.out hHeld Q17 ?_
        refine Yp 6 (some 37) (YA 10 127) rfl HT_.out ?_
        refine Yt 7 (some 38) (YA 10 255) rfl HT_.out HW_.out hHeld Q17 ?_
        refine Yp 8 (some 39) (YA 10 511) rfl HT_.out ?_
        refine last_ (i := 9) (N := none) (YA 10 1023) rfl rfl (one_of HT_.out (by kernel_rfl)) (by decide) (fun K hK => ?_)
        refine skip_ (w1 := ?_) (by rfl) rfl ?_ ?_
        rotate_left
        ·go_simp
         rfl
        refine hK.out _ _ ?_
        clear hK K
        refine done_ (done_of HT_.out (by kernel_rfl)) ?_
        try go_wp2
        replace BK303 : Aside0 ((w16.setCell ⟨go9, (a1_1 : Int).toNat, none⟩ (.int .i64 (rd l0 a1_2))).heap[gb303]? = some (.cells #[.int .i64 a1_0, .int .i64 a1_1, .int .i64 a1_2] 45 (0, 0))) := ⟨by (with_reducible repeat (first | refine Z24 ?_ _ | refine Z25 ?_ | refine Z26 ?_ _)); refine blk_far ?_ (by have h_ := Kd.R_ne HO306.out BK303.out (by decide); intro e_; exact h_ (by rw [e_]; rfl)) _; (with_reducible repeat (first | refine Z24 ?_ _ | refine Z25 ?_ | refine Z26 ?_ _)); exact BK303.out⟩
        replace HO306 : Aside0 (Kd.R (Kd.int .i64) 3 (w16.setCell ⟨go9, (a1_1 : Int).toNat, none⟩ (.int .i64 (rd l0 a1_2))) w.heap.size (fun _ => True) (.slice (some ⟨go9, 0, none⟩) t304.length co9) y308) := ⟨by (with_reducible repeat (first | apply Z9 | apply Z10 | apply Z11)); exact HQ17.out⟩
        replace HB : Aside0 (Below w.heap.size w (w16.setCell ⟨go9, (a1_1 : Int).toNat, none⟩ (.int .i64 (rd l0 a1_2)))) := ⟨Q0⟩
        generalize (w16.setCell ⟨go9, (a1_1 : Int).toNat, none⟩ (.int .i64 (rd l0 a1_2))) = w18 at HO306 BK303 HB ⊢
        replace HO306 := Ya (Z11 HO306.out)
        replace BK303 := Ya (Z25 BK303.out)
        replace HB := Ya (Z4 HB.out)
        have p309 : 0 ≤ (a1_1 : Int) := Z29 Q1
        have q309 : a1_1 < (l0.length : Int) := Z29 Q1
        obtain ⟨ad309, e309, hx309_0⟩ := Kd.at_int HR0.out a1_1 p309 q309
        have hw309_0 := hx309_0
        obtain rfl : ad307 = ad309 := (by injection e309)
        try replace hx309_0 := (HB.out.cell (World.block_lt_of_cell? w _ hx309_0)).trans hx309_0
        replace p309 := eq_true p309
        replace q309 := eq_true q309
        have p12 : 0 ≤ (a1_2 : Int) := Z29 Q1
        have q12 : (a1_2 : Int) < ((t304.length : Int) : Int) := Z29 Q1
        obtain ⟨hx12_0, hf12_0⟩ := Kd.R_celln 0 HO306.out (a1_2 : Int) p12 q12
        replace p12 := eq_true p12
        replace q12 := eq_true q12
        have HP20 := Kd.R_putn HO306.out (a1_2 : Int) (rd l0 a1_1)
        rw [← Ny310.out] at HP20
        have HQ20 := Ya HP20
        clear HP20
        refine start_ (n := 10) (S := fun w' => w'.cell? ⟨gb303, 0, none⟩ = some (.int .i64 a1_0) ∧ w'.cell? ⟨gb303, 1, none⟩ = some (.int .i64 a1_1) ∧ w'.cell? ⟨gb303, 2, none⟩ = some (.int .i64 a1_2) ∧ w'.cell? (ad307.add (a1_1).toNat) = some (.int .i64 (rd l0 a1_1))) (ds := [9]) (YA 10 0) (by kernel_rfl) rfl rfl ⟨(Z22 BK303.out 0).trans rfl, (Z22 BK303.out 1).trans rfl, (Z22 BK303.out 2).trans rfl, ((HB.out.cell (World.block_lt_of_cell? w _ hw309_0)).trans hw309_0)⟩ (fun hHeld => ?_); refine with_tabW spec_moApply.tab9 spec_moApply.bits9 (fun HT_ HW_ => ?_)
        generalize w18.drew = w19 at HO306 BK303 HB HQ17 HQ20 hf12_0 hx12_0 hx309_0 hHeld ⊢
        refine Yp 0 (some 40) (YA 10 1) rfl HT_.out ?_
        refine Yp 1 (some 41) (YA 10 3) rfl HT_.out ?_
        refine Yp 3 (some 43) (YA 10 11) rfl HT_.out ?_
        refine Yp 4 (some 44) (YA 10 27) rfl HT_.out ?_
        refine Yt 2 (some 42) (YA 10 31) rfl HT_.out HW_.out hHeld Q17 ?_
        refine Yt 5 (some 45) (YA 10 63) rfl HT_.out HW_.out hHeld Q17 ?_
        refine Yp 6 (some 46) (YA 10 127) rfl HT_.out ?_
        refine Yt 7 (some 47) (YA 10 255) rfl HT_.out HW_.out hHeld Q17 ?_
        refine Yp 8 (some 48) (YA 10 511) rfl HT_.out ?_
        refine last_ (i := 9) (N := none) (YA 10 1023) rfl rfl (one_of HT_.out (by kernel_rfl)) (by decide) (fun K hK => ?_)
        refine skip_ (w1 := ?_) (by rfl) rfl ?_ ?_
        rotate_left
        ·go_simp
         rfl
        refine hK.out _ _ ?_
        clear hK K
        refine done_ (done_of HT_.out (by kernel_rfl)) ?_
        try go_wp2
        go_ret
        exact ⟨_, Q2, by (with_reducible repeat (first | apply Z9 | apply Z10 | apply Z11)); exact HQ20.out, Q0⟩
       ·rw [if_neg c11] at H
        exact absurd H (by simp)
      ·rw [if_neg c10] at H
       exact absurd H (by simp)
     ·rw [if_neg c8] at H
      exact absurd H (by simp)
    ·rw [if_neg c7] at H
     exact absurd H (by simp)
   ·rw [if_neg c6] at H
    exact absurd H (by simp)
  ·rw [if_neg c5] at H
   exact absurd H (by simp)
 ·rw [if_neg c4] at H
  have c4b0 : (a1_0 == 0) = false := beq_eq_false_iff_ne.mpr c4
  have c4b1 : (a1_0 != 0) = true := bne_iff_ne.mpr c4
  by_cases c21 : a1_0 = 1
  ·rw [if_pos c21] at H
   have c21b0 : (a1_0 == 1) = true := beq_iff_eq.mpr c21
   have c21b1 : (a1_0 != 1) = false := bne_eq_false_iff_eq.mpr c21
   clear c21
   have H' := Ya H
   clear H
   go_enter Try.func72, Try.ntmps72
   go_wp2_with (first | ((with_reducible refine gate_dst (N := 3) rfl ?_); refine Yx 3 #[.int .i64 a1_0, .int .i64 a1_1, .int .i64 a1_2] 45 ?_; intro gb303 hg w22 hbox hb; have BK303 := Ya hbox; have GE303 := Yg hg; replace HB := Yh hb; clear hb hbox hg) | ((with_reducible refine gate_callee (f := 83) rfl ?_); refine Yz 9 Try.func83 #[.slice A0 l0.length c0] ?_; (with_reducible refine (spec_l1Own.calls _ _ l0 t304 _ (Yc (Z21 HR0.out HB.out)) HC0.out A3.out).mono ?_); rintro e w23 ⟨v305, rfl, ho0, hb⟩; refine ⟨_, rfl, ?_⟩; have HO306 := Yl ho0; replace BK303 := Yb BK303 hb; replace HB := Yh hb; (try clear hb ho0); have hcz24_0 : w23.cell? ⟨gb303, 0, none⟩ = some (.int .i64 a1_0) := (Z22 BK303.out 0).trans rfl; have hcz24_1 : w23.cell? ⟨gb303, 1, none⟩ = some (.int .i64 a1_1) := (Z22 BK303.out 1).trans rfl; have hcz24_2 : w23.cell? ⟨gb303, 2, none⟩ = some (.int .i64 a1_2) := (Z22 BK303.out 2).trans rfl; have hfz24_0 := Z23 BK303.out 0; have hfz24_1 := Z23 BK303.out 1; have hfz24_2 := Z23 BK303.out 2))
   go_loopg [6] k (fun kq v6 w' => ∃ (x5_1 : List Int) (x6_1 : Int), v6 = .int .i64 x6_1 ∧ Aside0 (spec_moApply.l0 kq l0 x5_1 x6_1 a1_0 a1_1 a1_2 = some r) ∧ Aside0 (kq ≤ k) ∧ Aside0 (Kd.R (Kd.int .i64) 3 w' w.heap.size (fun _ => True) v305 x5_1) ∧ Aside0 (w'.heap[gb303]? = some (.cells #[.int .i64 a1_0, .int .i64 a1_1, .int .i64 a1_2] 45 (0, 0))) ∧ Aside0 (Below w.heap.size w w'))
   case atStart => exact ⟨(t304), (0), Q5, H', ⟨Nat.le_refl _⟩, ⟨by (with_reducible repeat (first | apply Z9 | apply Z10 | apply Z11)); exact HO306.out⟩, ⟨Q43⟩, ⟨Q0⟩⟩
   case round =>
    clear H'
    try clear c1
    try clear p1
    try clear q1
    try clear hx1
    try clear c2
    try clear p2
    try clear p3
    try clear q3
    try clear hx3
    try clear c4
    try clear c4b0
    try clear c4b1
    try clear c5
    try clear c5b0
    try clear c6
    try clear c6b0
    try clear c7
    try clear c7b0
    try clear c8
    try clear c8b0
    try clear p9
    try clear q9
    try clear hx9
    try clear hf9
    try clear c10
    try clear c10b0
    try clear c11
    try clear c11b0
    try clear p12
    try clear q12
    try clear hx12
    try clear hf12
    try clear c21
    try clear c21b0
    try clear c21b1
    try clear hcz15_0
    try clear hcz15_1
    try clear hcz15_2
    try clear hcz24_0
    try clear hcz24_1
    try clear hcz24_2
    try clear hfz15_0
    try clear hfz15_1
    try clear hfz15_2
    try clear hfz24_0
    try clear hfz24_1
    try clear hfz24_2
    try clear hx12_0
    try clear hx307_0
    try clear hx309_0
    try clear hx9_0
    try clear p12
    try clear p307
    try clear p309
    try clear p9
    try clear q12
    try clear q307
    try clear q309
    try clear q9
    obtain ⟨x5_1, x6_1, rfl, HA, HK1, HO_5, BK303, HB⟩ := hrel
    cases gk with
    | zero => exact absurd HA.out (by simp [spec_moApply.l0])
    | succ k1 =>
     have H := HA.out
     clear HA
     simp only [spec_moApply.l0] at H
     by_cases c25 : x6_1 < a1_1
     ·rw [if_pos c25] at H
      have c25b0 := Z37 c25
      clear c25
      obtain ⟨ji26, hji26⟩ : ∃ j_ : Int, (wrap64 ((wrap64 (a1_1 - 1)) - x6_1)) = j_ := ⟨_, rfl⟩
      replace H : (if 0 ≤ (ji26) then (if (ji26) < (l0.length : Int) then (if 0 ≤ x6_1 then (if x6_1 < (x5_1.length : Int) then (spec_moApply.l0 k1 l0 (x5_1.set (x6_1 : Int).toNat (rd l0 (ji26))) (wrap64 (x6_1 + 1)) a1_0 a1_1 a1_2) else (none)) else (none)) else (none)) else (none)) = some r := by first | (rw [hji26] at H; exact H) | (simp only [hji26] at H ⊢; exact H)
      have hji26w : (IntKind.i64.wrap ((wrap64 (a1_1 - 1)) - x6_1)) = ji26 := (i64_w _).trans hji26
      by_cases c27 : 0 ≤ (ji26)
      ·rw [if_pos c27] at H
       have c27b0 := Z37 c27
       clear c27
       by_cases c28 : (ji26) < (l0.length : Int)
       ·rw [if_pos c28] at H
        have c28b0 := Z37 c28
        clear c28
        by_cases c29 : 0 ≤ x6_1
        ·rw [if_pos c29] at H
         have c29b0 := Z37 c29
         clear c29
         by_cases c30 : x6_1 < (x5_1.length : Int)
         ·rw [if_pos c30] at H
          have c30b0 := Z37 c30
          clear c30
          obtain ⟨y312, hy312⟩ : ∃ y_ : List Int, y_ = (x5_1.set (x6_1 : Int).toNat (rd l0 (ji26))) := ⟨_, rfl⟩
          replace H : (spec_moApply.l0 k1 l0 y312 (wrap64 (x6_1 + 1)) a1_0 a1_1 a1_2) = some r := by first | (rw [hy312]; with_reducible exact H) | (have H2_ := (Option.bind_some _ _).symm.trans H; rw [hy312]; with_reducible exact H2_) | (have H2_ := (Option.bind_some _ _).symm.trans H; with_reducible exact H2_) | with_reducible exact H | (rw [hy312]; exact H) | exact H
          have Ny312 := Ya hy312
          clear hy312
          have H' := Ya H
          clear H
          have hcz32_0 : wr.cell? ⟨gb303, 0, none⟩ = some (.int .i64 a1_0) := (Z22 BK303.out 0).trans rfl
          have hcz32_1 : wr.cell? ⟨gb303, 1, none⟩ = some (.int .i64 a1_1) := (Z22 BK303.out 1).trans rfl
          have hcz32_2 : wr.cell? ⟨gb303, 2, none⟩ = some (.int .i64 a1_2) := (Z22 BK303.out 2).trans rfl
          have hfz32_0 := Z23 BK303.out 0
          have hfz32_1 := Z23 BK303.out 1
          have hfz32_2 := Z23 BK303.out 2
          have p311 : 0 ≤ ((ji26) : Int) := Z29 Q1
          have q311 : (ji26) < (l0.length : Int) := Z29 Q1
          obtain ⟨ad311, e311, hx311_0⟩ := Kd.at_int HR0.out (ji26) p311 q311
          cases e311
          try replace hx311_0 := (HB.out.cell (World.block_lt_of_cell? w _ hx311_0)).trans hx311_0
          replace p311 := eq_true p311
          replace q311 := eq_true q311
          have p31 : 0 ≤ (x6_1 : Int) := Z29 Q1
          have q31 : (x6_1 : Int) < ((x5_1.length : Int) : Int) := Z29 Q1
          obtain ⟨go31, co31, eo31, gb31, gl31, cl31, HG31⟩ := Kd.R_form HO_5.out (by omega)
          (first | cases eo31 | (injection eo31 with ea_ en_ ec_; (first | subst ea_ | (injection ea_ with ea_; subst ea_)); subst ec_; clear en_))
          have GB31 := Ya gb31
          have GG31 := Ya HG31
          clear gb31 gl31 HG31
          obtain ⟨hx31_0, hf31_0⟩ := Kd.R_celln 0 HO_5.out (x6_1 : Int) p31 q31
          replace p31 := eq_true p31
          replace q31 := eq_true q31
          have HP33 := Kd.R_putg HO_5.out (x6_1 : Int) (rd l0 (ji26))
          go_wp2_with (first | ((with_reducible refine gate_store (t := 3) (p := 67) rfl ?_); refine store_event (t := 3) (p := 67) (v := ?vo_w34) (w1 := (wr.setCell ⟨go31, (x6_1 : Int).toNat, none⟩ (.int .i64 (rd l0 (ji26))))) ?hg ?ho ?hn ?hr ?_; (case ho => rfl); (case hg => rfl); (case hn => rfl); (case hr => first | (go_simp; done) | (go_simp; rfl)); intro w34 hw; have hg : wr.grownBy w34 (some go31) := (by rw [hw]; exact HP33.2); have hp_ : Kd.R (Kd.int .i64) 3 w34 w.heap.size (fun _ => True) (.slice (some ⟨go31, 0, none⟩) x5_1.length co31) y312 := (by rw [hw, Ny312.out]; exact HP33.1); clear HP33; replace BK303 := Ya (blk_grown (g := gb303) (o := .cells #[.int .i64 a1_0, .int .i64 a1_1, .int .i64 a1_2] 45 (0, 0)) (Yk BK303.out) hg (Kd.R_ne HO_5.out BK303.out (by decide))); replace HO_5 := Ya hp_; replace HB := Ya ((by rw [hw]; exact Z6 (HB.out) GB31.out : Below w.heap.size w w34)); clear hg hw hp_))
          go_roundg k1
          case measure => have := HK1.out; omega
          case rel => exact ⟨(y312), (wrap64 (x6_1 + 1)), Q5, H', ⟨Q28⟩, ⟨Q21⟩, ⟨Q43⟩, ⟨Q0⟩⟩
         ·rw [if_neg c30] at H
          exact absurd H (by simp)
        ·rw [if_neg c29] at H
         exact absurd H (by simp)
       ·rw [if_neg c28] at H
        exact absurd H (by simp)
      ·rw [if_neg c27] at H
       exact absurd H (by simp)
     ·rw [if_neg c25] at H
      have c25b0 := Z36 c25
      clear c25
      obtain rfl := Option.some.inj H
      have hcz35_0 : wr.cell? ⟨gb303, 0, none⟩ = some (.int .i64 a1_0) := (Z22 BK303.out 0).trans rfl
      have hcz35_1 : wr.cell? ⟨gb303, 1, none⟩ = some (.int .i64 a1_1) := (Z22 BK303.out 1).trans rfl
      have hcz35_2 : wr.cell? ⟨gb303, 2, none⟩ = some (.int .i64 a1_2) := (Z22 BK303.out 2).trans rfl
      have hfz35_0 := Z23 BK303.out 0
      have hfz35_1 := Z23 BK303.out 1
      have hfz35_2 := Z23 BK303.out 2
      go_wp2
      go_ret
      exact ⟨_, Q2, Q21, Q0⟩
  ·rw [if_neg c21] at H
   have c21b0 : (a1_0 == 1) = false := beq_eq_false_iff_ne.mpr c21
   have c21b1 : (a1_0 != 1) = true := bne_iff_ne.mpr c21
   have H' := Ya H
   clear H
   go_enter Try.func72, Try.ntmps72
   go_wp2_with (first | ((with_reducible refine gate_dst (N := 3) rfl ?_); refine Yx 3 #[.int .i64 a1_0, .int .i64 a1_1, .int .i64 a1_2] 45 ?_; intro gb303 hg w36 hbox hb; have BK303 := Ya hbox; have GE303 := Yg hg; replace HB := Yh hb; clear hb hbox hg) | ((with_reducible refine gate_callee (f := 83) rfl ?_); refine Yz 9 Try.func83 #[.slice A0 l0.length c0] ?_; (with_reducible refine (spec_l1Own.calls _ _ l0 t304 _ (Yc (Z21 HR0.out HB.out)) HC0.out A3.out).mono ?_); rintro e w37 ⟨v305, rfl, ho0, hb⟩; refine ⟨_, rfl, ?_⟩; have HO306 := Yl ho0; replace BK303 := Yb BK303 hb; replace HB := Yh hb; (try clear hb ho0); have hcz38_0 : w37.cell? ⟨gb303, 0, none⟩ = some (.int .i64 a1_0) := (Z22 BK303.out 0).trans rfl; have hcz38_1 : w37.cell? ⟨gb303, 1, none⟩ = some (.int .i64 a1_1) := (Z22 BK303.out 1).trans rfl; have hcz38_2 : w37.cell? ⟨gb303, 2, none⟩ = some (.int .i64 a1_2) := (Z22 BK303.out 2).trans rfl; have hfz38_0 := Z23 BK303.out 0; have hfz38_1 := Z23 BK303.out 1; have hfz38_2 := Z23 BK303.out 2))
   go_loopg [7] k (fun kq v7 w' => ∃ (x5_1 : List Int) (x7_1 : Int), v7 = .int .i64 x7_1 ∧ Aside0 (spec_moApply.l1 kq l0 x5_1 x7_1 a1_0 a1_1 a1_2 = some r) ∧ Aside0 (kq ≤ k) ∧ Aside0 (Kd.R (Kd.int .i64) 3 w' w.heap.size (fun _ => True) v305 x5_1) ∧ Aside0 (w'.heap[gb303]? = some (.cells #[.int .i64 a1_0, .int .i64 a1_1, .int .i64 a1_2] 45 (0, 0))) ∧ Aside0 (Below w.heap.size w w'))
   case atStart => exact ⟨(t304), (0), Q5, H', ⟨Nat.le_refl _⟩, ⟨by (with_reducible repeat (first | apply Z9 | apply Z10 | apply Z11)); exact HO306.out⟩, ⟨Q43⟩, ⟨Q0⟩⟩
   case round =>
    clear H'
    try clear c1
    try clear p1
    try clear q1
    try clear hx1
    try clear c2
    try clear p2
    try clear c3
    try clear p3
    try clear q3
    try clear hx3
    try clear hf3
    try clear c4
    try clear c4b0
    try clear c4b1
    try clear c5
    try clear c5b0
    try clear c6
    try clear c6b0
    try clear p6
    try clear c7
    try clear c7b0
    try clear c8
    try clear c8b0
    try clear p9
    try clear q9
    try clear hx9
    try clear hf9
    try clear c10
    try clear c10b0
    try clear c11
    try clear c11b0
    try clear p12
    try clear q12
    try clear hx12
    try clear hf12
    try clear c21
    try clear c21b0
    try clear c21b1
    try clear c25
    try clear c25b0
    try clear c27
    try clear c27b0
    try clear c28
    try clear c28b0
    try clear c29
    try clear c29b0
    try clear c30
    try clear c30b0
    try clear p30
    try clear q30
    try clear hx30
    try clear p31
    try clear q31
    try clear hx31
    try clear hf31
    try clear hcz15_0
    try clear hcz15_1
    try clear hcz15_2
    try clear hcz24_0
    try clear hcz24_1
    try clear hcz24_2
    try clear hcz32_0
    try clear hcz32_1
    try clear hcz32_2
    try clear hcz35_0
    try clear hcz35_1
    try clear hcz35_2
    try clear hcz38_0
    try clear hcz38_1
    try clear hcz38_2
    try clear hfz15_0
    try clear hfz15_1
    try clear hfz15_2
    try clear hfz24_0
    try clear hfz24_1
    try clear hfz24_2
    try clear hfz32_0
    try clear hfz32_1
    try clear hfz32_2
    try clear hfz35_0
    try clear hfz35_1
    try clear hfz35_2
    try clear hfz38_0
    try clear hfz38_1
    try clear hfz38_2
    try clear hx12_0
    try clear hx307_0
    try clear hx309_0
    try clear hx311_0
    try clear hx31_0
    try clear hx9_0
    try clear p1
    try clear p12
    try clear p2
    try clear p3
    try clear p307
    try clear p309
    try clear p31
    try clear p311
    try clear p9
    try clear q1
    try clear q12
    try clear q3
    try clear q307
    try clear q309
    try clear q31
    try clear q311
    try clear q9
    obtain ⟨x5_1, x7_1, rfl, HA, HK1, HO_5, BK303, HB⟩ := hrel
    cases gk with
    | zero => exact absurd HA.out (by simp [spec_moApply.l1])
    | succ k1 =>
     have H := HA.out
     clear HA
     simp only [spec_moApply.l1] at H
     by_cases c39 : x7_1 < a1_1
     ·rw [if_pos c39] at H
      have c39b0 := Z37 c39
      clear c39
      by_cases c40 : a1_1 = 0
      ·rw [if_pos c40] at H
       exact absurd H (by simp)
      ·rw [if_neg c40] at H
       have c40b0 : (a1_1 == 0) = false := beq_eq_false_iff_ne.mpr c40
       have c40b1 : (a1_1 != 0) = true := bne_iff_ne.mpr c40
       obtain ⟨ji41, hji41⟩ : ∃ j_ : Int, (Int.tmod (wrap64 (x7_1 + 1)) a1_1) = j_ := ⟨_, rfl⟩
       replace H : (if 0 ≤ (ji41) then (if (ji41) < (l0.length : Int) then (if 0 ≤ x7_1 then (if x7_1 < (x5_1.length : Int) then (spec_moApply.l1 k1 l0 (x5_1.set (x7_1 : Int).toNat (rd l0 (ji41))) (wrap64 (x7_1 + 1)) a1_0 a1_1 a1_2) else (none)) else (none)) else (none)) else (none)) = some r := by first | (rw [hji41] at H; exact H) | (simp only [hji41] at H ⊢; exact H)
       by_cases c42 : 0 ≤ (ji41)
       ·rw [if_pos c42] at H
        have c42b0 := Z37 c42
        clear c42
        by_cases c43 : (ji41) < (l0.length : Int)
        ·rw [if_pos c43] at H
         have c43b0 := Z37 c43
         clear c43
         by_cases c44 : 0 ≤ x7_1
         ·rw [if_pos c44] at H
          have c44b0 := Z37 c44
          clear c44
          by_cases c45 : x7_1 < (x5_1.length : Int)
          ·rw [if_pos c45] at H
           have c45b0 := Z37 c45
           clear c45
           obtain ⟨y314, hy314⟩ : ∃ y_ : List Int, y_ = (x5_1.set (x7_1 : Int).toNat (rd l0 (ji41))) := ⟨_, rfl⟩
           replace H : (spec_moApply.l1 k1 l0 y314 (wrap64 (x7_1 + 1)) a1_0 a1_1 a1_2) = some r := by first | (rw [hy314]; with_reducible exact H) | (have H2_ := (Option.bind_some _ _).symm.trans H; rw [hy314]; with_reducible exact H2_) | (have H2_ := (Option.bind_some _ _).symm.trans H; with_reducible exact H2_) | with_reducible exact H | (rw [hy314]; exact H) | exact H
           have Ny314 := Ya hy314
           clear hy314
           have H' := Ya H
           clear H
           have hcz47_0 : wr.cell? ⟨gb303, 0, none⟩ = some (.int .i64 a1_0) := (Z22 BK303.out 0).trans rfl
           have hcz47_1 : wr.cell? ⟨gb303, 1, none⟩ = some (.int .i64 a1_1) := (Z22 BK303.out 1).trans rfl
           have hcz47_2 : wr.cell? ⟨gb303, 2, none⟩ = some (.int .i64 a1_2) := (Z22 BK303.out 2).trans rfl
           have hfz47_0 := Z23 BK303.out 0
           have hfz47_1 := Z23 BK303.out 1
           have hfz47_2 := Z23 BK303.out 2
           have p313 : 0 ≤ ((ji41) : Int) := Z29 Q1
           have q313 : (ji41) < (l0.length : Int) := Z29 Q1
           obtain ⟨ad313, e313, hx313_0⟩ := Kd.at_int HR0.out (ji41) p313 q313
           cases e313
           try replace hx313_0 := (HB.out.cell (World.block_lt_of_cell? w _ hx313_0)).trans hx313_0
           replace p313 := eq_true p313
           replace q313 := eq_true q313
           have p46 : 0 ≤ (x7_1 : Int) := Z29 Q1
           have q46 : (x7_1 : Int) < ((x5_1.length : Int) : Int) := Z29 Q1
           obtain ⟨go46, co46, eo46, gb46, gl46, cl46, HG46⟩ := Kd.R_form HO_5.out (by omega)
           (first | cases eo46 | (injection eo46 with ea_ en_ ec_; (first | subst ea_ | (injection ea_ with ea_; subst ea_)); subst ec_; clear en_))
           have GB46 := Ya gb46
           have GG46 := Ya HG46
           clear gb46 gl46 HG46
           obtain ⟨hx46_0, hf46_0⟩ := Kd.R_celln 0 HO_5.out (x7_1 : Int) p46 q46
           replace p46 := eq_true p46
           replace q46 := eq_true q46
           have HP48 := Kd.R_putg HO_5.out (x7_1 : Int) (rd l0 (ji41))
           go_wp2_with (first | ((with_reducible refine gate_store (t := 3) (p := 28) rfl ?_); refine store_event (t := 3) (p := 28) (v := ?vo_w49) (w1 := (wr.setCell ⟨go46, (x7_1 : Int).toNat, none⟩ (.int .i64 (rd l0 (ji41))))) ?hg ?ho ?hn ?hr ?_; (case ho => rfl); (case hg => rfl); (case hn => rfl); (case hr => first | (go_simp; done) | (go_simp; rfl)); intro w49 hw; have hg : wr.grownBy w49 (some go46) := (by rw [hw]; exact HP48.2); have hp_ : Kd.R (Kd.int .i64) 3 w49 w.heap.size (fun _ => True) (.slice (some ⟨go46, 0, none⟩) x5_1.length co46) y314 := (by rw [hw, Ny314.out]; exact HP48.1); clear HP48; replace BK303 := Ya (blk_grown (g := gb303) (o := .cells #[.int .i64 a1_0, .int .i64 a1_1, .int .i64 a1_2] 45 (0, 0)) (Yk BK303.out) hg (Kd.R_ne HO_5.out BK303.out (by decide))); replace HO_5 := Ya hp_; replace HB := Ya ((by rw [hw]; exact Z6 (HB.out) GB46.out : Below w.heap.size w w49)); clear hg hw hp_))
           go_roundg k1
           case measure => have := HK1.out; omega
           case rel => exact ⟨(y314), (wrap64 (x7_1 + 1)), Q5, H', ⟨Q28⟩, ⟨Q21⟩, ⟨Q43⟩, ⟨Q0⟩⟩
          ·rw [if_neg c45] at H
           exact absurd H (by simp)
         ·rw [if_neg c44] at H
          exact absurd H (by simp)
        ·rw [if_neg c43] at H
         exact absurd H (by simp)
       ·rw [if_neg c42] at H
        exact absurd H (by simp)
     ·rw [if_neg c39] at H
      have c39b0 := Z36 c39
      clear c39
      obtain rfl := Option.some.inj H
      have hcz50_0 : wr.cell? ⟨gb303, 0, none⟩ = some (.int .i64 a1_0) := (Z22 BK303.out 0).trans rfl
      have hcz50_1 : wr.cell? ⟨gb303, 1, none⟩ = some (.int .i64 a1_1) := (Z22 BK303.out 1).trans rfl
      have hcz50_2 : wr.cell? ⟨gb303, 2, none⟩ = some (.int .i64 a1_2) := (Z22 BK303.out 2).trans rfl
      have hfz50_0 := Z23 BK303.out 0
      have hfz50_1 := Z23 BK303.out 1
      have hfz50_2 := Z23 BK303.out 2
      go_wp2
      go_ret
      exact ⟨_, Q2, Q21, Q0⟩
end Go.Proofs.Ytllhnnjkonghlaa.MFnGreedyLists
