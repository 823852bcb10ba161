import Derived.Test.YtllhnnjkonghlaaMFnReachedx0
import Derived.Test.YtllhnnjkonghlaaMFnReachedx1
import Derived.Test.YtllhnnjkonghlaaMFnReachedx2
import Derived.Test.YtllhnnjkonghlaaMFnReachedx3
import Derived.Test.YtllhnnjkonghlaaMFnReachedx4
import Derived.Test.YtllhnnjkonghlaaMFnReachedx5
import Derived.Test.YtllhnnjkonghlaaMFnReachedx8
namespace Go.Proofs.Ytllhnnjkonghlaa.MFnReached
open Go.RowKit Go.Proofs.YtllhnnjkonghlaaW.PrintWords Go.Proofs.YtllhnnjkonghlaaW.PrintLast Go.Proofs.YtllhnnjkonghlaaW.PrintMore
attribute [local go_sem] max2_int min2_int max_two min_two max_three min_three max_four min_four   
set_option linter.unusedVariables false
set_option linter.unusedSimpArgs false
mutual
def impl_FollowMoves.l0 : Nat → List (S45) → List Int → List (List Int) → Int → Option ((List (List Int)) × Bool)
 | 0, _, _, _, _ => none
 | k + 1, x1, x2, x8, i => if i < (x2.length : Int) then (if 0 ≤ i then (if i < (x8.length : Int) then (if 0 ≤ (rd x2 i) then (if (rd x2 i) < (x1.length : Int) then ((impl_moved.f k (rd_L2 x8 i) ((rd_T45 x1 (rd x2 i)).f0) ((rd_T45 x1 (rd x2 i)).f1) ((rd_T45 x1 (rd x2 i)).f2)).bind fun t => (if x8.length < 5864062014805 then (impl_FollowMoves.l0 k x1 x2 (x8 ++ [t]) (wrap64 (i + 1))) else (none))) else (none)) else (none)) else (none)) else (none)) else (some (x8, true))
end
def impl_FollowMoves.f (k : Nat) (a0 : Int) (l1 : List (S45)) (l2 : List Int) : Option ((List (List Int)) × Bool) := (impl_areMoves.f k a0 l1).bind fun t => (if t = true then (if (l2.length : Int) > 1099 then (some (([] : List (List Int)), false)) else ((impl_allWithin.f k l2 0 (wrap64 ((l1.length : Int) - 1))).bind fun u => (if u = true then ((impl_identity.f k a0).bind fun s => (impl_FollowMoves.l0 k l1 l2 [s] 0)) else (some (([] : List (List Int)), false))))) else (some (([] : List (List Int)), false)))
theorem impl_FollowMoves.mono_l : ∀ k, (∀ y0 y1 y2 y3, LeO (impl_FollowMoves.l0 k y0 y1 y2 y3) (impl_FollowMoves.l0 (k + 1) y0 y1 y2 y3))
 | 0 => fun _ _ _ _ r h => by simp [impl_FollowMoves.l0] at h
 | k + 1 => by
  have ih0 := impl_FollowMoves.mono_l k
  ·intro y0 y1 y2 y3
   unfold impl_FollowMoves.l0
   repeat' first
   | (with_reducible exact ih0 _ _ _ _)
   | (with_reducible exact impl_allWithin.mono _ _ _ _)
   | (with_reducible exact impl_areMoves.mono _ _ _)
   | (with_reducible exact impl_identity.mono _ _)
   | (with_reducible exact impl_moved.mono _ _ _ _ _)
   | (with_reducible exact LeO.refl _)
   | (with_reducible exact LeO.none _)
   | (with_reducible refine LeO.ite ?_ ?_)
   | (with_reducible refine LeO.bind ?_ (fun _ => ?_))
   | exact ih0 _ _ _ _
   | exact impl_allWithin.mono _ _ _ _
   | exact impl_areMoves.mono _ _ _
   | exact impl_identity.mono _ _
   | exact impl_moved.mono _ _ _ _ _
   | exact LeO.none _
   | refine LeO.ite ?_ ?_
   | refine LeO.bind ?_ (fun _ => ?_)
theorem impl_FollowMoves.mono : ∀ a0 a1 a2 k, LeO (impl_FollowMoves.f k a0 a1 a2) (impl_FollowMoves.f (k + 1) a0 a1 a2) := by
 intro a0 a1 a2 k
 have ih0 := impl_FollowMoves.mono_l k
 unfold impl_FollowMoves.f
 repeat' first
   | (with_reducible exact ih0 _ _ _ _)
   | (with_reducible exact impl_allWithin.mono _ _ _ _)
   | (with_reducible exact impl_areMoves.mono _ _ _)
   | (with_reducible exact impl_identity.mono _ _)
   | (with_reducible exact impl_moved.mono _ _ _ _ _)
   | (with_reducible exact LeO.refl _)
   | (with_reducible exact LeO.none _)
   | (with_reducible refine LeO.ite ?_ ?_)
   | (with_reducible refine LeO.bind ?_ (fun _ => ?_))
   | exact ih0 _ _ _ _
   | exact impl_allWithin.mono _ _ _ _
   | exact impl_areMoves.mono _ _ _
   | exact impl_identity.mono _ _
   | exact impl_moved.mono _ _ _ _ _
   | exact LeO.none _
   | refine LeO.ite ?_ ?_
   | refine LeO.bind ?_ (fun _ => ?_)
set_option maxHeartbeats 8000000 in
set_option maxRecDepth 100000 in
theorem impl_FollowMoves.calls (k : Nat) (a0 : Int) (A1 : Option Addr) (c1 : Nat) (l1 : List (S45)) (A2 : Option Addr) (c2 : Nat) (l2 : List Int) (r1 : List (List Int)) (r2 : Bool) (w : World) (hr1 : Kd.C k45 w A1 l1.length l1) (hc1 : l1.length ≤ c1) (hr2 : Kd.C (Kd.int .i64) w A2 l2.length l2) (hc2 : l2.length ≤ c2) (h : impl_FollowMoves.f k a0 l1 l2 = some (r1, r2)) :
  Calls Try.prog 27 #[.int .i64 a0, .slice A1 l1.length c1, .slice A2 l2.length c2] w fun e w' => ∃ v0_ : Value, e = .returned (.tuple #[v0_, .bool r2]) ∧ Kd.S (Kd.slice 3 (Kd.int .i64)) 24 w' w.heap.size (fun _ => True) v0_ r1 ∧ Below w.heap.size w w' := by
 have hu := Try.underlying45
 have HR1 := Ya hr1
 have HC1 := Ya hc1
 have HR2 := Ya hr2
 have HC2 := Ya hc2
 clear hr1 hc1 hr2 hc2
 unfold impl_FollowMoves.f at h
 obtain ⟨t1, h1, H⟩ := Z35.mp h
 have T1 := Ya h1
 clear h h1
 cases t1
 ·simp only [Bool.false_eq_true, if_false, Option.some.injEq, Prod.mk.injEq] at H
  obtain ⟨rfl, rfl⟩ := H
  go_enter Try.func27, Try.ntmps27
  go_wp2_with fail
  refine (impl_areMoves.calls k a0 A1 c1 l1 false _ HR1.out HC1.out T1.out).mono ?_
  rintro e w1 ⟨rfl, hb1⟩
  have HB1 := Ya hb1
  clear hb1
  have HBx := HB1
  go_wp2
  go_ret2
  exact ⟨_, rfl, Kd.S_nil _ _ _ _ _, HBx.out⟩
 ·simp only [if_true] at H
  by_cases cl : (l2.length : Int) > 1099
  ·rw [if_pos cl] at H
   have cb0 : decide (1099 < (l2.length : Int)) = true := Z37 cl
   have cb1 : decide (1099 < l2.length) = true := Z37 (by omega)
   clear cl
   simp only [Option.some.injEq, Prod.mk.injEq] at H
   obtain ⟨rfl, rfl⟩ := H
   go_enter Try.func27, Try.ntmps27
   go_wp2_with fail
   refine (impl_areMoves.calls k a0 A1 c1 l1 true _ HR1.out HC1.out T1.out).mono ?_
   rintro e w1 ⟨rfl, hb1⟩
   have HB1 := Ya hb1
   clear hb1
   have HBx := HB1
   go_wp2
   go_ret2
   exact ⟨_, rfl, Kd.S_nil _ _ _ _ _, HBx.out⟩
  ·rw [if_neg cl] at H
   have cb0 : decide (1099 < (l2.length : Int)) = false := Z36 cl
   have cb1 : decide (1099 < l2.length) = false := Z36 (by omega)
   clear cl
   obtain ⟨t2, h2, H⟩ := Z35.mp H
   have T2 := Ya h2
   clear h2
   cases t2
   ·simp only [Bool.false_eq_true, if_false, Option.some.injEq, Prod.mk.injEq] at H
    obtain ⟨rfl, rfl⟩ := H
    go_enter Try.func27, Try.ntmps27
    go_wp2_with fail
    refine (impl_areMoves.calls k a0 A1 c1 l1 true _ HR1.out HC1.out T1.out).mono ?_
    rintro e w1 ⟨rfl, hb1⟩
    have HB1 := Ya hb1
    clear hb1
    go_wp2_with fail
    refine (impl_allWithin.calls k A2 c2 l2 0 _ false _ (Z21 HR2.out HB1.out) HC2.out T2.out).mono ?_
    rintro e w2 ⟨rfl, ⟨n2, rfl⟩⟩
    have HBx := Ya (Z3 HB1.out n2)
    clear HB1
    go_wp2
    go_ret2
    exact ⟨_, rfl, Kd.S_nil _ _ _ _ _, HBx.out⟩
   ·simp only [if_true] at H
    obtain ⟨t3, h3, H⟩ := Z35.mp H
    have T3 := Ya h3
    have H' := Ya H
    clear h3 H
    go_enter Try.func27, Try.ntmps27
    go_wp2_with fail
    refine (impl_areMoves.calls k a0 A1 c1 l1 true _ HR1.out HC1.out T1.out).mono ?_
    rintro e w1 ⟨rfl, hb1⟩
    have HB1 := Ya hb1
    clear hb1
    go_wp2_with fail
    refine (impl_allWithin.calls k A2 c2 l2 0 _ true _ (Z21 HR2.out HB1.out) HC2.out T2.out).mono ?_
    rintro e w2 ⟨rfl, ⟨n2, rfl⟩⟩
    have HB2 := Ya (Z3 HB1.out n2)
    clear HB1
    go_wp2_with fail
    refine (impl_identity.calls k a0 t3 _ T3.out).mono ?_
    rintro e w3 ⟨v3, rfl, ho3, hb3⟩
    obtain ⟨Af, cf, rfl⟩ := Z17 ho3
    have HF := Ya (Kd.R_lower ho3 HB2.out.size)
    have HB := Ya (HB2.out.trans (hb3.mono HB2.out.size))
    clear ho3 hb3 HB2
    go_wp2_with (first | ((with_reducible refine gate_dst (N := 30) rfl ?_); refine Kd.R_lit (Kd.tag (fun _ => 0) (Kd.slice 3 (Kd.int .i64))) (w0 := w) w.heap.size 24 ?hg (N := 30) ?hd (xs := [(t3, 0)]) (inner := [.slice Af t3.length cf]) (ok := fun _ => True) (okp := fun k_ => some k_ = (.slice Af t3.length cf : Value).ownBlock) ?hr ?hp (fun _ hk => trivial) trivial HB.out HB.out.size (by simp) ?_; (case hd => rfl); (case hg => rfl); (case hr => first | (go_simp; done) | (go_simp; rfl)); (case hp => exact (Reps.one (show Kd.M (Kd.tag (fun _ => 0) (Kd.slice 3 (Kd.int .i64))) _ _ _ (t3, 0) [.slice Af t3.length cf] from ⟨_, rfl, Z12 (Kd.R_tight rfl HF.out) (fun _ hk => ⟨hk, rfl⟩)⟩) (Reps.none _ _))); intro v4 w4 ho4 hb4 hg4 hnew4; have HF4 := Ya (Kd.R_grown HF.out hg4 (fun _ _ e => by cases e)); have HO4 := Ya (show Kd.S (Kd.slice 3 (Kd.int .i64)) 24 w4 w.heap.size (fun _ => True) v4 [t3] from ⟨_, ho4⟩); have HB4 := Ya hb4; clear HF HB ho4 hb4 hg4 hnew4))
    go_loopg [8, 33] k (fun kq v8 v33 w' => ∃ (x8 : List (List Int)) (i : Int), v33 = .int .i64 i ∧ Aside0 (impl_FollowMoves.l0 kq l1 l2 x8 i = some (r1, r2)) ∧ Aside0 (kq ≤ k) ∧ Aside0 (Kd.S (Kd.slice 3 (Kd.int .i64)) 24 w' w.heap.size (fun _ => True) v8 x8) ∧ Aside0 (Below w.heap.size w w'))
    case atStart => exact ⟨[t3], 0, rfl, H', ⟨Nat.le_refl _⟩, HO4, HB4⟩
    case round =>
     clear H' HO4 HF4 HB4
     obtain ⟨x8, i, rfl, HA, HK1, HO, HB⟩ := hrel
     cases gk with
     | zero => exact absurd HA.out (by simp [impl_FollowMoves.l0])
     | succ k1 =>
      have H := HA.out
      clear HA
      simp only [impl_FollowMoves.l0] at H
      obtain ⟨Ao, co, eo⟩ := Z17 (Kd.S_R HO.out)
      subst eo
      by_cases c : i < (l2.length : Int)
      ·rw [if_pos c] at H
       have cb : decide (i < (l2.length : Int)) = true := Z37 c
       by_cases p : 0 ≤ i
       ·rw [if_pos p] at H
        by_cases q : i < (x8.length : Int)
        rotate_left
        ·rw [if_neg q] at H; exact absurd H (by simp)
        rw [if_pos q] at H
        by_cases p1 : 0 ≤ rd l2 i
        ·rw [if_pos p1] at H
         by_cases p2 : rd l2 i < (l1.length : Int)
         ·rw [if_pos p2] at H
          obtain ⟨t, ht, H⟩ := Z35.mp H
          have T4 := Ya ht
          clear ht
          by_cases c8 : x8.length < 5864062014805
          ·rw [if_pos c8] at H
           have LM := Ya c8
           have H' := Ya H
           clear c8 H
           obtain ⟨ad2, ead2, hx2⟩ := Kd.at_int HR2.out i p c
           cases ead2
           replace hx2 := (HB.out.cell (World.block_lt_of_cell? w _ hx2)).trans hx2
           obtain ⟨ad3, A3, c3, ead3, hx3, hle3, hie3⟩ := at_L2 (Kd.R_reads' (Kd.S_R HO.out)).2.2 i p q
           cases ead3
           have HLE := Ya hle3
           have HIE := Ya hie3
           obtain ⟨ad1, ead1, hy0, hy1, hy2⟩ := at_T45 HR1.out (rd l2 i) p1 p2
           cases ead1
           replace hy0 := (HB.out.cell (World.block_lt_of_cell? w _ hy0)).trans hy0
           replace hy1 := (HB.out.cell (World.block_lt_of_cell? w _ hy1)).trans hy1
           replace hy2 := (HB.out.cell (World.block_lt_of_cell? w _ hy2)).trans hy2
           have pp := eq_true p
           have pc := eq_true c
           have pq := eq_true q
           have pp1 := eq_true p1
           have pp2 := eq_true p2
           clear p c p1 p2 q hle3 hie3
           go_wp2_with fail
           replace HO := Ya (Kd.S_drew HO.out)
           replace HB := Ya (Z4 HB.out)
           replace HIE := Ya (Z20 HIE.out)
           refine start_ (n := 13) (S := fun w' => w'.cell? (ad3.add i.toNat) = some (.slice A3 (rd_L2 x8 i).length c3) ∧ w'.cell? (ad1.add ((rd l2 i).toNat * 3)) = some (.int .i64 (rd_T45 l1 (rd l2 i)).f0) ∧ w'.cell? ⟨(ad1.add ((rd l2 i).toNat * 3)).block, (ad1.add ((rd l2 i).toNat * 3)).off + 1, none⟩ = some (.int .i64 (rd_T45 l1 (rd l2 i)).f1) ∧ w'.cell? ⟨(ad1.add ((rd l2 i).toNat * 3)).block, (ad1.add ((rd l2 i).toNat * 3)).off + 2, none⟩ = some (.int .i64 (rd_T45 l1 (rd l2 i)).f2)) (ds := [10, 11]) (YA 13 0) (by kernel_rfl) rfl rfl ⟨hx3, hy0, hy1, hy2⟩ (fun hHeld => ?_)
           generalize wr.drew = w6 at HO HB HIE hHeld ⊢
           clear hx3 hy0 hy1 hy2
           refine Yq 0 (some 38) (YA 13 1) rfl ?_
           refine Yq 1 (some 39) (YA 13 3) rfl ?_
           refine Yq 2 (some 40) (YA 13 7) rfl ?_
           refine Yq 3 (some 41) (YA 13 15) rfl ?_
           refine Yq 5 (some 43) (YA 13 47) rfl ?_
           refine Yq 6 (some 44) (YA 13 111) rfl ?_
           refine Yq 7 (some 45) (YA 13 239) rfl ?_
           refine Ys 4 (some 42) (YA 13 255) rfl hHeld Q9 ?_
           refine Ys 8 (some 46) (YA 13 511) rfl hHeld Q9 ?_
           refine one_ (i := 9) (N := some 47) (YA 13 1023) rfl rfl (by kernel_rfl) (by decide) (fun K hK => ?_)
           refine goes_ Try.func51 (by kernel_rfl) rfl #[.slice A3 (rd_L2 x8 i).length c3, .agg #[.int .i64 (rd_T45 l1 (rd l2 i)).f0, .int .i64 (rd_T45 l1 (rd l2 i)).f1, .int .i64 (rd_T45 l1 (rd l2 i)).f2]] (by rfl) rfl rfl Q34 ?_
           with_reducible refine (impl_moved.calls k1 A3 c3 (rd_L2 x8 i) _ _ _ t _ HIE.out HLE.out T4.out).mono ?_
           rintro e w7 ⟨v7, rfl, ho7, hb⟩
           refine ⟨_, rfl, ?_⟩
           have hs0 := (hb.cell (World.block_lt_of_cell? _ _ (hHeld.1))).trans (hHeld.1)
           have hs1 := (hb.cell (World.block_lt_of_cell? _ _ (hHeld.2.1))).trans (hHeld.2.1)
           have hs2 := (hb.cell (World.block_lt_of_cell? _ _ (hHeld.2.2.1))).trans (hHeld.2.2.1)
           have hs3 := (hb.cell (World.block_lt_of_cell? _ _ (hHeld.2.2.2))).trans (hHeld.2.2.2)
           obtain ⟨An, cn, rfl⟩ := Z17 ho7
           have HO7 := Ya (Kd.S_elder' HO.out (Kd.R_base ho7) hb)
           have HL7 := Ya (Kd.R_lower ho7 HB.out.size)
           have HB7 := Ya (HB.out.trans (hb.mono HB.out.size))
           have HS7 := Ya (⟨hs0, hs1, hs2, hs3⟩ : _ ∧ _ ∧ _ ∧ _)
           clear HO HB ho7 hb hs0 hs1 hs2 hs3
           refine hK.out _ _ ⟨HS7.out.1, HS7.out.2.1, HS7.out.2.2.1, HS7.out.2.2.2⟩ (fun hHeld => ?_)
           clear hK K
           refine norm_ (a' := ?_) ?_ ?_
           rotate_left
           ·show Act.put _ (some 47) _ = _
            simp only [Act.put, Z0, Z1, Z2, i64_w, i32_w]
            rfl
           refine last_ (i := 10) (N := some 48) (YA 13 2047) rfl rfl (by kernel_rfl) (by decide) (fun K hK => ?_)
           refine value_ (w1 := ?_) (v := ?_) (by rfl) rfl ?_ ?_
           rotate_left 2
           ·go_simp
            constructor
            ·rfl
            ·rfl
           refine hK.out _ _ ?_
           clear hK K
           refine norm_ (a' := ?_) ?_ ?_
           rotate_left
           ·show Act.put _ (some 48) _ = _
            simp only [Act.put, Z0, Z1, Z2, i64_w, i32_w]
            rfl
           refine last_ (i := 11) (N := some 49) (YA 13 4095) rfl rfl (by kernel_rfl) (by decide) (fun K hK => ?_)
           refine Kd.S_append_step (Kd.slice 3 (Kd.int .i64)) (w0 := w) w.heap.size (by rfl) (.tmp 38) (.tmp 48) 50 24 (.slice none 0 0) 24 rfl Try.underlying50 info24 rfl (by decide) (by omega) (.slice (some ad3) x8.length co) x8 t [.slice An t.length cn] (fun _ => True) (fun k_ => some k_ = (.slice An t.length cn : Value).ownBlock) rfl rfl ?aP (fun k_ hk_ => ⟨trivial, ((Kd.R_apart' HL7.out (Kd.S_typed HO7.out) (by decide)).1 k_ hk_.symm).2⟩) ?aF ?aO ?aB ?aS ?aL ?_
           (case aP => exact Kd.M_row (Kd.R_tight rfl HL7.out))
           (case aB => exact HB7.out)
           (case aF => exact (fun _ _ => trivial))
           (case aO => exact (Kd.S_mono HO7.out (fun k_ hk => ⟨trivial, fun e_ => hk.2 e_⟩)))
           (case aS => exact HB7.out.size)
           (case aL => have := LM.out; omega)
           intro v9n w9 ho9 hb9 hg9 hat9
           have HO9 := Ya ho9
           have HB9 := Ya hb9
           clear HL7 HO7 HB7 HS7 ho9 hb9 hg9 hat9
           refine hK.out _ _ ?_
           clear hK K
           refine norm_ (a' := ?_) ?_ ?_
           rotate_left
           ·show Act.put _ (some 49) _ = _
            simp only [Act.put, Z0, Z1, Z2, i64_w, i32_w]
            rfl
           refine Yq 12 (some 8) (YA 13 8191) rfl ?_
           refine done_ (by kernel_rfl) ?_
           go_wp2
           go_roundg k1
           case measure => have := HK1.out; omega
           case rel => exact ⟨x8 ++ [t], wrap64 (i + 1), rfl, H', ⟨Q22⟩, HO9, HB9⟩
          ·rw [if_neg c8] at H; exact absurd H (by simp)
         ·rw [if_neg p2] at H; exact absurd H (by simp)
        ·rw [if_neg p1] at H; exact absurd H (by simp)
       ·rw [if_neg p] at H; exact absurd H (by simp)
      ·rw [if_neg c] at H
       have cb : decide (i < (l2.length : Int)) = false := Z36 c
       clear c
       simp only [Option.some.injEq, Prod.mk.injEq] at H
       obtain ⟨rfl, rfl⟩ := H
       go_wp2
       go_ret2
       exact ⟨_, rfl, HO.out, HB.out⟩
def impl_arePermutations.l0 : Nat → Int → List (List Int) → List (List Int) → Int → Int → Option (Bool)
 | 0, _, _, _, _, _ => none
 | k + 1, x0, x1, x7, x8, x9 => if x9 < x8 then (if 0 ≤ x9 then (if x9 < (x7.length : Int) then (if ((rd_L2 x7 x9).length : Int) = x0 then ((impl_IsPermutation.f k (rd_L2 x7 x9)).bind fun t414 => (if t414 = true then (impl_arePermutations.l0 k x0 x1 x7 x8 (wrap64 (x9 + 1))) else (some false))) else (some false)) else (none)) else (none)) else (some (decide ((x1.length : Int) ≤ 1100)))
def impl_arePermutations.f (k : Nat) (a0 : Int) (l1 : List (List Int)) : Option (Bool) := impl_arePermutations.l0 k a0 l1 l1 (l1.length : Int) 0
theorem impl_arePermutations.mono_l : ∀ k, (∀ y0 y1 y2 y3 y4, LeO (impl_arePermutations.l0 k y0 y1 y2 y3 y4) (impl_arePermutations.l0 (k + 1) y0 y1 y2 y3 y4))
 | 0 => fun _ _ _ _ _ r h => by simp [impl_arePermutations.l0] at h
 | k + 1 => by
  have ih0 := impl_arePermutations.mono_l k
  ·intro y0 y1 y2 y3 y4
   unfold impl_arePermutations.l0
   repeat' first
   | (with_reducible exact ih0 _ _ _ _ _)
   | (with_reducible exact impl_IsPermutation.mono _ _)
   | (with_reducible exact LeO.refl _)
   | (with_reducible exact LeO.none _)
   | (with_reducible refine LeO.ite ?_ ?_)
   | (with_reducible refine LeO.bind ?_ (fun _ => ?_))
   | exact ih0 _ _ _ _ _
   | exact impl_IsPermutation.mono _ _
   | exact LeO.none _
   | refine LeO.ite ?_ ?_
   | refine LeO.bind ?_ (fun _ => ?_)
theorem impl_arePermutations.mono : ∀ a0 a1 k, LeO (impl_arePermutations.f k a0 a1) (impl_arePermutations.f (k + 1) a0 a1) := by
 intro a0 a1 k
 have ih0 := impl_arePermutations.mono_l k
 unfold impl_arePermutations.f
 repeat' first
   | (with_reducible exact ih0 _ _ _ _ _)
   | (with_reducible exact impl_IsPermutation.mono _ _)
   | (with_reducible exact LeO.refl _)
   | (with_reducible exact LeO.none _)
   | (with_reducible refine LeO.ite ?_ ?_)
   | (with_reducible refine LeO.bind ?_ (fun _ => ?_))
   | exact ih0 _ _ _ _ _
   | exact impl_IsPermutation.mono _ _
   | exact LeO.none _
   | refine LeO.ite ?_ ?_
   | refine LeO.bind ?_ (fun _ => ?_)
set_option maxHeartbeats 8000000 in
set_option maxRecDepth 100000 in
theorem impl_arePermutations.calls (k : Nat) (a0 : Int) (A1 : Option Addr) (c1 : Nat) (l1 : List (List Int)) (r : Bool) (w : World) (hr1 : Kd.C (Kd.slice 3 (Kd.int .i64)) w A1 l1.length l1) (hc1 : l1.length ≤ c1) (h : impl_arePermutations.f k a0 l1 = some r) :
  Calls Try.prog 67 #[.int .i64 a0, .slice A1 l1.length c1] w fun e w' => e = .returned (.bool r) ∧ Below w.heap.size w w' := by
 have HR1 := Ya hr1
 have HC1 := Ya hc1
 clear hr1 hc1
 have HB := Ya (Below.refl w.heap.size w)
 have H : (impl_arePermutations.l0 k a0 l1 l1 (l1.length : Int) 0) = some r := h
 clear h
 have H' := Ya H
 clear H
 go_enter Try.func67, Try.ntmps67
 go_wp2
 go_loopg [9] k (fun kq v9 w' => ∃ (x9_1 : Int), v9 = .int .i64 x9_1 ∧ Aside0 (impl_arePermutations.l0 kq a0 l1 l1 (l1.length : Int) x9_1 = some r) ∧ Aside0 (kq ≤ k) ∧ Aside0 (Below w.heap.size w w'))
 case atStart => exact ⟨(0), Q3, H', ⟨Nat.le_refl _⟩, ⟨Q0⟩⟩
 case round =>
  clear H'
  try clear c1
  try clear p2
  obtain ⟨x9_1, rfl, HA, HK1, HB⟩ := hrel
  cases gk with
  | zero => exact absurd HA.out (by simp [impl_arePermutations.l0])
  | succ k1 =>
   have H := HA.out
   clear HA
   simp only [impl_arePermutations.l0] at H
   by_cases c3 : x9_1 < (l1.length : Int)
   ·rw [if_pos c3] at H
    have c3b0 := Z37 c3
    clear c3
    by_cases c4 : 0 ≤ x9_1
    ·rw [if_pos c4] at H
     have c4b0 := Z37 c4
     clear c4
     by_cases c5 : x9_1 < (l1.length : Int)
     ·rw [if_pos c5] at H
      have c5b0 := Z37 c5
      clear c5
      by_cases c6 : ((rd_L2 l1 x9_1).length : Int) = a0
      ·rw [if_pos c6] at H
       have c6b0 : (((rd_L2 l1 x9_1).length : Int) == a0) = true := beq_iff_eq.mpr c6
       have c6b1 : (((rd_L2 l1 x9_1).length : Int) != a0) = false := bne_eq_false_iff_eq.mpr c6
       clear c6
       replace H := Z35.mp H
       obtain ⟨t414, A70, H⟩ := H
       replace H : (if t414 = true then (impl_arePermutations.l0 k1 a0 l1 l1 (l1.length : Int) (wrap64 (x9_1 + 1))) else (some false)) = some r := H
       have A7 := Ya A70
       clear A70
       by_cases c8 : t414 = true
       ·subst c8
        have H1 : (impl_arePermutations.l0 k1 a0 l1 l1 (l1.length : Int) (wrap64 (x9_1 + 1))) = some r := by rw [if_pos rfl] at H; exact H
        clear H
        have H := H1
        clear H1
        have H' := Ya H
        clear H
        have p413 : 0 ≤ (x9_1 : Int) := Z29 Q1
        have q413 : x9_1 < (l1.length : Int) := Z29 Q1
        obtain ⟨ad413, A413_0, c413_0, e413, hx413_0, hl413_0, hi413_0⟩ := at_L2 HR1.out x9_1 p413 q413
        cases e413
        try replace hx413_0 := (HB.out.cell (World.block_lt_of_cell? w _ hx413_0)).trans hx413_0
        have HR413_0 := Ya hi413_0
        have HC413_0 := Ya hl413_0
        clear hi413_0 hl413_0
        replace p413 := eq_true p413
        replace q413 := eq_true q413
        go_wp2_with (first | (go_at_call 62; (with_reducible refine (impl_IsPermutation.calls k1 _ _ (rd_L2 l1 x9_1) true _ (Yc (Z21 HR413_0.out HB.out)) HC413_0.out A7.out).mono ?_); rintro e w9 ⟨rfl, hb⟩; replace HB := Yh hb; (try clear hb)))
        go_roundg k1
        case measure => have := HK1.out; omega
        case rel => exact ⟨(wrap64 (x9_1 + 1)), Q3, H', ⟨Q22⟩, ⟨Q0⟩⟩
       ·replace c8 := Bool.eq_false_iff.mpr c8
        subst c8
        have H1 : (some false) = some r := by rw [if_neg (show ¬ (false = true) by decide)] at H; exact H
        clear H
        have H := H1
        clear H1
        obtain rfl := Option.some.inj H
        have p413 : 0 ≤ (x9_1 : Int) := Z29 Q1
        have q413 : x9_1 < (l1.length : Int) := Z29 Q1
        obtain ⟨ad413, A413_0, c413_0, e413, hx413_0, hl413_0, hi413_0⟩ := at_L2 HR1.out x9_1 p413 q413
        cases e413
        try replace hx413_0 := (HB.out.cell (World.block_lt_of_cell? w _ hx413_0)).trans hx413_0
        have HR413_0 := Ya hi413_0
        have HC413_0 := Ya hl413_0
        clear hi413_0 hl413_0
        replace p413 := eq_true p413
        replace q413 := eq_true q413
        go_wp2_with (first | (go_at_call 62; (with_reducible refine (impl_IsPermutation.calls k1 _ _ (rd_L2 l1 x9_1) false _ (Yc (Z21 HR413_0.out HB.out)) HC413_0.out A7.out).mono ?_); rintro e w10 ⟨rfl, hb⟩; replace HB := Yh hb; (try clear hb)))
        go_ret
        exact ⟨Q2, Q0⟩
      ·rw [if_neg c6] at H
       have c6b0 : (((rd_L2 l1 x9_1).length : Int) == a0) = false := beq_eq_false_iff_ne.mpr c6
       have c6b1 : (((rd_L2 l1 x9_1).length : Int) != a0) = true := bne_iff_ne.mpr c6
       obtain rfl := Option.some.inj H
       have p413 : 0 ≤ (x9_1 : Int) := Z29 Q1
       have q413 : x9_1 < (l1.length : Int) := Z29 Q1
       obtain ⟨ad413, A413_0, c413_0, e413, hx413_0, hl413_0, hi413_0⟩ := at_L2 HR1.out x9_1 p413 q413
       cases e413
       try replace hx413_0 := (HB.out.cell (World.block_lt_of_cell? w _ hx413_0)).trans hx413_0
       have HR413_0 := Ya hi413_0
       have HC413_0 := Ya hl413_0
       clear hi413_0 hl413_0
       replace p413 := eq_true p413
       replace q413 := eq_true q413
       go_wp2
       go_ret
       exact ⟨Q2, Q0⟩
     ·rw [if_neg c5] at H
      exact absurd H (by simp)
    ·rw [if_neg c4] at H
     exact absurd H (by simp)
   ·rw [if_neg c3] at H
    have c3b0 := Z36 c3
    clear c3
    obtain rfl := Option.some.inj H
    go_wp2
    go_ret
    exact ⟨Q2, Q0⟩
def impl_steps.idx (g : Nat → S45 → Option Bool) : Nat → List (S45) → Int → Option Int
 | 0, _, _ => none
 | k + 1, L, i => if i < (L.length : Int) then (if 0 ≤ i then ((g k (rd_T45 L i)).bind fun t => (if t = true then (some i) else (impl_steps.idx g k L (wrap64 (i + 1))))) else (none)) else (some (-1))
theorem impl_steps.idx_mono {g : Nat → S45 → Option Bool} (hg : ∀ k x, LeO (g k x) (g (k + 1) x)) : ∀ k L i, LeO (impl_steps.idx g k L i) (impl_steps.idx g (k + 1) L i)
 | 0, _, _ => fun r h => by simp [impl_steps.idx] at h
 | k + 1, L, i => by
  unfold impl_steps.idx
  repeat' first
   | (with_reducible exact impl_steps.idx_mono hg k _ _)
   | (with_reducible exact hg _ _)
   | (with_reducible exact LeO.refl _)
   | (with_reducible exact LeO.none _)
   | (with_reducible refine LeO.ite ?_ ?_)
   | (with_reducible refine LeO.bind ?_ (fun _ => ?_))
set_option maxHeartbeats 8000000 in
set_option maxRecDepth 100000 in
theorem impl_steps.index (g : Nat → S45 → Option Bool) (g1 g2 : Nat) (k : Nat) (A1 : Option Addr) (c1 : Nat) (L : List (S45)) (r : Int) (w : World) (hL : Kd.C k45 w A1 L.length L) (hcL : L.length ≤ c1)
  (hlam : ∀ (kq : Nat) (x : S45) (t : Bool) (w' : World), Below w.heap.size w w' → g kq x = some t → Calls Try.prog 94 #[.agg #[.int .i64 x.f0, .int .i64 x.f1, .int .i64 x.f2], .pointer (some ⟨g1, 0, none⟩), .pointer (some ⟨g2, 0, none⟩)] w' fun e w'' => e = .returned (.bool t) ∧ Below w.heap.size w w'')
  (h : impl_steps.idx g k L 0 = some r) :
  Calls Try.prog 73 #[.slice A1 L.length c1, .func (Fn.func 94) #[] #[.pointer (some ⟨g1, 0, none⟩), .pointer (some ⟨g2, 0, none⟩)]] w fun e w' => e = .returned (.int .i64 r) ∧ Below w.heap.size w w' := by
 have hu := Try.underlying45
 have HL := Ya hL
 have HCL := Ya hcL
 have HM := Ya hlam
 have H' := Ya h
 have HB := Ya (Below.refl w.heap.size w)
 clear hL hcL hlam h
 go_enter Try.func73, Try.ntmps73
 go_wp2
 go_loopg [5, 8] k (fun kq v5 v8 w' => ∃ (i : Int), v8 = .int .i64 i ∧ Aside0 (Below w.heap.size w w') ∧ Aside0 (impl_steps.idx g kq L i = some r) ∧ Aside0 (kq ≤ k))
 case atStart => exact ⟨0, rfl, HB, H', ⟨Nat.le_refl _⟩⟩
 case round =>
  clear H' HB
  obtain ⟨i, rfl, HB, HA, HK1⟩ := hrel
  cases gk with
  | zero => exact absurd HA.out (by simp [impl_steps.idx])
  | succ k1 =>
   have H := HA.out
   clear HA
   simp only [impl_steps.idx] at H
   by_cases c3 : i < (L.length : Int)
   ·rw [if_pos c3] at H
    have c3b0 := Z37 c3
    by_cases c4 : 0 ≤ i
    ·rw [if_pos c4] at H
     obtain ⟨t, A30, H⟩ := Z35.mp H
     have A3 := Ya A30
     clear A30
     obtain ⟨ad, ead, hx0, hx1, hx2⟩ := at_T45 HL.out i c4 c3
     cases ead
     replace hx0 := (HB.out.cell (World.block_lt_of_cell? w _ hx0)).trans hx0
     replace hx1 := (HB.out.cell (World.block_lt_of_cell? w _ hx1)).trans hx1
     replace hx2 := (HB.out.cell (World.block_lt_of_cell? w _ hx2)).trans hx2
     have c4b : (0 ≤ i) = True := eq_true c4
     have c3b : (i < (L.length : Int)) = True := eq_true c3
     clear c3 c4
     cases t
     ·simp only [Bool.false_eq_true, if_false] at H
      have H' := Ya H
      clear H
      go_wp2_with fail
      refine (HM.out k1 (rd_T45 L i) false _ HB.out A3.out).mono ?_
      rintro e w2 ⟨rfl, hb2⟩
      have HB2 := Ya hb2
      clear hb2
      go_wp2
      go_roundg k1
      case measure => have := HK1.out; omega
      case rel => exact ⟨wrap64 (i + 1), rfl, HB2, H', ⟨Q22⟩⟩
     ·simp only [if_true] at H
      obtain rfl := Option.some.inj H
      clear H
      go_wp2_with fail
      refine (HM.out k1 (rd_T45 L i) true _ HB.out A3.out).mono ?_
      rintro e w2 ⟨rfl, hb2⟩
      have HB2 := Ya hb2
      clear hb2
      go_wp2
      go_ret
      exact ⟨rfl, HB2.out⟩
    ·rw [if_neg c4] at H
     exact absurd H (by simp)
   ·rw [if_neg c3] at H
    obtain rfl := Option.some.inj H
    have c3b0 := Z36 c3
    clear c3 H
    go_wp2
    go_ret
    exact ⟨rfl, HB.out⟩
def impl_steps.g (L : List (List Int)) (i : Int) (k : Nat) (x : S45) : Option Bool := if 1 ≤ i then (if i < (L.length : Int) then (if i < 1000000000 then ((impl_moved.f k (rd_L2 L (i - 1)) x.f0 x.f1 x.f2).bind fun u => slices_Equal_int_int.f k u (rd_L2 L i)) else none) else none) else none
theorem impl_steps.g_mono (L : List (List Int)) (i : Int) : ∀ k x, LeO (impl_steps.g L i k x) (impl_steps.g L i (k + 1) x) := by
 intro k x
 unfold impl_steps.g
 exact LeO.ite (LeO.ite (LeO.ite (LeO.bind (impl_moved.mono _ _ _ _ _) (fun _ => slices_Equal_int_int.mono _ _ _)) (LeO.none _)) (LeO.none _)) (LeO.none _)
def impl_steps.l0 : Nat → List (List Int) → List (S45) → List Int → Int → Option (List Int × Bool)
 | 0, _, _, _, _ => none
 | k + 1, L, M, out, i => if i < (L.length : Int) then ((impl_steps.idx (impl_steps.g L i) k M 0).bind fun r => (if r < 0 then (some (([] : List Int), false)) else (if out.length < 17592186044416 then (impl_steps.l0 k L M (out ++ [r]) (wrap64 (i + 1))) else (none)))) else (some (out, true))
def impl_steps.f (k : Nat) (l0 : List (List Int)) (l1 : List (S45)) : Option (List Int × Bool) := impl_steps.l0 k l0 l1 [] 1
theorem impl_steps.mono_l : ∀ k L M out i, LeO (impl_steps.l0 k L M out i) (impl_steps.l0 (k + 1) L M out i)
 | 0, _, _, _, _ => fun r h => by simp [impl_steps.l0] at h
 | k + 1, L, M, out, i => by
  unfold impl_steps.l0
  exact LeO.ite (LeO.bind (impl_steps.idx_mono (impl_steps.g_mono L i) k _ _) (fun _ => LeO.ite (LeO.refl _) (LeO.ite (impl_steps.mono_l k _ _ _ _) (LeO.none _)))) (LeO.refl _)
theorem impl_steps.mono : ∀ a0 a1 k, LeO (impl_steps.f k a0 a1) (impl_steps.f (k + 1) a0 a1) := fun a0 a1 k => impl_steps.mono_l k a0 a1 [] 1
set_option maxHeartbeats 8000000 in
set_option maxRecDepth 100000 in
theorem impl_steps.lam (L : List (List Int)) (i : Int) (AL : Option Addr) (cL : Nat) (g1 g2 : Nat) (w : World) (hL : Kd.C (Kd.slice 3 (Kd.int .i64)) w AL L.length L) (hn1 : w.cell? ⟨g1, 0, none⟩ = some (.slice AL L.length cL)) (hn2 : w.cell? ⟨g2, 0, none⟩ = some (.int .i64 i)) (kq : Nat) (x : S45) (t : Bool) (w1 : World) (hB : Below w.heap.size w w1) (h : impl_steps.g L i kq x = some t) :
  Calls Try.prog 94 #[.agg #[.int .i64 x.f0, .int .i64 x.f1, .int .i64 x.f2], .pointer (some ⟨g1, 0, none⟩), .pointer (some ⟨g2, 0, none⟩)] w1 fun e w' => e = .returned (.bool t) ∧ Below w.heap.size w w' := by
 have hu := Try.underlying45
 have HB := Ya hB
 unfold impl_steps.g at h
 by_cases p1 : 1 ≤ i
 rotate_left
 ·rw [if_neg p1] at h; cases h
 rw [if_pos p1] at h
 by_cases p2 : i < (L.length : Int)
 rotate_left
 ·rw [if_neg p2] at h; cases h
 rw [if_pos p2] at h
 by_cases p3 : i < 1000000000
 rotate_left
 ·rw [if_neg p3] at h; cases h
 rw [if_pos p3] at h
 obtain ⟨u, h1, h2⟩ := Z35.mp h
 have H1 := Ya h1
 have H2 := Ya h2
 obtain ⟨aL, Ap, cp, eaL, hxp, hlp, hrp⟩ := at_L2 hL (i - 1) (by omega) (by omega)
 obtain ⟨aL', Ai, ci, eaL', hxi, hli, hri⟩ := at_L2 hL i (by omega) p2
 cases eaL
 cases eaL'
 rw [show (i - 1).toNat = i.toNat - 1 from by omega] at hxp
 have HN1 := Ya hn1
 have HN2 := Ya hn2
 have HXP := Ya hxp
 have HXI := Ya hxi
 have HLP := Ya hlp
 have HLI := Ya hli
 have HRP := Ya hrp
 have HRI := Ya hri
 have hw1 : IntKind.i64.wrap (i - 1) = i - 1 := IntWalk.i64_in _ (by omega)
 have q0 : (0 ≤ i - 1) = True := eq_true (by omega)
 have q0' : (1 ≤ i) = True := eq_true p1
 have q1 : (i - 1 < (L.length : Int)) = True := eq_true (by omega)
 have q2 : (0 ≤ i) = True := eq_true (by omega)
 have q3 : (i < (L.length : Int)) = True := eq_true p2
 have q4 : decide (0 ≤ i - 1) = true := Z37 (by omega)
 have q5 : decide (i - 1 < (L.length : Int)) = true := Z37 (by omega)
 have q6 : decide (0 ≤ i) = true := Z37 (by omega)
 have q7 : decide (i < (L.length : Int)) = true := Z37 p2
 clear h1 h2 h hB hn1 hn2 hxp hxi hlp hli hrp hri p1 p2 p3 hL
 go_enter Try.func94, Try.ntmps94
 go_wp2_with (first | ((with_reducible refine gate_dst (N := 3) rfl ?_); refine Yx 3 #[.int .i64 x.f0, .int .i64 x.f1, .int .i64 x.f2] 45 ?_; intro gx hgx w2 hbox hb2; have HB2 := Ya (show Below w.heap.size w w2 from HB.out.trans (hb2.mono HB.out.size)); have BK := Ya hbox; clear HB; have HB := HB2; clear HB2 hb2 hbox hgx))
 replace BK := Ya (Z25 BK.out)
 replace HB := Ya (Z4 HB.out)
 refine start_ (n := 13) (S := fun w' => w'.cell? ⟨g1, 0, none⟩ = some (.slice (some aL) L.length cL) ∧ w'.cell? ⟨g2, 0, none⟩ = some (.int .i64 i) ∧ w'.cell? ⟨gx, 0, none⟩ = some (.int .i64 x.f0) ∧ w'.cell? ⟨gx, 1, none⟩ = some (.int .i64 x.f1) ∧ w'.cell? ⟨gx, 2, none⟩ = some (.int .i64 x.f2) ∧ w'.cell? (aL.add (i.toNat - 1)) = some (.slice Ap (rd_L2 L (i - 1)).length cp) ∧ w'.cell? (aL.add i.toNat) = some (.slice Ai (rd_L2 L i).length ci)) (ds := []) (YA 13 0) (by kernel_rfl) rfl rfl ⟨(HB.out.cell (World.block_lt_of_cell? w _ HN1.out)).trans HN1.out, (HB.out.cell (World.block_lt_of_cell? w _ HN2.out)).trans HN2.out, (Z22 BK.out 0).trans rfl, (Z22 BK.out 1).trans rfl, (Z22 BK.out 2).trans rfl, (HB.out.cell (World.block_lt_of_cell? w _ HXP.out)).trans HXP.out, (HB.out.cell (World.block_lt_of_cell? w _ HXI.out)).trans HXI.out⟩ (fun hHeld => ?_)
 generalize w2.drew = w6 at BK HB hHeld ⊢
 refine Ys 0 (some 5) (YA 13 1) rfl hHeld Q27 ?_
 refine Ys 1 (some 6) (YA 13 3) rfl hHeld Q27 ?_
 refine Yq 2 (some 7) (YA 13 7) rfl ?_
 refine Yq 3 (some 8) (YA 13 15) rfl ?_
 refine Ys 4 (some 9) (YA 13 31) rfl hHeld Q27 ?_
 refine Ys 5 (some 10) (YA 13 63) rfl hHeld Q27 ?_
 refine Ys 7 (some 12) (YA 13 191) rfl hHeld Q27 ?_
 refine Ys 8 (some 13) (YA 13 447) rfl hHeld Q27 ?_
 refine Yq 9 (some 14) (YA 13 959) rfl ?_
 refine Ys 10 (some 15) (YA 13 1983) rfl hHeld Q27 ?_
 refine one_ (i := 6) (N := some 11) (YA 13 2047) rfl rfl (by kernel_rfl) (by decide) (fun K hK => ?_)
 refine goes_ Try.func51 (by kernel_rfl) rfl #[.slice Ap (rd_L2 L (i - 1)).length cp, .agg #[.int .i64 x.f0, .int .i64 x.f1, .int .i64 x.f2]] (by rfl) rfl rfl Q34 ?_
 with_reducible refine (impl_moved.calls kq Ap cp (rd_L2 L (i - 1)) x.f0 x.f1 x.f2 u _ (Z21 HRP.out HB.out) HLP.out H1.out).mono ?_
 rintro e w7 ⟨v3, rfl, ho0, hb⟩
 refine ⟨_, rfl, ?_⟩
 obtain ⟨A3, c3, rfl⟩ := Z17 ho0
 have ho1 := Ya (Kd.R_reads' ho0)
 replace HB := Ya (show Below w.heap.size w _ from HB.out.trans (hb.mono HB.out.size))
 replace BK := Ya (Z27 BK.out hb)
 have HO3 := Ya (ho1.out)
 (try clear hb ho0)
 clear ho1
 refine hK.out _ _ ⟨(HB.out.cell (World.block_lt_of_cell? w _ HN1.out)).trans HN1.out, (HB.out.cell (World.block_lt_of_cell? w _ HN2.out)).trans HN2.out, (Z22 BK.out 0).trans rfl, (Z22 BK.out 1).trans rfl, (Z22 BK.out 2).trans rfl, (HB.out.cell (World.block_lt_of_cell? w _ HXP.out)).trans HXP.out, (HB.out.cell (World.block_lt_of_cell? w _ HXI.out)).trans HXI.out⟩ (fun hHeld => ?_)
 clear hK K
 refine norm_ (a' := ?_) ?_ ?_
 rotate_left
 ·show Act.put _ (some 11) _ = _
  simp only [Act.put, Z0, Z1, Z2, i64_w, i32_w]
  rfl
 refine one_ (i := 11) (N := some 16) (YA 13 4095) rfl rfl (by kernel_rfl) (by decide) (fun K hK => ?_)
 refine goes_ Try.func90 (by kernel_rfl) rfl #[.slice A3 u.length c3, .slice Ai (rd_L2 L i).length ci] (by rfl) rfl rfl Q34 ?_
 with_reducible refine (slices_Equal_int_int.calls kq A3 c3 u Ai ci (rd_L2 L i) t _ HO3.out.2.2 HO3.out.2.1 (Z21 HRI.out HB.out) HLI.out H2.out).mono ?_
 rintro e w8 ⟨rfl, hd⟩
 refine ⟨_, rfl, ?_⟩
 have hb := Drawn0.below hd
 clear hd
 replace HB := Ya (show Below w.heap.size w _ from HB.out.trans (hb.mono HB.out.size))
 replace BK := Ya (Z27 BK.out hb)
 skip
 clear HO3
 refine hK.out _ _ ⟨(HB.out.cell (World.block_lt_of_cell? w _ HN1.out)).trans HN1.out, (HB.out.cell (World.block_lt_of_cell? w _ HN2.out)).trans HN2.out, (Z22 BK.out 0).trans rfl, (Z22 BK.out 1).trans rfl, (Z22 BK.out 2).trans rfl, (HB.out.cell (World.block_lt_of_cell? w _ HXP.out)).trans HXP.out, (HB.out.cell (World.block_lt_of_cell? w _ HXI.out)).trans HXI.out⟩ (fun hHeld => ?_)
 clear hK K
 refine norm_ (a' := ?_) ?_ ?_
 rotate_left
 ·show Act.put _ (some 16) _ = _
  simp only [Act.put, Z0, Z1, Z2, i64_w, i32_w]
  rfl
 refine Yq 12 (some 4) (YA 13 8191) rfl ?_
 refine done_ (by kernel_rfl) ?_
 try go_wp2
 go_ret
 exact ⟨rfl, HB.out⟩
set_option maxHeartbeats 8000000 in
set_option maxRecDepth 100000 in
theorem impl_steps.calls (k : Nat) (A0 : Option Addr) (c0 : Nat) (l0 : List (List Int)) (A1 : Option Addr) (c1 : Nat) (l1 : List (S45)) (r1 : List Int) (r2 : Bool) (w : World) (hr0 : Kd.C (Kd.slice 3 (Kd.int .i64)) w A0 l0.length l0) (hc0 : l0.length ≤ c0) (hr1 : Kd.C k45 w A1 l1.length l1) (hc1 : l1.length ≤ c1) (h : impl_steps.f k l0 l1 = some (r1, r2)) :
  Calls Try.prog 68 #[.slice A0 l0.length c0, .slice A1 l1.length c1] w fun e w' => ∃ v0_ : Value, e = .returned (.tuple #[v0_, .bool r2]) ∧ Kd.R (Kd.int .i64) 3 w' w.heap.size (fun _ => True) v0_ r1 ∧ Below w.heap.size w w' := by
 have HR0 := Ya hr0
 have HC0 := Ya hc0
 have HR1 := Ya hr1
 have HC1 := Ya hc1
 have HB := Ya (Below.refl w.heap.size w)
 have H' := Ya h
 unfold impl_steps.f at H'
 clear hr0 hc0 hr1 hc1 h
 go_enter Try.func68, Try.ntmps68
 go_wp2_with (first | ((with_reducible refine gate_dst (N := 2) rfl ?_); refine Yx 2 #[.slice A0 l0.length c0] 50 ?_; intro gx hgx w2 hbox hb2; have HB2 := Ya (show Below w.heap.size w w2 from HB.out.trans (hb2.mono HB.out.size)); have BK := Ya hbox; have hx2 : w2.cell? ⟨gx, 0, none⟩ = some (.slice A0 l0.length c0) := (Z22 hbox 0).trans rfl; have HGX := Ya (show w.heap.size ≤ gx by rw [hgx]; exact Nat.le_refl _); clear HB; have HB := HB2; clear HB2 hb2 hbox hgx) | ((with_reducible refine gate_dst (N := 9) rfl ?_); refine Kd.R_lit (Kd.int .i64) (w0 := w) w.heap.size 3 ?hg (N := 9) ?hd (xs := ([] : List Int)) (inner := []) (ok := fun k_ => k_ ≠ gx) (okp := fun _ => False) ?hr ?hp (fun _ hk => hk.elim) (by have hlt_ := blk_lt BK.out; exact Nat.ne_of_gt hlt_) HB.out HB.out.size (by simp) ?_; (case hd => rfl); (case hg => rfl); (case hr => first | (go_simp; done) | (go_simp; rfl)); (case hp => exact (Reps.none _ _)); intro v3 w3 ho3 hb3 hg3 hnew3; have HO3 := Ya ho3; have HB3 := Ya hb3; have BK3 := Ya (blk_grown BK.out hg3 (fun e_ => by cases e_)); clear HB BK hx2 ho3 hb3 hg3 hnew3))
 have hsz : gx < w3.heap.size := blk_lt BK3.out
 have HO4 := Ya (show Kd.R (Kd.int .i64) 3 (w3.alloc (.cells #[.int .i64 1] 3 (0, 0))) w.heap.size (fun k_ => k_ ≠ w3.heap.size ∧ k_ ≠ gx) v3 [] from Z9 (Z12 (Kd.R_bound HO3.out) (fun k_ hk => ⟨by have := hk.2.2.1; omega, hk.1⟩)) _)
 have BK4 := Ya (Z26 BK3.out (.cells #[.int .i64 1] 3 (0, 0)))
 have BI4 := Ya (blk_new w3 (.cells #[.int .i64 1] 3 (0, 0)))
 have HB4 := Ya (Z5 HB3.out (.cells #[.int .i64 1] 3 (0, 0)))
 have HG4 := Ya HB3.out.size
 clear HO3 BK3 HB3 hsz
 go_loopg [6, 7] k (fun kq v6 v7 w' => ∃ (out : List Int) (i : Int) (gi : Nat), v7 = .pointer (some ⟨gi, 0, none⟩) ∧ Aside0 (impl_steps.l0 kq l0 l1 out i = some (r1, r2)) ∧ Aside0 (kq ≤ k) ∧ Aside0 (Kd.R (Kd.int .i64) 3 w' w.heap.size (fun k_ => k_ ≠ gi ∧ k_ ≠ gx) v6 out) ∧ Aside0 (w'.heap[gx]? = some (.cells #[.slice A0 l0.length c0] 50 (0, 0))) ∧ Aside0 (w'.heap[gi]? = some (.cells #[.int .i64 i] 3 (0, 0))) ∧ Aside0 (Below w.heap.size w w') ∧ Aside0 (w.heap.size ≤ gi))
 case atStart => exact ⟨[], 1, _, rfl, H', ⟨Nat.le_refl _⟩, HO4, BK4, BI4, HB4, HG4⟩
 case round =>
  clear H' HO4 BK4 BI4 HB4
  obtain ⟨out, i, gi, rfl, HA, HK1, HO, BK, BI, HB, HG⟩ := hrel
  cases gk with
  | zero => exact absurd HA.out (by simp [impl_steps.l0])
  | succ k1 =>
   have H := HA.out
   clear HA
   simp only [impl_steps.l0] at H
   have hx2 : wr.cell? ⟨gx, 0, none⟩ = some (.slice A0 l0.length c0) := (Z22 BK.out 0).trans rfl
   have hx7 : wr.cell? ⟨gi, 0, none⟩ = some (.int .i64 i) := (Z22 BI.out 0).trans rfl
   by_cases c : i < (l0.length : Int)
   ·rw [if_pos c] at H
    have cb : decide (i < (l0.length : Int)) = true := Z37 c
    clear c
    obtain ⟨r, hr, H⟩ := Z35.mp H
    have HR := Ya hr
    clear hr
    by_cases cr : r < 0
    ·rw [if_pos cr] at H
     have cb2 : decide (r < 0) = true := Z37 cr
     clear cr
     simp only [Option.some.injEq, Prod.mk.injEq] at H
     obtain ⟨rfl, rfl⟩ := H
     go_wp2_with fail
     refine (impl_steps.index (impl_steps.g l0 i) gx gi k1 A1 c1 l1 r wr (Z21 HR1.out HB.out) HC1.out (fun kq x t w' hB h => impl_steps.lam l0 i A0 c0 gx gi wr (Z21 HR0.out HB.out) ((Z22 BK.out 0).trans rfl) ((Z22 BI.out 0).trans rfl) kq x t w' hB h) HR.out).mono ?_
     rintro e w5 ⟨rfl, hb⟩
     have HB5 := Ya (HB.out.trans (hb.mono HB.out.size))
     clear hb hx2 hx7
     go_wp2
     go_ret2
     exact ⟨_, rfl, Kd.R_nil _ _ _ _ _, HB5.out⟩
    ·rw [if_neg cr] at H
     have cb2 : decide (r < 0) = false := Z36 cr
     clear cr
     by_cases c8 : out.length < 17592186044416
     rotate_left
     ·rw [if_neg c8] at H; exact absurd H (by simp)
     rw [if_pos c8] at H
     have LM := Ya c8
     have H' := Ya H
     clear c8 H
     go_wp2_with fail
     refine (impl_steps.index (impl_steps.g l0 i) gx gi k1 A1 c1 l1 r wr (Z21 HR1.out HB.out) HC1.out (fun kq x t w' hB h => impl_steps.lam l0 i A0 c0 gx gi wr (Z21 HR0.out HB.out) ((Z22 BK.out 0).trans rfl) ((Z22 BI.out 0).trans rfl) kq x t w' hB h) HR.out).mono ?_
     rintro e w5 ⟨rfl, hb⟩
     have HB5 := Ya (HB.out.trans (hb.mono HB.out.size))
     have BK5 := Ya (Z27 BK.out hb)
     have BI5 := Ya (Z27 BI.out hb)
     have HO5 := Ya (Z14 HO.out hb)
     clear hb hx2 hx7 HB BK BI HO
     go_wp2_with (first | ((with_reducible refine gate_builtin (b := .append) (xs := #[.tmp 21, .tmp 23]) rfl ?_); at_builtin; refine Kd.R_append (Kd.int .i64) (w0 := w) w.heap.size rfl (.tmp 21) (.tmp 23) 24 3 (.int .i64 0) 8 rfl Try.underlying24 info3 rfl (by decide) (by omega) u6 out r [.int .i64 r] (fun k_ => k_ ≠ gi ∧ k_ ≠ gx) (fun _ => False) rfl rfl ?aP (fun _ hk => hk.elim) ?aF ?aO ?aB ?aS ?aL ?_; (case aP => exact rfl); (case aB => exact HB5.out); (case aF => exact (fun k_ hk => by have h1 := blk_lt BK5.out; have h2 := blk_lt BI5.out; omega)); (case aO => exact Z12 HO5.out (fun k_ hk => by first | exact hk | exact ⟨hk, fun h_ => h_.elim⟩)); (case aS => exact HB5.out.size); (case aL => have := LM.out; omega); intro v8 w8 ho8 hb8 hg8 hat8; have HO8 := Ya ho8; have HB8 := Ya hb8; have BK8 := Ya (blk_grown BK5.out hg8 (fun e_ => (HO5.out.1 gx e_.symm).2 rfl)); have BI8 := Ya (blk_grown BI5.out hg8 (fun e_ => (HO5.out.1 gi e_.symm).1 rfl)); have hx8 : w8.cell? ⟨gi, 0, none⟩ = some (.int .i64 i) := (Z22 BI8.out 0).trans rfl; clear HO5 HB5 BK5 BI5 ho8 hb8 hg8 hat8))
     go_roundg k1
     case measure => have := HK1.out; omega
     case rel => exact ⟨out ++ [r], wrap64 (i + 1), _, rfl, H', ⟨Q22⟩, ⟨Z9 (Z12 (Kd.R_bound HO8.out) (fun k_ hk => ⟨by have := hk.2.2.1; omega, hk.1.2⟩)) _⟩, ⟨Z26 BK8.out _⟩, ⟨blk_new w8 _⟩, ⟨Z5 HB8.out _⟩, ⟨HB8.out.size⟩⟩
   ·rw [if_neg c] at H
    have cb : decide (i < (l0.length : Int)) = false := Z36 c
    clear c
    simp only [Option.some.injEq, Prod.mk.injEq] at H
    obtain ⟨rfl, rfl⟩ := H
    go_wp2
    go_ret2
    exact ⟨_, rfl, Z12 HO.out (fun _ _ => trivial), HB.out⟩
theorem impl_IsMoveList.zeroB (w : World) : (zeroValue 4).run Try.prog w = .ok (.bool false) w := by kernel_rfl
theorem impl_IsMoveList.mt : Try.prog.underlying 73 = some (.map 3 4) := Try.underlying73
theorem impl_IsMoveList.mk_ : Try.prog.underlying 3 = some (.int .i64) := Try.underlying3
theorem impl_IsMoveList.me : Try.prog.underlying 4 = some .bool := Try.underlying4
def impl_IsMoveList.l0 : Nat → List (List Int) → Int → List Int → Option (List Int)
 | 0, _, _, _ => none
 | k + 1, L, i, met => if i < (L.length : Int) then (if 0 ≤ i then ((impl_permutationRank.f k (rd_L2 L i)).bind fun r => (if (Lit.int .i64 r).wf = true then (if met.length < 1000000 then (impl_IsMoveList.l0 k L (wrap64 (i + 1)) (if r ∈ met then met else r :: met)) else none) else none)) else none) else some met
theorem impl_IsMoveList.mono_l : ∀ k L i met, LeO (impl_IsMoveList.l0 k L i met) (impl_IsMoveList.l0 (k + 1) L i met)
 | 0, _, _, _ => fun r h => by simp [impl_IsMoveList.l0] at h
 | k + 1, L, i, met => by
  unfold impl_IsMoveList.l0
  exact LeO.ite (LeO.ite (LeO.bind (impl_permutationRank.mono _ _) (fun _ => LeO.ite (LeO.ite (impl_IsMoveList.mono_l k _ _ _) (LeO.none _)) (LeO.none _))) (LeO.none _)) (LeO.refl _)
def impl_IsMoveList.f (k : Nat) (a0 : Int) (l1 : List (List Int)) (l2 : List (S45)) : Option (Bool × Bool) := (impl_areMoves.f k a0 l2).bind fun t => (if t = true then ((impl_arePermutations.f k a0 l1).bind fun u => (if u = true then ((impl_IsMoveList.l0 k l1 0 []).bind fun met => ((impl_steps.f k l1 l2).bind fun s => (if s.2 = true then ((impl_factorial.f k a0).bind fun q => (if (l1.length : Int) = q then (some (decide (met.length = l1.length), true)) else (some (false, true)))) else (some (false, true))))) else (some (false, false)))) else (some (false, false)))
theorem impl_IsMoveList.mono : ∀ a0 a1 a2 k, LeO (impl_IsMoveList.f k a0 a1 a2) (impl_IsMoveList.f (k + 1) a0 a1 a2) := by
 intro a0 a1 a2 k
 unfold impl_IsMoveList.f
 refine LeO.bind (impl_areMoves.mono _ _ _) (fun _ => LeO.ite (LeO.bind (impl_arePermutations.mono _ _ _) (fun _ => LeO.ite (LeO.bind (impl_IsMoveList.mono_l _ _ _ _) (fun _ => LeO.bind (impl_steps.mono _ _ _) (fun _ => LeO.ite (LeO.bind (impl_factorial.mono _ _) (fun _ => LeO.refl _)) (LeO.refl _)))) (LeO.refl _))) (LeO.refl _))
open Go.Proofs.Ytllhnnjkonghlaa.MapSet in
set_option maxHeartbeats 8000000 in
set_option maxRecDepth 100000 in
theorem impl_IsMoveList.calls (k : Nat) (a0 : Int) (A1 : Option Addr) (c1 : Nat) (l1 : List (List Int)) (A2 : Option Addr) (c2 : Nat) (l2 : List (S45)) (r1 r2 : Bool) (w : World) (hr1 : Kd.C (Kd.slice 3 (Kd.int .i64)) w A1 l1.length l1) (hc1 : l1.length ≤ c1) (hr2 : Kd.C k45 w A2 l2.length l2) (hc2 : l2.length ≤ c2) (h : impl_IsMoveList.f k a0 l1 l2 = some (r1, r2)) :
  Calls Try.prog 28 #[.int .i64 a0, .slice A1 l1.length c1, .slice A2 l2.length c2] w fun e w' => e = .returned (.tuple #[.bool r1, .bool r2]) ∧ Below w.heap.size w w' := by
 have HR1 := Ya hr1
 have HC1 := Ya hc1
 have HR2 := Ya hr2
 have HC2 := Ya hc2
 unfold impl_IsMoveList.f at h
 obtain ⟨t1, h1, H⟩ := Z35.mp h
 have T1 := Ya h1
 clear h h1 hr1 hc1 hr2 hc2
 cases t1
 ·simp only [Bool.false_eq_true, if_false, Option.some.injEq, Prod.mk.injEq] at H
  obtain ⟨rfl, rfl⟩ := H
  go_enter Try.func28, Try.ntmps28
  go_wp2_with fail
  refine (impl_areMoves.calls k a0 A2 c2 l2 false _ HR2.out HC2.out T1.out).mono ?_
  rintro e w1 ⟨rfl, hb1⟩
  go_wp2
  go_ret2
  exact ⟨rfl, hb1⟩
 simp only [if_true] at H
 obtain ⟨t2, h2, H⟩ := Z35.mp H
 have T2 := Ya h2
 clear h2
 cases t2
 ·simp only [Bool.false_eq_true, if_false, Option.some.injEq, Prod.mk.injEq] at H
  obtain ⟨rfl, rfl⟩ := H
  go_enter Try.func28, Try.ntmps28
  go_wp2_with fail
  refine (impl_areMoves.calls k a0 A2 c2 l2 true _ HR2.out HC2.out T1.out).mono ?_
  rintro e w1 ⟨rfl, hb1⟩
  have HB1 := Ya hb1
  clear hb1
  go_wp2_with fail
  refine (impl_arePermutations.calls k a0 A1 c1 l1 false _ (Z21 HR1.out HB1.out) HC1.out T2.out).mono ?_
  rintro e w2 ⟨rfl, hb2⟩
  have HB2 := Ya (HB1.out.trans ((by first | exact hb2 | exact Drawn0.below hb2 : Below w1.heap.size w1 w2).mono HB1.out.size))
  clear hb2
  go_wp2
  go_ret2
  exact ⟨rfl, HB2.out⟩
 simp only [if_true] at H
 obtain ⟨met, h3, H⟩ := Z35.mp H
 obtain ⟨⟨so, sb⟩, h4, H⟩ := Z35.mp H
 have T4 := Ya h4
 have H3 := Ya h3
 have H' := Ya H
 have hmm := @run_makeMap Try.prog
 clear h3 h4 H
 go_enter Try.func28, Try.ntmps28
 go_wp2_with fail
 refine (impl_areMoves.calls k a0 A2 c2 l2 true _ HR2.out HC2.out T1.out).mono ?_
 rintro e w1 ⟨rfl, hb1⟩
 have HB1 := Ya hb1
 clear hb1
 go_wp2_with fail
 refine (impl_arePermutations.calls k a0 A1 c1 l1 true _ (Z21 HR1.out HB1.out) HC1.out T2.out).mono ?_
 rintro e w2 ⟨rfl, hb2⟩
 have HB2 := Ya (HB1.out.trans ((by first | exact hb2 | exact Drawn0.below hb2 : Below w1.heap.size w1 w2).mono HB1.out.size))
 clear hb2 HB1
 go_wp2
 have HM3 := Ya (MSet.made w2 Try.prog 3 4)
 have HB3 := Ya (Z5 HB2.out (.map #[] 0))
 have HG3 := Ya HB2.out.size
 have hgm : ∃ gm, gm = w2.heap.size := ⟨_, rfl⟩
 clear hmm HB2
 go_loopg [26] k (fun kq v26 w' => ∃ (i : Int) (M : List Int), v26 = .int .i64 i ∧ Aside0 (impl_IsMoveList.l0 kq l1 i M = some met) ∧ Aside0 (kq ≤ k) ∧ Aside0 (MSet Try.prog 3 4 w' w2.heap.size M) ∧ Aside0 (Below w.heap.size w w'))
 case atStart => exact ⟨0, [], rfl, H3, ⟨Nat.le_refl _⟩, HM3, HB3⟩
 case round =>
  clear H3 HM3 HB3 hgm
  obtain ⟨i, M, rfl, HA, HK1, HM, HB⟩ := hrel
  cases gk with
  | zero => exact absurd HA.out (by simp [impl_IsMoveList.l0])
  | succ k1 =>
   have H := HA.out
   clear HA
   simp only [impl_IsMoveList.l0] at H
   by_cases c : i < (l1.length : Int)
   ·rw [if_pos c] at H
    have cb : decide (i < (l1.length : Int)) = true := Z37 c
    by_cases p : 0 ≤ i
    rotate_left
    ·rw [if_neg p] at H; cases H
    rw [if_pos p] at H
    obtain ⟨r, hr, H⟩ := Z35.mp H
    have HR := Ya hr
    clear hr
    by_cases cw : (Lit.int .i64 r).wf = true
    rotate_left
    ·rw [if_neg cw] at H; cases H
    rw [if_pos cw] at H
    by_cases cl : M.length < 1000000
    rotate_left
    ·rw [if_neg cl] at H; cases H
    rw [if_pos cl] at H
    have HW := Ya cw
    have HL := Ya cl
    have Hn := Ya H
    clear cw cl H
    obtain ⟨ad, Ai, ci, ead, hxe, hle, hie⟩ := at_L2 HR1.out i p c
    cases ead
    have HIE := Ya hie
    have HLE := Ya hle
    replace hxe := (HB.out.cell (World.block_lt_of_cell? w _ hxe)).trans hxe
    have pb : (0 ≤ i) = True := eq_true p
    have qb : (i < (l1.length : Int)) = True := eq_true c
    clear p c hle hie
    go_wp2_with fail
    refine (impl_permutationRank.calls k1 Ai ci (rd_L2 l1 i) r _ (Z21 HIE.out HB.out) HLE.out HR.out).mono ?_
    rintro e w5 ⟨rfl, hb⟩
    have hb5 : Below wr.heap.size wr w5 := by first | exact hb | exact Drawn0.below hb
    have HB5 := Ya (HB.out.trans (hb5.mono HB.out.size))
    have HM5 := Ya (HM.out.below hb5)
    clear hb hb5 HB HM hxe
    go_wp2_with (first | ((with_reducible refine wpList_store rfl (.tmp 30) (.tmp 32) (.const (.bool true)) rfl impl_IsMoveList.mt impl_IsMoveList.mk_ impl_IsMoveList.me rfl HM5.out ?hn r HW.out rfl rfl ?_); (case hn => have := HL.out; unfold maxLen; omega); intro w6 hm6 hg6; have HM6 := Ya hm6; have HB6 := Ya (HB5.out.grown hg6 HB5.out.size (fun j hj => by cases hj; exact HG3.out)); clear hm6 hg6 HM5 HB5))
    go_roundg k1
    case measure => have := HK1.out; omega
    case rel => exact ⟨wrap64 (i + 1), _, rfl, Hn, ⟨Q22⟩, HM6, HB6⟩
   ·rw [if_neg c] at H
    have cb : decide (i < (l1.length : Int)) = false := Z36 c
    clear c
    obtain rfl := Option.some.inj H
    have H2 := H'.out
    clear H H'
    try simp only at H2
    go_wp2_with fail
    refine (impl_steps.calls k A1 c1 l1 A2 c2 l2 so sb _ (Z21 HR1.out HB.out) HC1.out (Z21 HR2.out HB.out) HC2.out T4.out).mono ?_
    rintro e w6 ⟨v6, rfl, ho6, hb6⟩
    have HB6 := Ya (HB.out.trans (hb6.mono HB.out.size))
    have HM6 := Ya (HM.out.below hb6)
    clear ho6 hb6 HB HM
    cases sb
    ·simp only [Bool.false_eq_true, if_false, Option.some.injEq, Prod.mk.injEq] at H2
     obtain ⟨rfl, rfl⟩ := H2
     go_wp2
     go_ret2
     exact ⟨rfl, HB6.out⟩
    ·simp only [if_true] at H2
     obtain ⟨q, hq, H2⟩ := Z35.mp H2
     have HQ := Ya hq
     clear hq
     by_cases ce : (l1.length : Int) = q
     ·rw [if_pos ce] at H2
      simp only [Option.some.injEq, Prod.mk.injEq] at H2
      obtain ⟨rfl, rfl⟩ := H2
      have ce1 : ((l1.length : Int) == q) = true := beq_iff_eq.mpr ce
      have ce2 : ((M.length : Int) == (l1.length : Int)) = decide (M.length = l1.length) := by
       by_cases h_ : M.length = l1.length
       ·simp [h_]
       ·simp [h_]; omega
      clear ce
      go_wp2_with fail
      refine (impl_factorial.calls k a0 q _ HQ.out).mono ?_
      rintro e w7 ⟨rfl, hb7⟩
      have hb7' : Below w6.heap.size w6 w7 := by first | exact hb7 | exact Drawn0.below hb7 | (obtain ⟨n, rfl⟩ := hb7; exact Z3 (Below.refl _ _) n)
      have HB7 := Ya (HB6.out.trans (hb7'.mono HB6.out.size))
      have HM7 := Ya (HM6.out.below hb7')
      clear hb7 hb7' HB6 HM6
      go_wp2_with (first | ((try (refine gate_guard (by rfl) ?_; dsimp only)); (with_reducible refine wpList_len rfl (.tmp 49) rfl impl_IsMoveList.mt rfl HM7.out ?_)))
      go_ret2
      exact ⟨by first | rfl | simp, HB7.out⟩
     ·rw [if_neg ce] at H2
      simp only [Option.some.injEq, Prod.mk.injEq] at H2
      obtain ⟨rfl, rfl⟩ := H2
      have ce1 : ((l1.length : Int) == q) = false := beq_eq_false_iff_ne.mpr ce
      clear ce
      go_wp2_with fail
      refine (impl_factorial.calls k a0 q _ HQ.out).mono ?_
      rintro e w7 ⟨rfl, hb7⟩
      have hb7' : Below w6.heap.size w6 w7 := by first | exact hb7 | exact Drawn0.below hb7 | (obtain ⟨n, rfl⟩ := hb7; exact Z3 (Below.refl _ _) n)
      have HB7 := Ya (HB6.out.trans (hb7'.mono HB6.out.size))
      clear hb7 hb7' HB6 HM6
      go_wp2
      go_ret2
      exact ⟨rfl, HB7.out⟩
mutual
def spec_DrawFollowMoves.j1 : Nat → Int → List (S45) → List Int → List Int → Int → Int → Option (Int × (List (S45)) × List Int)
 | 0, _, _, _, _, _, _ => none
 | k + 1, x6, x7, x8, x416000, x416001, x416002 => (spec_l1Cur_one.f x416000 x416001 x416002 12).bind fun bt431 => (if bt431.1 = true then ((spec_l1Cur_among.f x416000 bt431.2.1 bt431.2.2 (([(-1), (x7.length : Int), 0] : List Int))).bind fun bt437 => (if x8.length < 17592186044416 then (some (x6, x7, (x8 ++ [bt437.1]))) else (none))) else (some (x6, x7, x8)))
def spec_DrawFollowMoves.l0 : Nat → Int → List (S45) → List Int → Int → List Int → Int → Int → Option (Int × (List (S45)) × List Int)
 | 0, _, _, _, _, _, _, _ => none
 | k + 1, x6, x7, x8, x9, x416000, x416001, x416002 => if x9 > 0 then (if (x7.length : Int) > 0 then ((spec_l1Cur_pick.f x416000 x416001 x416002 (x7.length : Int)).bind fun bt425 => (if x8.length < 17592186044416 then (spec_DrawFollowMoves.l0 k x6 x7 (x8 ++ [bt425.1]) (wrap64 (x9 - 1)) x416000 bt425.2.1 bt425.2.2) else (none))) else (spec_DrawFollowMoves.j1 k x6 x7 x8 x416000 x416001 x416002)) else (spec_DrawFollowMoves.j1 k x6 x7 x8 x416000 x416001 x416002)
end
def spec_DrawFollowMoves.f (k : Nat) (l0 : List Int) : Option (Int × (List (S45)) × List Int) := (spec_l1Cur_moves.f k l0 0 0).bind fun bt416 => ((spec_l1Cur_pick.f l0 bt416.2.2.1 bt416.2.2.2 20).bind fun bt422 => (spec_DrawFollowMoves.l0 k bt416.1 bt416.2.1 ([] : List Int) bt422.1 l0 bt422.2.1 bt422.2.2))
theorem spec_DrawFollowMoves.mono_l : ∀ k, (∀ y0 y1 y2 y3 y4 y5, LeO (spec_DrawFollowMoves.j1 k y0 y1 y2 y3 y4 y5) (spec_DrawFollowMoves.j1 (k + 1) y0 y1 y2 y3 y4 y5)) ∧ (∀ y0 y1 y2 y3 y4 y5 y6, LeO (spec_DrawFollowMoves.l0 k y0 y1 y2 y3 y4 y5 y6) (spec_DrawFollowMoves.l0 (k + 1) y0 y1 y2 y3 y4 y5 y6))
 | 0 => ⟨fun _ _ _ _ _ _ r h => by simp [spec_DrawFollowMoves.j1] at h, fun _ _ _ _ _ _ _ r h => by simp [spec_DrawFollowMoves.l0] at h⟩
 | k + 1 => by
  obtain ⟨ih0, ih1⟩ := spec_DrawFollowMoves.mono_l k
  refine ⟨?_, ?_⟩
  ·intro y0 y1 y2 y3 y4 y5
   unfold spec_DrawFollowMoves.j1
   repeat' first
   | (with_reducible exact ih0 _ _ _ _ _ _)
   | (with_reducible exact ih1 _ _ _ _ _ _ _)
   | (with_reducible exact spec_l1Cur_moves.mono _ _ _ _)
   | (with_reducible exact LeO.refl _)
   | (with_reducible exact LeO.none _)
   | (with_reducible refine LeO.ite ?_ ?_)
   | (with_reducible refine LeO.bind ?_ (fun _ => ?_))
   | exact ih0 _ _ _ _ _ _
   | exact ih1 _ _ _ _ _ _ _
   | exact spec_l1Cur_moves.mono _ _ _ _
   | exact LeO.none _
   | refine LeO.ite ?_ ?_
   | refine LeO.bind ?_ (fun _ => ?_)
  ·intro y0 y1 y2 y3 y4 y5 y6
   unfold spec_DrawFollowMoves.l0
   repeat' first
   | (with_reducible exact ih0 _ _ _ _ _ _)
   | (with_reducible exact ih1 _ _ _ _ _ _ _)
   | (with_reducible exact spec_l1Cur_moves.mono _ _ _ _)
   | (with_reducible exact LeO.refl _)
   | (with_reducible exact LeO.none _)
   | (with_reducible refine LeO.ite ?_ ?_)
   | (with_reducible refine LeO.bind ?_ (fun _ => ?_))
   | exact ih0 _ _ _ _ _ _
   | exact ih1 _ _ _ _ _ _ _
   | exact spec_l1Cur_moves.mono _ _ _ _
   | exact LeO.none _
   | refine LeO.ite ?_ ?_
   | refine LeO.bind ?_ (fun _ => ?_)
theorem spec_DrawFollowMoves.mono : ∀ a0 k, LeO (spec_DrawFollowMoves.f k a0) (spec_DrawFollowMoves.f (k + 1) a0) := by
 intro a0 k
 obtain ⟨ih0, ih1⟩ := spec_DrawFollowMoves.mono_l k
 unfold spec_DrawFollowMoves.f
 repeat' first
   | (with_reducible exact ih0 _ _ _ _ _ _)
   | (with_reducible exact ih1 _ _ _ _ _ _ _)
   | (with_reducible exact spec_l1Cur_moves.mono _ _ _ _)
   | (with_reducible exact LeO.refl _)
   | (with_reducible exact LeO.none _)
   | (with_reducible refine LeO.ite ?_ ?_)
   | (with_reducible refine LeO.bind ?_ (fun _ => ?_))
   | exact ih0 _ _ _ _ _ _
   | exact ih1 _ _ _ _ _ _ _
   | exact spec_l1Cur_moves.mono _ _ _ _
   | exact LeO.none _
   | refine LeO.ite ?_ ?_
   | refine LeO.bind ?_ (fun _ => ?_)
set_option maxHeartbeats 8000000 in
set_option maxRecDepth 100000 in
theorem spec_DrawFollowMoves.calls (k : Nat) (A0 : Option Addr) (c0 : Nat) (l0 : List Int) (r1 : Int) (r2 : List (S45)) (r3 : List Int) (w : World) (hr0 : Kd.C (Kd.int .u8) w A0 l0.length l0) (hc0 : l0.length ≤ c0) (h : spec_DrawFollowMoves.f k l0 = some (r1, r2, r3)) :
  Calls Try.prog 29 #[.slice A0 l0.length c0] w fun e w' => ∃ v1_ v2_ : Value, e = .returned (.tuple #[.int .i64 r1, v1_, v2_]) ∧ Kd.R k45 45 w' w.heap.size (fun _ => True) v1_ r2 ∧ Kd.R (Kd.int .i64) 3 w' w.heap.size (fun _ => True) v2_ r3 ∧ Below w.heap.size w w' := by
 have hu88 := Try.underlying88
 have HR0 := Ya hr0
 have HC0 := Ya hc0
 clear hr0 hc0
 have HB := Ya (Below.refl w.heap.size w)
 have H : ((spec_l1Cur_moves.f k l0 0 0).bind fun bt416 => ((spec_l1Cur_pick.f l0 bt416.2.2.1 bt416.2.2.2 20).bind fun bt422 => (spec_DrawFollowMoves.l0 k bt416.1 bt416.2.1 ([] : List Int) bt422.1 l0 bt422.2.1 bt422.2.2))) = some (r1, r2, r3) := h
 clear h
 replace H := Z35.mp H
 obtain ⟨⟨t416, t417, t420, t421⟩, A20, H⟩ := H
 replace H : ((spec_l1Cur_pick.f l0 t420 t421 20).bind fun bt422 => (spec_DrawFollowMoves.l0 k t416 t417 ([] : List Int) bt422.1 l0 bt422.2.1 bt422.2.2)) = some (r1, r2, r3) := H
 have A2 := Ya A20
 clear A20
 replace H := Z35.mp H
 obtain ⟨⟨t422, t423, t424⟩, A30, H⟩ := H
 replace H : (spec_DrawFollowMoves.l0 k t416 t417 ([] : List Int) t422 l0 t423 t424) = some (r1, r2, r3) := H
 have A3 := Ya A30
 clear A30
 have HC4 := Ya H
 clear H
 go_enter Try.func29, Try.ntmps29
 go_upto_block 0 with (first | ((with_reducible refine gate_dst (N := 12) rfl ?_); (try (refine gate_guard (by rfl) ?_; dsimp only)); refine Yx 12 #[.slice A0 l0.length c0, .int .i64 0, .int .u64 0] 88 ?_; intro gb415 hg w5 hbox hb; have HI415 := Ya ((show IsS88 w w5 gb415 l0 0 0 from ⟨_, _, hbox, (by rw [hg]; exact (Z7 Q12) : w.heap.size ≤ gb415), HR0.out⟩)); replace HB := Yh hb; clear hb hbox hg) | ((with_reducible refine gate_callee (f := 64) rfl ?_); refine Yz 15 Try.func64 #[.pointer (some ⟨gb415, 0, none⟩)] ?_; (with_reducible refine (spec_l1Cur_moves.calls k gb415 l0 0 0 t416 t417 t420 t421 w _ ?side1 ?side2 A2.out).mono ?_); (case side1 => repeat (first | (with_reducible first | exact HI415.out | apply IsS88.alloc | apply IsS88.drewN | apply IsS88.drew | apply IsS88.set_1 | apply IsS88.set_2) | exact HI415.out)); (case side2 => repeat (first | (with_reducible first | exact HB.out | apply Z5 | apply Z3 | apply Z4 | refine Z6 ?_ (IsS88.ge HI415.out)) | exact HB.out)); rintro e w6 ⟨v418, rfl, ho0, hi, hb, hk⟩; refine ⟨_, rfl, ?_⟩; have HO419 := Ya (Kd.R_lower ho0 (Z7 Q20)); replace HB := Ya hb; replace HI415 := Ya hi; (try clear hb hk hi ho0)) | ((with_reducible refine gate_callee (f := 69) rfl ?_); refine Yz 19 Try.func69 #[.pointer (some ⟨gb415, 0, none⟩), .int .i64 20] ?_; (with_reducible refine (spec_l1Cur_pick.calls gb415 l0 t420 t421 20 t422 t423 t424 w _ ?side1 ?side2 A3.out).mono ?_); (case side1 => repeat (first | (with_reducible first | exact HI415.out | apply IsS88.alloc | apply IsS88.drewN | apply IsS88.drew | apply IsS88.set_1 | apply IsS88.set_2) | exact HI415.out)); (case side2 => repeat (first | (with_reducible first | exact HB.out | apply Z5 | apply Z3 | apply Z4 | refine Z6 ?_ (IsS88.ge HI415.out)) | exact HB.out)); rintro e w7 ⟨rfl, hi, hb, hk⟩; refine ⟨_, rfl, ?_⟩; replace HO419 := Ya (Z12 (Kd.R_keep (IsS88.apart (show IsS88 w _ gb415 l0 t420 t421 from by repeat (first | (with_reducible first | exact HI415.out | apply IsS88.alloc | apply IsS88.drewN | apply IsS88.drew | apply IsS88.set_1 | apply IsS88.set_2) | exact HI415.out)) (Yr HO419.out) (by decide)) hk (fun _ h => h.2)) (fun _ h => h.1)); replace HB := Ya hb; replace HI415 := Ya hi; (try clear hb hk hi)))
 (try simp only [Act.put, Z0, Z1, Z2])
 go_cut [8] (fun v8 wc => ∃ (kq : Nat) (x8_3 : List Int) (x416001_3 : Int) (x416002_3 : Int), Aside0 (spec_DrawFollowMoves.j1 kq t416 t417 x8_3 l0 x416001_3 x416002_3 = some (r1, r2, r3)) ∧ Aside0 (kq ≤ k) ∧ Aside0 (Kd.R k45 45 wc w.heap.size (fun _ => True) v418 t417) ∧ Aside0 (Kd.R (Kd.int .i64) 3 wc w.heap.size (fun _ => True) v8 x8_3) ∧ Aside0 (IsS88 w wc gb415 l0 x416001_3 x416002_3) ∧ Aside0 (Below w.heap.size w wc))
 case first =>
  have H := HC4.out
  clear HC4
  have H' := Ya H
  clear H
  go_wp2
  go_loopg [8, 9] k (fun kq v8 v9 w' => ∃ (x8_1 : List Int) (x9_1 : Int) (x416001_1 : Int) (x416002_1 : Int), v9 = .int .i64 x9_1 ∧ Aside0 (spec_DrawFollowMoves.l0 kq t416 t417 x8_1 x9_1 l0 x416001_1 x416002_1 = some (r1, r2, r3)) ∧ Aside0 (kq ≤ k) ∧ Aside0 (Kd.R k45 45 w' w.heap.size (fun _ => True) v418 t417) ∧ Aside0 (Kd.R (Kd.int .i64) 3 w' w.heap.size (fun _ => True) v8 x8_1) ∧ Aside0 (IsS88 w w' gb415 l0 x416001_1 x416002_1) ∧ Aside0 (Below w.heap.size w w'))
  case atStart => exact ⟨(([] : List Int)), (t422), (t423), (t424), Q3, H', ⟨Nat.le_refl _⟩, ⟨by (with_reducible repeat (first | apply Z9 | apply Z10 | apply Z11)); exact HO419.out⟩, ⟨Q11⟩, ⟨Q30⟩, ⟨Q25⟩⟩
  case round =>
   clear H'
   try clear c2
   try clear p2
   try clear c6
   obtain ⟨x8_1, x9_1, x416001_1, x416002_1, rfl, HA, HK1, HO_7, HO_8, HI415, HB⟩ := hrel
   cases gk with
   | zero => exact absurd HA.out (by simp [spec_DrawFollowMoves.l0])
   | succ k1 =>
    have H := HA.out
    clear HA
    simp only [spec_DrawFollowMoves.l0] at H
    by_cases c8 : x9_1 > 0
    ·rw [if_pos c8] at H
     have c8b0 : decide (0 < x9_1) = true := Z37 c8
     clear c8
     (first | rw [c8b0] | (simp only [i64_w, i32_w]; rw [c8b0]) | skip)
     by_cases c9 : (t417.length : Int) > 0
     ·rw [if_pos c9] at H
      have c9b0 : decide (0 < (t417.length : Int)) = true := Z37 c9
      have c9b1 : decide (0 < t417.length) = true := Z37 (by omega)
      clear c9
      replace H := Z35.mp H
      obtain ⟨⟨t425, t426, t427⟩, A100, H⟩ := H
      replace H : (if x8_1.length < 17592186044416 then (spec_DrawFollowMoves.l0 k1 t416 t417 (x8_1 ++ [t425]) (wrap64 (x9_1 - 1)) l0 t426 t427) else (none)) = some (r1, r2, r3) := H
      have A10 := Ya A100
      clear A100
      by_cases c11 : x8_1.length < 17592186044416
      ·rw [if_pos c11] at H
       have LMc11 := Ya c11
       clear c11
       obtain ⟨y428, hy428⟩ : ∃ y_ : List Int, y_ = (x8_1 ++ [t425]) := ⟨_, rfl⟩
       replace H : (spec_DrawFollowMoves.l0 k1 t416 t417 y428 (wrap64 (x9_1 - 1)) l0 t426 t427) = some (r1, r2, r3) := by first | (rw [hy428]; with_reducible exact H) | (have H2_ := (Option.bind_some _ _).symm.trans H; rw [hy428]; with_reducible exact H2_) | (have H2_ := (Option.bind_some _ _).symm.trans H; with_reducible exact H2_) | with_reducible exact H | (rw [hy428]; exact H) | exact H
       have Ny428 := Ya hy428
       clear hy428
       have H' := Ya H
       clear H
       obtain ⟨Ao12, co12, rfl⟩ := Z17 HO_7.out
       go_wp2_with (first | ((with_reducible refine gate_callee (f := 69) rfl ?_); refine Yz 33 Try.func69 #[.pointer (some ⟨gb415, 0, none⟩), .int .i64 (t417.length : Int)] ?_; (with_reducible refine (spec_l1Cur_pick.calls gb415 l0 x416001_1 x416002_1 (t417.length : Int) t425 t426 t427 w _ ?side1 ?side2 A10.out).mono ?_); (case side1 => repeat (first | (with_reducible first | exact HI415.out | apply IsS88.alloc | apply IsS88.drewN | apply IsS88.drew | apply IsS88.set_1 | apply IsS88.set_2) | exact HI415.out)); (case side2 => repeat (first | (with_reducible first | exact HB.out | apply Z5 | apply Z3 | apply Z4 | refine Z6 ?_ (IsS88.ge HI415.out)) | exact HB.out)); rintro e w13 ⟨rfl, hi, hb, hk⟩; refine ⟨_, rfl, ?_⟩; replace HO_7 := Ya (Z12 (Kd.R_keep (IsS88.apart (show IsS88 w _ gb415 l0 x416001_1 x416002_1 from by repeat (first | (with_reducible first | exact HI415.out | apply IsS88.alloc | apply IsS88.drewN | apply IsS88.drew | apply IsS88.set_1 | apply IsS88.set_2) | exact HI415.out)) (Yr HO_7.out) (by decide)) hk (fun _ h => h.2)) (fun _ h => h.1)); replace HO_8 := Ya (Z12 (Kd.R_keep (IsS88.apart (show IsS88 w _ gb415 l0 x416001_1 x416002_1 from by repeat (first | (with_reducible first | exact HI415.out | apply IsS88.alloc | apply IsS88.drewN | apply IsS88.drew | apply IsS88.set_1 | apply IsS88.set_2) | exact HI415.out)) (Yr HO_8.out) (by decide)) hk (fun _ h => h.2)) (fun _ h => h.1)); replace HB := Ya hb; replace HI415 := Ya hi; (try clear hb hk hi)) | ((with_reducible refine gate_builtin (b := .append) (xs := #[.tmp 29, .tmp 34]) rfl ?_); (try (refine gate_guard (by rfl) ?_; dsimp only)); at_builtin; refine Kd.R_append (Kd.int .i64) (w0 := w) w.heap.size rfl (.tmp 29) (.tmp 34) 24 3 (.int .i64 0) 8 rfl Try.underlying24 info3 rfl (by decide) (by omega) u8 x8_1 t425 [.int .i64 t425] (fun _ => True) (fun _ => False) rfl rfl ?aP (fun _ hk => hk.elim) ?aF ?aO ?aB ?aS ?aL ?_; (case aP => exact rfl); (case aB => exact Q20); (case aF => exact (fun _ _ => trivial)); (case aO => exact (Yr HO_8.out)); (case aS => exact (Z7 Q20)); (case aL => have := LMc11.out; omega); intro v429 w14 ho hb hg hat; rw [← Ny428.out] at ho; replace HO_7 := Ya (Kd.R_over' (Yr HO_7.out) (Kd.R_typed (Yr HO_8.out)) (by decide) hg); replace HI415 := Ya (IsS88.grown Q36 hg (IsS88.own_ne HI415.out HO_8.out (by decide))); replace HB := Ya hb; have HO430 := Ya ho; clear HO_8; clear ho hb hg hat))
       go_roundg k1
       case measure => have := HK1.out; omega
       case rel => exact ⟨(y428), (wrap64 (x9_1 - 1)), (t426), (t427), Q3, H', ⟨Q22⟩, ⟨Q23⟩, ⟨by (with_reducible repeat (first | apply Z9 | apply Z10 | apply Z11)); exact HO430.out⟩, ⟨Q30⟩, ⟨Q25⟩⟩
      ·rw [if_neg c11] at H
       exact absurd H (by simp)
     ·rw [if_neg c9] at H
      have c9b0 : decide (0 < (t417.length : Int)) = false := Z36 c9
      have c9b1 : decide (0 < t417.length) = false := Z36 (by omega)
      clear c9
      have H' := Ya H
      clear H
      obtain ⟨Ao15, co15, rfl⟩ := Z17 HO_7.out
      go_wp2
      go_meet
      case rel => exact ⟨_, (x8_1), (x416001_1), (x416002_1), H', ⟨Q52⟩, ⟨Q23⟩, ⟨Q48⟩, ⟨Q30⟩, ⟨Q25⟩⟩
    ·rw [if_neg c8] at H
     have c8b0 : decide (0 < x9_1) = false := Z36 c8
     clear c8
     (first | rw [c8b0] | (simp only [i64_w, i32_w]; rw [c8b0]) | skip)
     have H' := Ya H
     clear H
     go_wp2
     go_meet
     case rel => exact ⟨_, (x8_1), (x416001_1), (x416002_1), H', ⟨Q52⟩, ⟨Q23⟩, ⟨Q48⟩, ⟨Q30⟩, ⟨Q25⟩⟩
 case rest =>
  clear HC4
  try clear c1
  try clear c2
  try clear p2
  try clear c6
  try clear p6
  try clear c8
  try clear c8b0
  try clear c9
  try clear c9b0
  try clear c9b1
  try clear c11
  try clear p2
  obtain ⟨kq, x8_3, x416001_3, x416002_3, HA, HJ3, HO_7, HO_8, HI415, HB⟩ := hcut
  cases kq with
  | zero => exact absurd HA.out (by simp [spec_DrawFollowMoves.j1])
  | succ kj3 =>
   have H := HA.out
   clear HA
   simp only [spec_DrawFollowMoves.j1] at H
   replace H := Z35.mp H
   obtain ⟨⟨t431, t432, t433⟩, A160, H⟩ := H
   replace H : (if t431 = true then ((spec_l1Cur_among.f l0 t432 t433 (([(-1), (t417.length : Int), 0] : List Int))).bind fun bt437 => (if x8_3.length < 17592186044416 then (some (t416, t417, (x8_3 ++ [bt437.1]))) else (none))) else (some (t416, t417, x8_3))) = some (r1, r2, r3) := H
   have A16 := Ya A160
   clear A160
   by_cases c17 : t431 = true
   ·subst c17
    have H1 : ((spec_l1Cur_among.f l0 t432 t433 (([(-1), (t417.length : Int), 0] : List Int))).bind fun bt437 => (if x8_3.length < 17592186044416 then (some (t416, t417, (x8_3 ++ [bt437.1]))) else (none))) = some (r1, r2, r3) := by rw [if_pos rfl] at H; exact H
    clear H
    have H := H1
    clear H1
    obtain ⟨y434, hy434⟩ : ∃ y_ : List Int, y_ = (([(-1), (t417.length : Int), 0] : List Int)) := ⟨_, rfl⟩
    replace H : ((spec_l1Cur_among.f l0 t432 t433 y434).bind fun bt437 => (if x8_3.length < 17592186044416 then (some (t416, t417, (x8_3 ++ [bt437.1]))) else (none))) = some (r1, r2, r3) := by first | (rw [hy434]; with_reducible exact H) | (have H2_ := (Option.bind_some _ _).symm.trans H; rw [hy434]; with_reducible exact H2_) | (have H2_ := (Option.bind_some _ _).symm.trans H; with_reducible exact H2_) | with_reducible exact H | (rw [hy434]; exact H) | exact H
    have Ny434 := Ya hy434
    clear hy434
    replace H := Z35.mp H
    obtain ⟨⟨t437, t438, t439⟩, A180, H⟩ := H
    replace H : (if x8_3.length < 17592186044416 then (some (t416, t417, (x8_3 ++ [t437]))) else (none)) = some (r1, r2, r3) := H
    have A18 := Ya A180
    clear A180
    by_cases c19 : x8_3.length < 17592186044416
    ·rw [if_pos c19] at H
     have LMc19 := Ya c19
     clear c19
     obtain ⟨y440, hy440⟩ : ∃ y_ : List Int, y_ = (x8_3 ++ [t437]) := ⟨_, rfl⟩
     replace H : (some (t416, t417, y440)) = some (r1, r2, r3) := by first | (rw [hy440]; with_reducible exact H) | (have H2_ := (Option.bind_some _ _).symm.trans H; rw [hy440]; with_reducible exact H2_) | (have H2_ := (Option.bind_some _ _).symm.trans H; with_reducible exact H2_) | with_reducible exact H | (rw [hy440]; exact H) | exact H
     have Ny440 := Ya hy440
     clear hy440
     simp only [Option.some.injEq, Prod.mk.injEq] at H
     obtain ⟨rfl, rfl, rfl⟩ := H
     go_wp2_with (first | ((with_reducible refine gate_callee (f := 70) rfl ?_); refine Yz 37 Try.func70 #[.pointer (some ⟨gb415, 0, none⟩), .int .i64 12] ?_; (with_reducible refine (spec_l1Cur_one.calls gb415 l0 x416001_3 x416002_3 12 true t432 t433 w _ ?side1 ?side2 A16.out).mono ?_); (case side1 => repeat (first | (with_reducible first | exact HI415.out | apply IsS88.alloc | apply IsS88.drewN | apply IsS88.drew | apply IsS88.set_1 | apply IsS88.set_2) | exact HI415.out)); (case side2 => repeat (first | (with_reducible first | exact HB.out | apply Z5 | apply Z3 | apply Z4 | refine Z6 ?_ (IsS88.ge HI415.out)) | exact HB.out)); rintro e w20 ⟨rfl, hi, hb, hk⟩; refine ⟨_, rfl, ?_⟩; replace HO_7 := Ya (Z12 (Kd.R_keep (IsS88.apart (show IsS88 w _ gb415 l0 x416001_3 x416002_3 from by repeat (first | (with_reducible first | exact HI415.out | apply IsS88.alloc | apply IsS88.drewN | apply IsS88.drew | apply IsS88.set_1 | apply IsS88.set_2) | exact HI415.out)) (Yr HO_7.out) (by decide)) hk (fun _ h => h.2)) (fun _ h => h.1)); replace HO_8 := Ya (Z12 (Kd.R_keep (IsS88.apart (show IsS88 w _ gb415 l0 x416001_3 x416002_3 from by repeat (first | (with_reducible first | exact HI415.out | apply IsS88.alloc | apply IsS88.drewN | apply IsS88.drew | apply IsS88.set_1 | apply IsS88.set_2) | exact HI415.out)) (Yr HO_8.out) (by decide)) hk (fun _ h => h.2)) (fun _ h => h.1)); replace HB := Ya hb; replace HI415 := Ya hi; (try clear hb hk hi); obtain ⟨Ao21, co21, rfl⟩ := Z17 HO_7.out) | ((with_reducible refine gate_dst (N := 42) rfl ?_); (try (refine gate_guard (by rfl) ?_; dsimp only)); refine Kd.R_lit (Kd.int .i64) _ 3 ?hg (N := 42) ?hd (xs := ([(-1), (t417.length : Int), 0] : List Int)) (inner := [.int .i64 (-1), .int .i64 (t417.length : Int), .int .i64 0]) (ok := fun _ => True) (okp := fun _ => True) ?hr ?hp (fun _ hk => hk) trivial (Below.refl _ _) (Nat.le_refl _) (by simp) ?_; (case hd => rfl); (case hg => rfl); (case hr => first | (go_simp; done) | (go_simp; rfl)); (case hp => exact (Reps.one (show Kd.M (Kd.int .i64) _ _ _ (-1) [.int .i64 (-1)] from rfl) (Reps.one (show Kd.M (Kd.int .i64) _ _ _ (t417.length : Int) [.int .i64 (t417.length : Int)] from rfl) (Reps.one (show Kd.M (Kd.int .i64) _ _ _ 0 [.int .i64 0] from rfl) (Reps.none _ _))))); intro v435 w22 ho23 hb hg_ hnew_; clear hg_ hnew_; (first | rw [← Ny434.out] at ho23 | (simp only [Int.reduceToNat] at ho23; rw [← Ny434.out] at ho23)); replace HO_7 := Yw HO_7 hb; have HO436 := Ya (Kd.R_lower (Kd.R_new' ho23 (Z16 (Yr HO_8.out))) (Z7 Q20)); replace HO_8 := Ya (Kd.R_elder' (Yr HO_8.out) (Kd.R_base ho23) hb); replace HB := Ya (Z8 Q20 hb); replace HI415 := Ya (IsS88.below Q36 hb); clear hb ho23; obtain ⟨Ao24, co24, rfl⟩ := Z17 HO436.out) | ((with_reducible refine gate_callee (f := 65) rfl ?_); refine Yz 43 Try.func65 #[.pointer (some ⟨gb415, 0, none⟩), .slice Ao24 y434.length co24] ?_; (with_reducible refine (spec_l1Cur_among.calls gb415 l0 t432 t433 _ _ y434 t437 t438 t439 w _ ?side1 ?side2 (Yc (Kd.R_reads' HO436.out).2.2) ((Kd.R_reads' HO436.out).2.1) ?side5 A18.out).mono ?_); (case side1 => repeat (first | (with_reducible first | exact HI415.out | apply IsS88.alloc | apply IsS88.drewN | apply IsS88.drew | apply IsS88.set_1 | apply IsS88.set_2) | exact HI415.out)); (case side2 => repeat (first | (with_reducible first | exact HB.out | apply Z5 | apply Z3 | apply Z4 | refine Z6 ?_ (IsS88.ge HI415.out)) | exact HB.out)); (case side5 => exact far_slice (IsS88.own_ne HI415.out HO436.out (by decide))); rintro e w25 ⟨rfl, hi, hb, hk⟩; refine ⟨_, rfl, ?_⟩; replace HO_7 := Ya (Z12 (Kd.R_keep (IsS88.apart (show IsS88 w _ gb415 l0 t432 t433 from by repeat (first | (with_reducible first | exact HI415.out | apply IsS88.alloc | apply IsS88.drewN | apply IsS88.drew | apply IsS88.set_1 | apply IsS88.set_2) | exact HI415.out)) (Yr HO_7.out) (by decide)) hk (fun _ h => h.2)) (fun _ h => h.1)); replace HO_8 := Ya (Z12 (Kd.R_keep (IsS88.apart (show IsS88 w _ gb415 l0 t432 t433 from by repeat (first | (with_reducible first | exact HI415.out | apply IsS88.alloc | apply IsS88.drewN | apply IsS88.drew | apply IsS88.set_1 | apply IsS88.set_2) | exact HI415.out)) (Yr HO_8.out) (by decide)) hk (fun _ h => h.2)) (fun _ h => h.1)); replace HO436 := Ya (Z12 (Kd.R_keep (IsS88.apart (show IsS88 w _ gb415 l0 t432 t433 from by repeat (first | (with_reducible first | exact HI415.out | apply IsS88.alloc | apply IsS88.drewN | apply IsS88.drew | apply IsS88.set_1 | apply IsS88.set_2) | exact HI415.out)) (Yr HO436.out) (by decide)) hk (fun _ h => h.2)) (fun _ h => h.1)); replace HB := Ya hb; replace HI415 := Ya hi; (try clear hb hk hi)) | ((with_reducible refine gate_builtin (b := .append) (xs := #[.tmp 38, .tmp 44]) rfl ?_); (try (refine gate_guard (by rfl) ?_; dsimp only)); at_builtin; refine Kd.R_append (Kd.int .i64) (w0 := w) w.heap.size rfl (.tmp 38) (.tmp 44) 24 3 (.int .i64 0) 8 rfl Try.underlying24 info3 rfl (by decide) (by omega) u8 x8_3 t437 [.int .i64 t437] (fun k_ => some k_ ≠ (.slice Ao24 y434.length co24 : Value).ownBlock) (fun _ => False) rfl rfl ?aP (fun _ hk => hk.elim) ?aF ?aO ?aB ?aS ?aL ?_; (case aP => exact rfl); (case aB => exact Q20); (case aF => exact (fun k_ hk => Kd.fresh' (Z16 (Yr HO436.out)) k_ hk)); (case aO => exact (Yj HO_8.out (fun _ hk => hk.2))); (case aS => exact (Z7 Q20)); (case aL => have := LMc19.out; omega); intro v441 w26 ho hb hg hat; rw [← Ny440.out] at ho; replace HO_7 := Ya (Kd.R_over' (Yr HO_7.out) (Kd.R_typed (Yr HO_8.out)) (by decide) hg); replace HI415 := Ya (IsS88.grown Q36 hg (IsS88.own_ne HI415.out HO_8.out (by decide))); replace HO436 := Ya (Kd.R_after (ok := (fun _ => True)) (Yr HO436.out) hg hat); replace HB := Ya hb; have HO442 := Ya ho; clear HO_8; clear ho hb hg hat))
     go_ret3
     exact ⟨_, _, Q2, Q23, Yj HO442.out (fun _ hk => trivial), Q25⟩
    ·rw [if_neg c19] at H
     exact absurd H (by simp)
   ·replace c17 := Bool.eq_false_iff.mpr c17
    subst c17
    have H1 : (some (t416, t417, x8_3)) = some (r1, r2, r3) := by rw [if_neg (show ¬ (false = true) by decide)] at H; exact H
    clear H
    have H := H1
    clear H1
    simp only [Option.some.injEq, Prod.mk.injEq] at H
    obtain ⟨rfl, rfl, rfl⟩ := H
    go_wp2_with (first | ((with_reducible refine gate_callee (f := 70) rfl ?_); refine Yz 37 Try.func70 #[.pointer (some ⟨gb415, 0, none⟩), .int .i64 12] ?_; (with_reducible refine (spec_l1Cur_one.calls gb415 l0 x416001_3 x416002_3 12 false t432 t433 w _ ?side1 ?side2 A16.out).mono ?_); (case side1 => repeat (first | (with_reducible first | exact HI415.out | apply IsS88.alloc | apply IsS88.drewN | apply IsS88.drew | apply IsS88.set_1 | apply IsS88.set_2) | exact HI415.out)); (case side2 => repeat (first | (with_reducible first | exact HB.out | apply Z5 | apply Z3 | apply Z4 | refine Z6 ?_ (IsS88.ge HI415.out)) | exact HB.out)); rintro e w27 ⟨rfl, hi, hb, hk⟩; refine ⟨_, rfl, ?_⟩; replace HO_7 := Ya (Z12 (Kd.R_keep (IsS88.apart (show IsS88 w _ gb415 l0 x416001_3 x416002_3 from by repeat (first | (with_reducible first | exact HI415.out | apply IsS88.alloc | apply IsS88.drewN | apply IsS88.drew | apply IsS88.set_1 | apply IsS88.set_2) | exact HI415.out)) (Yr HO_7.out) (by decide)) hk (fun _ h => h.2)) (fun _ h => h.1)); replace HO_8 := Ya (Z12 (Kd.R_keep (IsS88.apart (show IsS88 w _ gb415 l0 x416001_3 x416002_3 from by repeat (first | (with_reducible first | exact HI415.out | apply IsS88.alloc | apply IsS88.drewN | apply IsS88.drew | apply IsS88.set_1 | apply IsS88.set_2) | exact HI415.out)) (Yr HO_8.out) (by decide)) hk (fun _ h => h.2)) (fun _ h => h.1)); replace HB := Ya hb; replace HI415 := Ya hi; (try clear hb hk hi)))
    go_ret3
    exact ⟨_, _, Q2, Q23, Q48, Q25⟩
def spec_l1All.l0 : Nat → Int → Int → List Int → Int → Int → Option (Bool)
 | 0, _, _, _, _, _ => none
 | k + 1, x1, x2, x9, x10, x11 => if x11 < x10 then (if 0 ≤ x11 then (if x11 < (x9.length : Int) then ((spec_l1In.f (rd x9 x11) x1 x2).bind fun t444 => (if t444 = true then (spec_l1All.l0 k x1 x2 x9 x10 (wrap64 (x11 + 1))) else (some false))) else (none)) else (none)) else (some true)
def spec_l1All.f (k : Nat) (l0 : List Int) (a1 : Int) (a2 : Int) : Option (Bool) := spec_l1All.l0 k a1 a2 l0 (l0.length : Int) 0
theorem spec_l1All.mono_l : ∀ k, (∀ y0 y1 y2 y3 y4, LeO (spec_l1All.l0 k y0 y1 y2 y3 y4) (spec_l1All.l0 (k + 1) y0 y1 y2 y3 y4))
 | 0 => fun _ _ _ _ _ r h => by simp [spec_l1All.l0] at h
 | k + 1 => by
  have ih0 := spec_l1All.mono_l k
  ·intro y0 y1 y2 y3 y4
   unfold spec_l1All.l0
   repeat' first
   | (with_reducible exact ih0 _ _ _ _ _)
   | (with_reducible exact LeO.refl _)
   | (with_reducible exact LeO.none _)
   | (with_reducible refine LeO.ite ?_ ?_)
   | (with_reducible refine LeO.bind ?_ (fun _ => ?_))
   | exact ih0 _ _ _ _ _
   | exact LeO.none _
   | refine LeO.ite ?_ ?_
   | refine LeO.bind ?_ (fun _ => ?_)
theorem spec_l1All.mono : ∀ a0 a1 a2 k, LeO (spec_l1All.f k a0 a1 a2) (spec_l1All.f (k + 1) a0 a1 a2) := by
 intro a0 a1 a2 k
 have ih0 := spec_l1All.mono_l k
 unfold spec_l1All.f
 repeat' first
   | (with_reducible exact ih0 _ _ _ _ _)
   | (with_reducible exact LeO.refl _)
   | (with_reducible exact LeO.none _)
   | (with_reducible refine LeO.ite ?_ ?_)
   | (with_reducible refine LeO.bind ?_ (fun _ => ?_))
   | exact ih0 _ _ _ _ _
   | exact LeO.none _
   | refine LeO.ite ?_ ?_
   | refine LeO.bind ?_ (fun _ => ?_)
set_option maxHeartbeats 8000000 in
set_option maxRecDepth 100000 in
theorem spec_l1All.calls (k : Nat) (A0 : Option Addr) (c0 : Nat) (l0 : List Int) (a1 : Int) (a2 : Int) (r : Bool) (w : World) (hr0 : Kd.C (Kd.int .i64) w A0 l0.length l0) (hc0 : l0.length ≤ c0) (h : spec_l1All.f k l0 a1 a2 = some r) :
  Calls Try.prog 71 #[.slice A0 l0.length c0, .int .i64 a1, .int .i64 a2] w fun e w' => e = .returned (.bool r) ∧ Drawn0 w w' := by
 have HR0 := Ya hr0
 have HC0 := Ya hc0
 clear hr0 hc0
 have H : (spec_l1All.l0 k a1 a2 l0 (l0.length : Int) 0) = some r := h
 clear h
 have H' := Ya H
 clear H
 go_enter Try.func71, Try.ntmps71
 go_wp2
 go_loopg [11] k (fun kq v11 w' => ∃ (x11_1 : Int), v11 = .int .i64 x11_1 ∧ Aside0 (spec_l1All.l0 kq a1 a2 l0 (l0.length : Int) x11_1 = some r) ∧ Aside0 (kq ≤ k) ∧ Drawn0 w w')
 case atStart => exact ⟨(0), Q3, H', ⟨Nat.le_refl _⟩, Q8⟩
 case round =>
  clear H'
  try clear p2
  obtain ⟨x11_1, rfl, HA, HK1, ⟨m1, rfl⟩⟩ := hrel
  cases gk with
  | zero => exact absurd HA.out (by simp [spec_l1All.l0])
  | succ k1 =>
   have H := HA.out
   clear HA
   simp only [spec_l1All.l0] at H
   by_cases c4 : x11_1 < (l0.length : Int)
   ·rw [if_pos c4] at H
    have c4b0 := Z37 c4
    clear c4
    by_cases c5 : 0 ≤ x11_1
    ·rw [if_pos c5] at H
     have c5b0 := Z37 c5
     clear c5
     by_cases c6 : x11_1 < (l0.length : Int)
     ·rw [if_pos c6] at H
      have c6b0 := Z37 c6
      clear c6
      replace H := Z35.mp H
      obtain ⟨t444, A70, H⟩ := H
      replace H : (if t444 = true then (spec_l1All.l0 k1 a1 a2 l0 (l0.length : Int) (wrap64 (x11_1 + 1))) else (some false)) = some r := H
      have A7 := Ya A70
      clear A70
      by_cases c8 : t444 = true
      ·subst c8
       have H1 : (spec_l1All.l0 k1 a1 a2 l0 (l0.length : Int) (wrap64 (x11_1 + 1))) = some r := by rw [if_pos rfl] at H; exact H
       clear H
       have H := H1
       clear H1
       have H' := Ya H
       clear H
       have p443 : 0 ≤ (x11_1 : Int) := Z29 Q1
       have q443 : x11_1 < (l0.length : Int) := Z29 Q1
       obtain ⟨ad443, e443, hx443_0⟩ := Kd.at_int HR0.out x11_1 p443 q443
       cases e443
       replace p443 := eq_true p443
       replace q443 := eq_true q443
       go_wp2_with (first | ((with_reducible refine gate_callee (f := 42) rfl ?_); refine Yz 18 Try.func42 #[.int .i64 (rd l0 x11_1), .int .i64 a1, .int .i64 a2] ?_; (with_reducible refine (spec_l1In.calls (rd l0 x11_1) a1 a2 true _ A7.out).mono ?_); rintro e w' ⟨rfl, ⟨nd, rfl⟩⟩; refine ⟨_, rfl, ?_⟩))
       go_roundg k1
       case measure => have := HK1.out; omega
       case rel => exact ⟨(wrap64 (x11_1 + 1)), Q3, H', ⟨Q22⟩, Q8⟩
      ·replace c8 := Bool.eq_false_iff.mpr c8
       subst c8
       have H1 : (some false) = some r := by rw [if_neg (show ¬ (false = true) by decide)] at H; exact H
       clear H
       have H := H1
       clear H1
       obtain rfl := Option.some.inj H
       have p443 : 0 ≤ (x11_1 : Int) := Z29 Q1
       have q443 : x11_1 < (l0.length : Int) := Z29 Q1
       obtain ⟨ad443, e443, hx443_0⟩ := Kd.at_int HR0.out x11_1 p443 q443
       cases e443
       replace p443 := eq_true p443
       replace q443 := eq_true q443
       go_wp2_with (first | ((with_reducible refine gate_callee (f := 42) rfl ?_); refine Yz 18 Try.func42 #[.int .i64 (rd l0 x11_1), .int .i64 a1, .int .i64 a2] ?_; (with_reducible refine (spec_l1In.calls (rd l0 x11_1) a1 a2 false _ A7.out).mono ?_); rintro e w' ⟨rfl, ⟨nd, rfl⟩⟩; refine ⟨_, rfl, ?_⟩))
       go_ret
       exact ⟨Q16, Q8⟩
     ·rw [if_neg c6] at H
      exact absurd H (by simp)
    ·rw [if_neg c5] at H
     exact absurd H (by simp)
   ·rw [if_neg c4] at H
    have c4b0 := Z36 c4
    clear c4
    obtain rfl := Option.some.inj H
    go_wp2
    go_ret
    exact ⟨Q16, Q8⟩
mutual
def spec_FollowMoves.l0 : Nat → List (S45) → List Int → List (List Int) → List Int → Int → Option ((List (List Int)) × Bool)
 | 0, _, _, _, _, _ => none
 | k + 1, x1, x2, x9, x8, i => if i < (x2.length : Int) then (if 0 ≤ i then (if 0 ≤ (rd x2 i) then (if (rd x2 i) < (x1.length : Int) then ((spec_moApply.f k x8 ((rd_T45 x1 (rd x2 i)).f0) ((rd_T45 x1 (rd x2 i)).f1) ((rd_T45 x1 (rd x2 i)).f2)).bind fun t => (if x9.length < 5864062014805 then (spec_FollowMoves.l0 k x1 x2 (x9 ++ [t]) t (wrap64 (i + 1))) else (none))) else (none)) else (none)) else (none)) else (some (x9, true))
end
def spec_FollowMoves.f (k : Nat) (a0 : Int) (l1 : List (S45)) (l2 : List Int) : Option ((List (List Int)) × Bool) := (spec_moTask.f k a0 l1).bind fun t => (if t = true then (if (l2.length : Int) > 1099 then (some (([] : List (List Int)), false)) else ((spec_l1All.f k l2 0 (wrap64 ((l1.length : Int) - 1))).bind fun u => (if u = true then ((spec_raUpTo.f k a0).bind fun s => (spec_FollowMoves.l0 k l1 l2 [s] s 0)) else (some (([] : List (List Int)), false))))) else (some (([] : List (List Int)), false)))
theorem spec_FollowMoves.mono_l : ∀ k, (∀ y0 y1 y2 y3 y4, LeO (spec_FollowMoves.l0 k y0 y1 y2 y3 y4) (spec_FollowMoves.l0 (k + 1) y0 y1 y2 y3 y4))
 | 0 => fun _ _ _ _ _ r h => by simp [spec_FollowMoves.l0] at h
 | k + 1 => by
  have ih0 := spec_FollowMoves.mono_l k
  ·intro y0 y1 y2 y3 y4
   unfold spec_FollowMoves.l0
   repeat' first
   | (with_reducible exact ih0 _ _ _ _ _)
   | (with_reducible exact spec_l1All.mono _ _ _ _)
   | (with_reducible exact spec_moApply.mono _ _ _ _ _)
   | (with_reducible exact spec_moTask.mono _ _ _)
   | (with_reducible exact spec_raUpTo.mono _ _)
   | (with_reducible exact LeO.refl _)
   | (with_reducible exact LeO.none _)
   | (with_reducible refine LeO.ite ?_ ?_)
   | (with_reducible refine LeO.bind ?_ (fun _ => ?_))
   | exact ih0 _ _ _ _ _
   | exact spec_l1All.mono _ _ _ _
   | exact spec_moApply.mono _ _ _ _ _
   | exact spec_moTask.mono _ _ _
   | exact spec_raUpTo.mono _ _
   | exact LeO.none _
   | refine LeO.ite ?_ ?_
   | refine LeO.bind ?_ (fun _ => ?_)
theorem spec_FollowMoves.mono : ∀ a0 a1 a2 k, LeO (spec_FollowMoves.f k a0 a1 a2) (spec_FollowMoves.f (k + 1) a0 a1 a2) := by
 intro a0 a1 a2 k
 have ih0 := spec_FollowMoves.mono_l k
 unfold spec_FollowMoves.f
 repeat' first
   | (with_reducible exact ih0 _ _ _ _ _)
   | (with_reducible exact spec_l1All.mono _ _ _ _)
   | (with_reducible exact spec_moApply.mono _ _ _ _ _)
   | (with_reducible exact spec_moTask.mono _ _ _)
   | (with_reducible exact spec_raUpTo.mono _ _)
   | (with_reducible exact LeO.refl _)
   | (with_reducible exact LeO.none _)
   | (with_reducible refine LeO.ite ?_ ?_)
   | (with_reducible refine LeO.bind ?_ (fun _ => ?_))
   | exact ih0 _ _ _ _ _
   | exact spec_l1All.mono _ _ _ _
   | exact spec_moApply.mono _ _ _ _ _
   | exact spec_moTask.mono _ _ _
   | exact spec_raUpTo.mono _ _
   | exact LeO.none _
   | refine LeO.ite ?_ ?_
   | refine LeO.bind ?_ (fun _ => ?_)
set_option maxHeartbeats 8000000 in
set_option maxRecDepth 100000 in
theorem spec_FollowMoves.calls (k : Nat) (a0 : Int) (A1 : Option Addr) (c1 : Nat) (l1 : List (S45)) (A2 : Option Addr) (c2 : Nat) (l2 : List Int) (r1 : List (List Int)) (r2 : Bool) (w : World) (hr1 : Kd.C k45 w A1 l1.length l1) (hc1 : l1.length ≤ c1) (hr2 : Kd.C (Kd.int .i64) w A2 l2.length l2) (hc2 : l2.length ≤ c2) (h : spec_FollowMoves.f k a0 l1 l2 = some (r1, r2)) :
  Calls Try.prog 30 #[.int .i64 a0, .slice A1 l1.length c1, .slice A2 l2.length c2] w fun e w' => ∃ v0_ : Value, e = .returned (.tuple #[v0_, .bool r2]) ∧ Kd.S (Kd.slice 3 (Kd.int .i64)) 24 w' w.heap.size (fun _ => True) v0_ r1 ∧ Below w.heap.size w w' := by
 have hu := Try.underlying45
 have HR1 := Ya hr1
 have HC1 := Ya hc1
 have HR2 := Ya hr2
 have HC2 := Ya hc2
 clear hr1 hc1 hr2 hc2
 unfold spec_FollowMoves.f at h
 obtain ⟨t1, h1, H⟩ := Z35.mp h
 have T1 := Ya h1
 clear h h1
 cases t1
 ·simp only [Bool.false_eq_true, if_false, Option.some.injEq, Prod.mk.injEq] at H
  obtain ⟨rfl, rfl⟩ := H
  go_enter Try.func30, Try.ntmps30
  go_wp2_with fail
  refine (spec_moTask.calls k a0 A1 c1 l1 false _ HR1.out HC1.out T1.out).mono ?_
  rintro e w1 ⟨rfl, hb1⟩
  have HB1 := Ya hb1
  clear hb1
  have HBx := HB1
  go_wp2
  go_ret2
  exact ⟨_, rfl, Kd.S_nil _ _ _ _ _, HBx.out⟩
 ·simp only [if_true] at H
  by_cases cl : (l2.length : Int) > 1099
  ·rw [if_pos cl] at H
   have cb0 : decide (1099 < (l2.length : Int)) = true := Z37 cl
   have cb1 : decide (1099 < l2.length) = true := Z37 (by omega)
   clear cl
   simp only [Option.some.injEq, Prod.mk.injEq] at H
   obtain ⟨rfl, rfl⟩ := H
   go_enter Try.func30, Try.ntmps30
   go_wp2_with fail
   refine (spec_moTask.calls k a0 A1 c1 l1 true _ HR1.out HC1.out T1.out).mono ?_
   rintro e w1 ⟨rfl, hb1⟩
   have HB1 := Ya hb1
   clear hb1
   have HBx := HB1
   go_wp2
   go_ret2
   exact ⟨_, rfl, Kd.S_nil _ _ _ _ _, HBx.out⟩
  ·rw [if_neg cl] at H
   have cb0 : decide (1099 < (l2.length : Int)) = false := Z36 cl
   have cb1 : decide (1099 < l2.length) = false := Z36 (by omega)
   clear cl
   obtain ⟨t2, h2, H⟩ := Z35.mp H
   have T2 := Ya h2
   clear h2
   cases t2
   ·simp only [Bool.false_eq_true, if_false, Option.some.injEq, Prod.mk.injEq] at H
    obtain ⟨rfl, rfl⟩ := H
    go_enter Try.func30, Try.ntmps30
    go_wp2_with fail
    refine (spec_moTask.calls k a0 A1 c1 l1 true _ HR1.out HC1.out T1.out).mono ?_
    rintro e w1 ⟨rfl, hb1⟩
    have HB1 := Ya hb1
    clear hb1
    go_wp2_with fail
    refine (spec_l1All.calls k A2 c2 l2 0 _ false _ (Z21 HR2.out HB1.out) HC2.out T2.out).mono ?_
    rintro e w2 ⟨rfl, ⟨n2, rfl⟩⟩
    have HBx := Ya (Z3 HB1.out n2)
    clear HB1
    go_wp2
    go_ret2
    exact ⟨_, rfl, Kd.S_nil _ _ _ _ _, HBx.out⟩
   ·simp only [if_true] at H
    obtain ⟨t3, h3, H⟩ := Z35.mp H
    have T3 := Ya h3
    have H' := Ya H
    clear h3 H
    go_enter Try.func30, Try.ntmps30
    go_wp2_with fail
    refine (spec_moTask.calls k a0 A1 c1 l1 true _ HR1.out HC1.out T1.out).mono ?_
    rintro e w1 ⟨rfl, hb1⟩
    have HB1 := Ya hb1
    clear hb1
    go_wp2_with fail
    refine (spec_l1All.calls k A2 c2 l2 0 _ true _ (Z21 HR2.out HB1.out) HC2.out T2.out).mono ?_
    rintro e w2 ⟨rfl, ⟨n2, rfl⟩⟩
    have HB2 := Ya (Z3 HB1.out n2)
    clear HB1
    go_wp2_with fail
    refine (spec_raUpTo.calls k a0 t3 _ T3.out).mono ?_
    rintro e w3 ⟨v3, rfl, ho3, hb3⟩
    obtain ⟨Af, cf, rfl⟩ := Z17 ho3
    have HF := Ya (Kd.R_lower ho3 HB2.out.size)
    have HB := Ya (HB2.out.trans (hb3.mono HB2.out.size))
    clear ho3 hb3 HB2
    go_wp2_with (first | ((with_reducible refine gate_dst (N := 32) rfl ?_); refine Kd.R_lit (Kd.tag (fun _ => 0) (Kd.slice 3 (Kd.int .i64))) (w0 := w) w.heap.size 24 ?hg (N := 32) ?hd (xs := [(t3, 0)]) (inner := [.slice Af t3.length cf]) (ok := fun _ => True) (okp := fun k_ => some k_ = (.slice Af t3.length cf : Value).ownBlock) ?hr ?hp (fun _ hk => trivial) trivial HB.out HB.out.size (by simp) ?_; (case hd => rfl); (case hg => rfl); (case hr => first | (go_simp; done) | (go_simp; rfl)); (case hp => exact (Reps.one (show Kd.M (Kd.tag (fun _ => 0) (Kd.slice 3 (Kd.int .i64))) _ _ _ (t3, 0) [.slice Af t3.length cf] from ⟨_, rfl, Z12 (Kd.R_tight rfl HF.out) (fun _ hk => ⟨hk, rfl⟩)⟩) (Reps.none _ _))); intro v4 w4 ho4 hb4 hg4 hnew4; have HF4 := Ya (Kd.R_grown HF.out hg4 (fun _ _ e => by cases e)); have HO4 := Ya (show Kd.S (Kd.slice 3 (Kd.int .i64)) 24 w4 w.heap.size (fun _ => True) v4 [t3] from ⟨_, ho4⟩); have HB4 := Ya hb4; clear HF HB ho4 hb4 hg4 hnew4))
    go_loopg [8, 9, 35] k (fun kq v8 v9 v35 w' => ∃ (x8 : List Int) (x9 : List (List Int)) (i : Int), v35 = .int .i64 i ∧ Aside0 (spec_FollowMoves.l0 kq l1 l2 x9 x8 i = some (r1, r2)) ∧ Aside0 (kq ≤ k) ∧ Aside0 (Kd.S (Kd.slice 3 (Kd.int .i64)) 24 w' w.heap.size (fun _ => True) v9 x9) ∧ Aside0 (Kd.R (Kd.int .i64) 3 w' w.heap.size (fun _ => True) v8 x8) ∧ Aside0 (Below w.heap.size w w'))
    case atStart => exact ⟨t3, [t3], 0, rfl, H', ⟨Nat.le_refl _⟩, HO4, HF4, HB4⟩
    case round =>
     clear H' HO4 HF4 HB4
     obtain ⟨x8, x9, i, rfl, HA, HK1, HO, HL, HB⟩ := hrel
     cases gk with
     | zero => exact absurd HA.out (by simp [spec_FollowMoves.l0])
     | succ k1 =>
      have H := HA.out
      clear HA
      simp only [spec_FollowMoves.l0] at H
      obtain ⟨Al, cl, el⟩ := Z17 HL.out
      subst el
      by_cases c : i < (l2.length : Int)
      ·rw [if_pos c] at H
       have cb : decide (i < (l2.length : Int)) = true := Z37 c
       by_cases p : 0 ≤ i
       ·rw [if_pos p] at H
        by_cases p1 : 0 ≤ rd l2 i
        ·rw [if_pos p1] at H
         by_cases p2 : rd l2 i < (l1.length : Int)
         ·rw [if_pos p2] at H
          obtain ⟨t, ht, H⟩ := Z35.mp H
          have T4 := Ya ht
          clear ht
          by_cases c8 : x9.length < 5864062014805
          ·rw [if_pos c8] at H
           have LM := Ya c8
           have H' := Ya H
           clear c8 H
           obtain ⟨ad2, ead2, hx2⟩ := Kd.at_int HR2.out i p c
           cases ead2
           replace hx2 := (HB.out.cell (World.block_lt_of_cell? w _ hx2)).trans hx2
           obtain ⟨ad1, ead1, hy0, hy1, hy2⟩ := at_T45 HR1.out (rd l2 i) p1 p2
           cases ead1
           replace hy0 := (HB.out.cell (World.block_lt_of_cell? w _ hy0)).trans hy0
           replace hy1 := (HB.out.cell (World.block_lt_of_cell? w _ hy1)).trans hy1
           replace hy2 := (HB.out.cell (World.block_lt_of_cell? w _ hy2)).trans hy2
           have pp := eq_true p
           have pc := eq_true c
           have pp1 := eq_true p1
           have pp2 := eq_true p2
           clear p c p1 p2
           go_wp2_with fail
           refine (spec_moApply.calls k1 Al cl x8 _ _ _ t _ (Kd.R_reads' HL.out).2.2 (Kd.R_reads' HL.out).2.1 T4.out).mono ?_
           rintro e w6 ⟨v6, rfl, ho6, hb6⟩
           obtain ⟨An, cn, rfl⟩ := Z17 ho6
           have HO6 := Ya (Kd.S_elder' HO.out (Kd.R_base ho6) hb6)
           have HL6 := Ya (Kd.R_lower ho6 HB.out.size)
           have HB6 := Ya (HB.out.trans (hb6.mono HB.out.size))
           clear HO HL HB ho6 hb6
           go_wp2_with (first | ((with_reducible refine gate_builtin (b := .append) (xs := #[.tmp 45, .tmp 47]) rfl ?_); at_builtin; refine Kd.S_append (Kd.slice 3 (Kd.int .i64)) (w0 := w) w.heap.size rfl (.tmp 45) (.tmp 47) 50 24 (.slice none 0 0) 24 rfl Try.underlying50 info24 rfl (by decide) (by omega) u9 x9 t [.slice An t.length cn] (fun _ => True) (fun k_ => some k_ = (.slice An t.length cn : Value).ownBlock) rfl rfl ?aP (fun k_ hk_ => ⟨trivial, ((Kd.R_apart' HL6.out (Kd.S_typed HO6.out) (by decide)).1 k_ hk_.symm).2⟩) ?aF ?aO ?aB ?aS ?aL ?_; (case aP => exact Kd.M_row (Kd.R_tight rfl HL6.out)); (case aB => exact HB6.out); (case aF => exact (fun _ _ => trivial)); (case aO => exact (Kd.S_mono HO6.out (fun k_ hk => ⟨trivial, fun e_ => hk.2 e_⟩))); (case aS => exact HB6.out.size); (case aL => have := LM.out; omega); intro v9n w9 ho9 hb9 hg9 hat9; have HO9 := Ya ho9; have HL9 := Ya (Z12 (Kd.R_grown (Kd.R_apart' HL6.out (Kd.S_typed HO6.out) (by decide)) hg9 (fun k_ hk => hk.2)) (fun _ _ => trivial)); have HB9 := Ya hb9; clear HL6 HO6 HB6 ho9 hb9 hg9 hat9))
           go_roundg k1
           case measure => have := HK1.out; omega
           case rel => exact ⟨t, x9 ++ [t], wrap64 (i + 1), rfl, H', ⟨Q22⟩, HO9, HL9, HB9⟩
          ·rw [if_neg c8] at H; exact absurd H (by simp)
         ·rw [if_neg p2] at H; exact absurd H (by simp)
        ·rw [if_neg p1] at H; exact absurd H (by simp)
       ·rw [if_neg p] at H; exact absurd H (by simp)
      ·rw [if_neg c] at H
       have cb : decide (i < (l2.length : Int)) = false := Z36 c
       clear c
       simp only [Option.some.injEq, Prod.mk.injEq] at H
       obtain ⟨rfl, rfl⟩ := H
       go_wp2
       go_ret2
       exact ⟨_, rfl, HO.out, HB.out⟩
def laws_uLists.l0 : Nat → List (List Int) → List (List Int) → Int → Int → Option (Bool)
 | 0, _, _, _, _ => none
 | k + 1, x0, x1, x12, x13 => if x13 < x12 then (if 0 ≤ x13 then (if x13 < (x0.length : Int) then (if x13 < (x1.length : Int) then ((laws_uSame.f k (rd_L2 x0 x13) (rd_L2 x1 x13)).bind fun t447 => (if t447 = true then (laws_uLists.l0 k x0 x1 x12 (wrap64 (x13 + 1))) else (some false))) else (none)) else (none)) else (none)) else (some true)
def laws_uLists.f (k : Nat) (l0 : List (List Int)) (l1 : List (List Int)) : Option (Bool) := if (l0.length : Int) = (l1.length : Int) then (laws_uLists.l0 k l0 l1 (l0.length : Int) 0) else (some false)
theorem laws_uLists.mono_l : ∀ k, (∀ y0 y1 y2 y3, LeO (laws_uLists.l0 k y0 y1 y2 y3) (laws_uLists.l0 (k + 1) y0 y1 y2 y3))
 | 0 => fun _ _ _ _ r h => by simp [laws_uLists.l0] at h
 | k + 1 => by
  have ih0 := laws_uLists.mono_l k
  ·intro y0 y1 y2 y3
   unfold laws_uLists.l0
   repeat' first
   | (with_reducible exact ih0 _ _ _ _)
   | (with_reducible exact laws_uSame.mono _ _ _)
   | (with_reducible exact LeO.refl _)
   | (with_reducible exact LeO.none _)
   | (with_reducible refine LeO.ite ?_ ?_)
   | (with_reducible refine LeO.bind ?_ (fun _ => ?_))
   | exact ih0 _ _ _ _
   | exact laws_uSame.mono _ _ _
   | exact LeO.none _
   | refine LeO.ite ?_ ?_
   | refine LeO.bind ?_ (fun _ => ?_)
theorem laws_uLists.mono : ∀ a0 a1 k, LeO (laws_uLists.f k a0 a1) (laws_uLists.f (k + 1) a0 a1) := by
 intro a0 a1 k
 have ih0 := laws_uLists.mono_l k
 unfold laws_uLists.f
 repeat' first
   | (with_reducible exact ih0 _ _ _ _)
   | (with_reducible exact laws_uSame.mono _ _ _)
   | (with_reducible exact LeO.refl _)
   | (with_reducible exact LeO.none _)
   | (with_reducible refine LeO.ite ?_ ?_)
   | (with_reducible refine LeO.bind ?_ (fun _ => ?_))
   | exact ih0 _ _ _ _
   | exact laws_uSame.mono _ _ _
   | exact LeO.none _
   | refine LeO.ite ?_ ?_
   | refine LeO.bind ?_ (fun _ => ?_)
set_option maxHeartbeats 8000000 in
set_option maxRecDepth 100000 in
theorem laws_uLists.calls (k : Nat) (A0 : Option Addr) (c0 : Nat) (l0 : List (List Int)) (A1 : Option Addr) (c1 : Nat) (l1 : List (List Int)) (r : Bool) (w : World) (hr0 : Kd.C (Kd.slice 3 (Kd.int .i64)) w A0 l0.length l0) (hc0 : l0.length ≤ c0) (hr1 : Kd.C (Kd.slice 3 (Kd.int .i64)) w A1 l1.length l1) (hc1 : l1.length ≤ c1) (h : laws_uLists.f k l0 l1 = some r) :
  Calls Try.prog 31 #[.slice A0 l0.length c0, .slice A1 l1.length c1] w fun e w' => e = .returned (.bool r) ∧ Drawn0 w w' := by
 have HR0 := Ya hr0
 have HC0 := Ya hc0
 clear hr0 hc0
 have HR1 := Ya hr1
 have HC1 := Ya hc1
 clear hr1 hc1
 have H : (if (l0.length : Int) = (l1.length : Int) then (laws_uLists.l0 k l0 l1 (l0.length : Int) 0) else (some false)) = some r := h
 clear h
 by_cases c3 : (l0.length : Int) = (l1.length : Int)
 ·rw [if_pos c3] at H
  have c3b0 : ((l0.length : Int) == (l1.length : Int)) = true := beq_iff_eq.mpr c3
  have c3b1 : ((l0.length : Int) != (l1.length : Int)) = false := bne_eq_false_iff_eq.mpr c3
  have c3b2 : (l0.length == l1.length) = true := by first | simpa using c3 | (simp at c3 ⊢; omega)
  clear c3
  have H' := Ya H
  clear H
  go_enter Try.func31, Try.ntmps31
  go_wp2
  repeat (go_quiet (fail); try go_wp2)
  go_loopg [13] k (fun kq v13 w' => ∃ (x13_1 : Int), v13 = .int .i64 x13_1 ∧ Aside0 (laws_uLists.l0 kq l0 l1 (l0.length : Int) x13_1 = some r) ∧ Aside0 (kq ≤ k) ∧ Drawn0 w w')
  case atStart => exact ⟨(0), Q3, H', ⟨Nat.le_refl _⟩, Q8⟩
  case round =>
   clear H'
   try clear c1
   try clear p2
   try clear c3
   try clear c3b0
   try clear c3b1
   try clear c3b2
   obtain ⟨x13_1, rfl, HA, HK1, ⟨m1, rfl⟩⟩ := hrel
   cases gk with
   | zero => exact absurd HA.out (by simp [laws_uLists.l0])
   | succ k1 =>
    have H := HA.out
    clear HA
    simp only [laws_uLists.l0] at H
    by_cases c4 : x13_1 < (l0.length : Int)
    ·rw [if_pos c4] at H
     have c4b0 := Z37 c4
     clear c4
     by_cases c5 : 0 ≤ x13_1
     ·rw [if_pos c5] at H
      have c5b0 := Z37 c5
      clear c5
      by_cases c6 : x13_1 < (l0.length : Int)
      ·rw [if_pos c6] at H
       have c6b0 := Z37 c6
       clear c6
       by_cases c7 : x13_1 < (l1.length : Int)
       ·rw [if_pos c7] at H
        have c7b0 := Z37 c7
        clear c7
        replace H := Z35.mp H
        obtain ⟨t447, A80, H⟩ := H
        replace H : (if t447 = true then (laws_uLists.l0 k1 l0 l1 (l0.length : Int) (wrap64 (x13_1 + 1))) else (some false)) = some r := H
        have A8 := Ya A80
        clear A80
        by_cases c9 : t447 = true
        ·subst c9
         have H1 : (laws_uLists.l0 k1 l0 l1 (l0.length : Int) (wrap64 (x13_1 + 1))) = some r := by rw [if_pos rfl] at H; exact H
         clear H
         have H := H1
         clear H1
         have H' := Ya H
         clear H
         have p445 : 0 ≤ (x13_1 : Int) := Z29 Q1
         have q445 : x13_1 < (l0.length : Int) := Z29 Q1
         obtain ⟨ad445, A445_0, c445_0, e445, hx445_0, hl445_0, hi445_0⟩ := at_L2 HR0.out x13_1 p445 q445
         cases e445
         have HR445_0 := Ya hi445_0
         have HC445_0 := Ya hl445_0
         clear hi445_0 hl445_0
         replace p445 := eq_true p445
         replace q445 := eq_true q445
         have p446 : 0 ≤ (x13_1 : Int) := Z29 Q1
         have q446 : x13_1 < (l1.length : Int) := Z29 Q1
         obtain ⟨ad446, A446_0, c446_0, e446, hx446_0, hl446_0, hi446_0⟩ := at_L2 HR1.out x13_1 p446 q446
         cases e446
         have HR446_0 := Ya hi446_0
         have HC446_0 := Ya hl446_0
         clear hi446_0 hl446_0
         replace p446 := eq_true p446
         replace q446 := eq_true q446
         go_wp2_with (first | (go_at_call 22; (with_reducible refine (laws_uSame.calls k1 _ _ (rd_L2 l0 x13_1) _ _ (rd_L2 l1 x13_1) true _ (Yc HR445_0.out) HC445_0.out (Yc HR446_0.out) HC446_0.out A8.out).mono ?_); rintro e w' ⟨rfl, ⟨nd, rfl⟩⟩; (try first | exact ⟨rfl, _, World.drewN_drewN _ _ _⟩ | exact ⟨rfl, _, Eq.trans (World.drewN_drewN _ _ _) (congrArg (World.drewN _) (Nat.add_assoc _ _ _))⟩)))
         repeat (go_quiet (first | (go_at_call 22; (with_reducible refine (laws_uSame.calls k1 _ _ (rd_L2 l0 x13_1) _ _ (rd_L2 l1 x13_1) true _ (Yc HR445_0.out) HC445_0.out (Yc HR446_0.out) HC446_0.out A8.out).mono ?_); rintro e w' ⟨rfl, ⟨nd, rfl⟩⟩; (try first | exact ⟨rfl, _, World.drewN_drewN _ _ _⟩ | exact ⟨rfl, _, Eq.trans (World.drewN_drewN _ _ _) (congrArg (World.drewN _) (Nat.add_assoc _ _ _))⟩))); try go_wp2_with (first | (go_at_call 22; (with_reducible refine (laws_uSame.calls k1 _ _ (rd_L2 l0 x13_1) _ _ (rd_L2 l1 x13_1) true _ (Yc HR445_0.out) HC445_0.out (Yc HR446_0.out) HC446_0.out A8.out).mono ?_); rintro e w' ⟨rfl, ⟨nd, rfl⟩⟩; (try first | exact ⟨rfl, _, World.drewN_drewN _ _ _⟩ | exact ⟨rfl, _, Eq.trans (World.drewN_drewN _ _ _) (congrArg (World.drewN _) (Nat.add_assoc _ _ _))⟩))))
         go_roundg k1
         case measure => have := HK1.out; omega
         case rel => exact ⟨(wrap64 (x13_1 + 1)), Q3, H', ⟨Q22⟩, Q8⟩
        ·replace c9 := Bool.eq_false_iff.mpr c9
         subst c9
         have H1 : (some false) = some r := by rw [if_neg (show ¬ (false = true) by decide)] at H; exact H
         clear H
         have H := H1
         clear H1
         obtain rfl := Option.some.inj H
         have p445 : 0 ≤ (x13_1 : Int) := Z29 Q1
         have q445 : x13_1 < (l0.length : Int) := Z29 Q1
         obtain ⟨ad445, A445_0, c445_0, e445, hx445_0, hl445_0, hi445_0⟩ := at_L2 HR0.out x13_1 p445 q445
         cases e445
         have HR445_0 := Ya hi445_0
         have HC445_0 := Ya hl445_0
         clear hi445_0 hl445_0
         replace p445 := eq_true p445
         replace q445 := eq_true q445
         have p446 : 0 ≤ (x13_1 : Int) := Z29 Q1
         have q446 : x13_1 < (l1.length : Int) := Z29 Q1
         obtain ⟨ad446, A446_0, c446_0, e446, hx446_0, hl446_0, hi446_0⟩ := at_L2 HR1.out x13_1 p446 q446
         cases e446
         have HR446_0 := Ya hi446_0
         have HC446_0 := Ya hl446_0
         clear hi446_0 hl446_0
         replace p446 := eq_true p446
         replace q446 := eq_true q446
         go_wp2_with (first | (go_at_call 22; (with_reducible refine (laws_uSame.calls k1 _ _ (rd_L2 l0 x13_1) _ _ (rd_L2 l1 x13_1) false _ (Yc HR445_0.out) HC445_0.out (Yc HR446_0.out) HC446_0.out A8.out).mono ?_); rintro e w' ⟨rfl, ⟨nd, rfl⟩⟩; (try first | exact ⟨rfl, _, World.drewN_drewN _ _ _⟩ | exact ⟨rfl, _, Eq.trans (World.drewN_drewN _ _ _) (congrArg (World.drewN _) (Nat.add_assoc _ _ _))⟩)))
         repeat (go_quiet (first | (go_at_call 22; (with_reducible refine (laws_uSame.calls k1 _ _ (rd_L2 l0 x13_1) _ _ (rd_L2 l1 x13_1) false _ (Yc HR445_0.out) HC445_0.out (Yc HR446_0.out) HC446_0.out A8.out).mono ?_); rintro e w' ⟨rfl, ⟨nd, rfl⟩⟩; (try first | exact ⟨rfl, _, World.drewN_drewN _ _ _⟩ | exact ⟨rfl, _, Eq.trans (World.drewN_drewN _ _ _) (congrArg (World.drewN _) (Nat.add_assoc _ _ _))⟩))); try go_wp2_with (first | (go_at_call 22; (with_reducible refine (laws_uSame.calls k1 _ _ (rd_L2 l0 x13_1) _ _ (rd_L2 l1 x13_1) false _ (Yc HR445_0.out) HC445_0.out (Yc HR446_0.out) HC446_0.out A8.out).mono ?_); rintro e w' ⟨rfl, ⟨nd, rfl⟩⟩; (try first | exact ⟨rfl, _, World.drewN_drewN _ _ _⟩ | exact ⟨rfl, _, Eq.trans (World.drewN_drewN _ _ _) (congrArg (World.drewN _) (Nat.add_assoc _ _ _))⟩))))
         go_ret
         exact ⟨Q16, Q8⟩
       ·rw [if_neg c7] at H
        exact absurd H (by simp)
      ·rw [if_neg c6] at H
       exact absurd H (by simp)
     ·rw [if_neg c5] at H
      exact absurd H (by simp)
    ·rw [if_neg c4] at H
     have c4b0 := Z36 c4
     clear c4
     obtain rfl := Option.some.inj H
     go_wp2
     repeat (go_quiet (fail); try go_wp2)
     go_ret
     exact ⟨Q16, Q8⟩
 ·rw [if_neg c3] at H
  have c3b0 : ((l0.length : Int) == (l1.length : Int)) = false := beq_eq_false_iff_ne.mpr c3
  have c3b1 : ((l0.length : Int) != (l1.length : Int)) = true := bne_iff_ne.mpr c3
  have c3b2 : (l0.length == l1.length) = false := by first | simpa using c3 | (simp at c3 ⊢; omega)
  obtain rfl := Option.some.inj H
  go_enter Try.func31, Try.ntmps31
  go_wp2
  repeat (go_quiet (fail); try go_wp2)
  go_ret
  exact ⟨Q16, Q8⟩
end Go.Proofs.Ytllhnnjkonghlaa.MFnReached
