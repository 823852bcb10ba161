/- Functions of the program as Lean functions, each with the proof that its call comes to just that: laid for this claim by this session's own program. -/
import Derived.Test.YtcplfdfmebibpaaMFnExactMovesOfx0
import Derived.Test.YtcplfdfmebibpaaMFnExactMovesOfx6
import Derived.Test.YtcplfdfmebibpaaMFnExactMovesOfx7
namespace Go.Proofs.Ytcplfdfmebibpaa.MFnExactMovesOf
open Go.RowKit Go.Proofs.YtcplfdfmebibpaaW.PrintWords Go.Proofs.YtcplfdfmebibpaaW.PrintLast Go.Proofs.YtcplfdfmebibpaaW.PrintMore
attribute [local go_sem] max2_int min2_int max_two min_two max_three min_three max_four min_four   -- for this text's walks alone
set_option linter.unusedVariables false
set_option linter.unusedSimpArgs false

/-! ### impl_steps: function 92 -/
/-- The first move at which a question is answered with yes, or -1. -/
def impl_steps.idx (g : Nat → S55 → Option Bool) : Nat → List (S55) → Int → Option Int
  | 0, _, _ => none
  | k + 1, L, i => if i < (L.length : Int) then (if 0 ≤ i then ((g k (rd_T55 L i)).bind fun t => (if t = true then (some i) else (impl_steps.idx g k L (wrap64 (i + 1))))) else (none)) else (some (-1))
theorem impl_steps.idx_mono {g : Nat → S55 → Option Bool} (hg : ∀ k x, LeO (g k x) (g (k + 1) x)) : ∀ k L i, LeO (impl_steps.idx g k L i) (impl_steps.idx g (k + 1) L i)
  | 0, _, _ => fun r h => by simp [impl_steps.idx] at h
  | k + 1, L, i => by
    unfold impl_steps.idx
    repeat' first
      | (with_reducible exact impl_steps.idx_mono hg k _ _)
      | (with_reducible exact hg _ _)
      | (with_reducible exact LeO.refl _)
      | (with_reducible exact LeO.none _)
      | (with_reducible refine LeO.ite ?_ ?_)
      | (with_reducible refine LeO.bind ?_ (fun _ => ?_))
set_option maxHeartbeats 8000000 in
set_option maxRecDepth 100000 in
theorem impl_steps.index (g : Nat → S55 → Option Bool) (g1 g2 : Nat) (k : Nat) (A1 : Option Addr) (c1 : Nat) (L : List (S55)) (r : Int) (w : World) (hL : Kd.C k55 w A1 L.length L) (hcL : L.length ≤ c1)
    (hlam : ∀ (kq : Nat) (x : S55) (t : Bool) (w' : World), Below w.heap.size w w' → g kq x = some t → Calls Try.prog 112 #[.agg #[.int .i64 x.f0, .int .i64 x.f1, .int .i64 x.f2], .pointer (some ⟨g1, 0, none⟩), .pointer (some ⟨g2, 0, none⟩)] w' fun e w'' => e = .returned (.bool t) ∧ Below w.heap.size w w'')
    (h : impl_steps.idx g k L 0 = some r) :
    Calls Try.prog 76 #[.slice A1 L.length c1, .func (Fn.func 112) #[] #[.pointer (some ⟨g1, 0, none⟩), .pointer (some ⟨g2, 0, none⟩)]] w fun e w' => e = .returned (.int .i64 r) ∧ Below w.heap.size w w' := by
  have hu := Try.underlying55
  have HL := Aside0.mk hL
  have HCL := Aside0.mk hcL
  have HM := Aside0.mk hlam
  have H' := Aside0.mk h
  have HB := Aside0.mk (Below.refl w.heap.size w)
  clear hL hcL hlam h
  go_enter Try.func76, Try.ntmps76
  go_wp2
  go_loopg [5, 8] k (fun kq v5 v8 w' => ∃ (i : Int), v8 = .int .i64 i ∧ Aside0 (Below w.heap.size w w') ∧ Aside0 (impl_steps.idx g kq L i = some r) ∧ Aside0 (kq ≤ k))
  case atStart => exact ⟨0, rfl, HB, H', ⟨Nat.le_refl _⟩⟩
  case round =>
    clear H' HB
    obtain ⟨i, rfl, HB, HA, HK1⟩ := hrel
    cases gk with
    | zero => exact absurd HA.out (by simp [impl_steps.idx])
    | succ k1 =>
      have H := HA.out
      clear HA
      simp only [impl_steps.idx] at H
      by_cases c3 : i < (L.length : Int)
      · rw [if_pos c3] at H
        have c3b0 : decide (i < (L.length : Int)) = true := decide_eq_true c3
        by_cases c4 : 0 ≤ i
        · rw [if_pos c4] at H
          obtain ⟨t, A30, H⟩ := Option.bind_eq_some_iff.mp H
          have A3 := Aside0.mk A30
          clear A30
          obtain ⟨ad, ead, hx0, hx1, hx2⟩ := at_T55 HL.out i c4 c3
          cases ead
          replace hx0 := (HB.out.cell (World.block_lt_of_cell? w _ hx0)).trans hx0
          replace hx1 := (HB.out.cell (World.block_lt_of_cell? w _ hx1)).trans hx1
          replace hx2 := (HB.out.cell (World.block_lt_of_cell? w _ hx2)).trans hx2
          have c4b : (0 ≤ i) = True := eq_true c4
          have c3b : (i < (L.length : Int)) = True := eq_true c3
          clear c3 c4
          cases t
          · simp only [Bool.false_eq_true, if_false] at H
            have H' := Aside0.mk H
            clear H
            go_wp2_with fail
            refine (HM.out k1 (rd_T55 L i) false _ HB.out A3.out).mono ?_
            rintro e w2 ⟨rfl, hb2⟩
            have HB2 := Aside0.mk hb2
            clear hb2
            go_wp2
            go_roundg k1
            case measure => have := HK1.out; omega
            case rel => exact ⟨wrap64 (i + 1), rfl, HB2, H', ⟨by have := HK1.out; omega⟩⟩
          · simp only [if_true] at H
            obtain rfl := Option.some.inj H
            clear H
            go_wp2_with fail
            refine (HM.out k1 (rd_T55 L i) true _ HB.out A3.out).mono ?_
            rintro e w2 ⟨rfl, hb2⟩
            have HB2 := Aside0.mk hb2
            clear hb2
            go_wp2
            go_ret
            exact ⟨rfl, HB2.out⟩
        · rw [if_neg c4] at H
          exact absurd H (by simp)
      · rw [if_neg c3] at H
        obtain rfl := Option.some.inj H
        have c3b0 : decide (i < (L.length : Int)) = false := decide_eq_false c3
        clear c3 H
        go_wp2
        go_ret
        exact ⟨rfl, HB.out⟩
/-- Does a move lead from a list to the next one? -/
def impl_steps.g (L : List (List Int)) (i : Int) (k : Nat) (x : S55) : Option Bool := if 1 ≤ i then (if i < (L.length : Int) then (if i < 1000000000 then ((impl_moved.f k (rd_L3 L (i - 1)) x.f0 x.f1 x.f2).bind fun u => slices_Equal_int_int.f k u (rd_L3 L i)) else none) else none) else none
theorem impl_steps.g_mono (L : List (List Int)) (i : Int) : ∀ k x, LeO (impl_steps.g L i k x) (impl_steps.g L i (k + 1) x) := by
  intro k x
  unfold impl_steps.g
  exact LeO.ite (LeO.ite (LeO.ite (LeO.bind (impl_moved.mono _ _ _ _ _) (fun _ => slices_Equal_int_int.mono _ _ _)) (LeO.none _)) (LeO.none _)) (LeO.none _)
def impl_steps.l0 : Nat → List (List Int) → List (S55) → List Int → Int → Option (List Int × Bool)
  | 0, _, _, _, _ => none
  | k + 1, L, M, out, i => if i < (L.length : Int) then ((impl_steps.idx (impl_steps.g L i) k M 0).bind fun r => (if r < 0 then (some (([] : List Int), false)) else (if out.length < 17592186044416 then (impl_steps.l0 k L M (out ++ [r]) (wrap64 (i + 1))) else (none)))) else (some (out, true))
def impl_steps.f (k : Nat) (l0 : List (List Int)) (l1 : List (S55)) : Option (List Int × Bool) := impl_steps.l0 k l0 l1 [] 1
theorem impl_steps.mono_l : ∀ k L M out i, LeO (impl_steps.l0 k L M out i) (impl_steps.l0 (k + 1) L M out i)
  | 0, _, _, _, _ => fun r h => by simp [impl_steps.l0] at h
  | k + 1, L, M, out, i => by
    unfold impl_steps.l0
    exact LeO.ite (LeO.bind (impl_steps.idx_mono (impl_steps.g_mono L i) k _ _) (fun _ => LeO.ite (LeO.refl _) (LeO.ite (impl_steps.mono_l k _ _ _ _) (LeO.none _)))) (LeO.refl _)
theorem impl_steps.mono : ∀ a0 a1 k, LeO (impl_steps.f k a0 a1) (impl_steps.f (k + 1) a0 a1) := fun a0 a1 k => impl_steps.mono_l k a0 a1 [] 1
set_option maxHeartbeats 8000000 in
set_option maxRecDepth 100000 in
theorem impl_steps.lam (L : List (List Int)) (i : Int) (AL : Option Addr) (cL : Nat) (g1 g2 : Nat) (w : World) (hL : Kd.C (Kd.slice 3 (Kd.int .i64)) w AL L.length L) (hn1 : w.cell? ⟨g1, 0, none⟩ = some (.slice AL L.length cL)) (hn2 : w.cell? ⟨g2, 0, none⟩ = some (.int .i64 i)) (kq : Nat) (x : S55) (t : Bool) (w1 : World) (hB : Below w.heap.size w w1) (h : impl_steps.g L i kq x = some t) :
    Calls Try.prog 112 #[.agg #[.int .i64 x.f0, .int .i64 x.f1, .int .i64 x.f2], .pointer (some ⟨g1, 0, none⟩), .pointer (some ⟨g2, 0, none⟩)] w1 fun e w' => e = .returned (.bool t) ∧ Below w.heap.size w w' := by
  have hu := Try.underlying55
  have HB := Aside0.mk hB
  unfold impl_steps.g at h
  by_cases p1 : 1 ≤ i
  rotate_left
  · rw [if_neg p1] at h; cases h
  rw [if_pos p1] at h
  by_cases p2 : i < (L.length : Int)
  rotate_left
  · rw [if_neg p2] at h; cases h
  rw [if_pos p2] at h
  by_cases p3 : i < 1000000000
  rotate_left
  · rw [if_neg p3] at h; cases h
  rw [if_pos p3] at h
  obtain ⟨u, h1, h2⟩ := Option.bind_eq_some_iff.mp h
  have H1 := Aside0.mk h1
  have H2 := Aside0.mk h2
  obtain ⟨aL, Ap, cp, eaL, hxp, hlp, hrp⟩ := at_L3 hL (i - 1) (by omega) (by omega)
  obtain ⟨aL', Ai, ci, eaL', hxi, hli, hri⟩ := at_L3 hL i (by omega) p2
  cases eaL
  cases eaL'
  rw [show (i - 1).toNat = i.toNat - 1 from by omega] at hxp
  have HN1 := Aside0.mk hn1
  have HN2 := Aside0.mk hn2
  have HXP := Aside0.mk hxp
  have HXI := Aside0.mk hxi
  have HLP := Aside0.mk hlp
  have HLI := Aside0.mk hli
  have HRP := Aside0.mk hrp
  have HRI := Aside0.mk hri
  have hw1 : IntKind.i64.wrap (i - 1) = i - 1 := IntWalk.i64_in _ (by omega)
  have q0 : (0 ≤ i - 1) = True := eq_true (by omega)
  have q0' : (1 ≤ i) = True := eq_true p1
  have q1 : (i - 1 < (L.length : Int)) = True := eq_true (by omega)
  have q2 : (0 ≤ i) = True := eq_true (by omega)
  have q3 : (i < (L.length : Int)) = True := eq_true p2
  have q4 : decide (0 ≤ i - 1) = true := decide_eq_true (by omega)
  have q5 : decide (i - 1 < (L.length : Int)) = true := decide_eq_true (by omega)
  have q6 : decide (0 ≤ i) = true := decide_eq_true (by omega)
  have q7 : decide (i < (L.length : Int)) = true := decide_eq_true p2
  clear h1 h2 h hB hn1 hn2 hxp hxi hlp hli hrp hri p1 p2 p3 hL
  go_enter Try.func112, Try.ntmps112
  go_wp2_with (first | ((with_reducible refine gate_dst (N := 3) rfl ?_); refine box_event ?hg (N := 3) ?hd (cs := #[.int .i64 x.f0, .int .i64 x.f1, .int .i64 x.f2]) (t := 55) ?hr ?_; (case hd => rfl); (case hg => rfl); (case hr => first | (go_simp; done) | (go_simp; rfl)); intro gx hgx w2 hbox hb2; have HB2 := Aside0.mk (show Below w.heap.size w w2 from HB.out.trans (hb2.mono HB.out.size)); have BK := Aside0.mk hbox; clear HB; have HB := HB2; clear HB2 hb2 hbox hgx))
  have n0_ := Aside0.mk (blk_drew BK.out)
  have n1_ := Aside0.mk (below_drew1 HB.out)
  clear BK HB
  have BK := n0_
  have HB := n1_
  clear n0_ n1_
  refine start_ (n := 13) (S := fun w' => w'.cell? ⟨g1, 0, none⟩ = some (.slice (some aL) L.length cL) ∧ w'.cell? ⟨g2, 0, none⟩ = some (.int .i64 i) ∧ w'.cell? ⟨gx, 0, none⟩ = some (.int .i64 x.f0) ∧ w'.cell? ⟨gx, 1, none⟩ = some (.int .i64 x.f1) ∧ w'.cell? ⟨gx, 2, none⟩ = some (.int .i64 x.f2) ∧ w'.cell? (aL.add (i.toNat - 1)) = some (.slice Ap (rd_L3 L (i - 1)).length cp) ∧ w'.cell? (aL.add i.toNat) = some (.slice Ai (rd_L3 L i).length ci)) (ds := []) #[false, false, false, false, false, false, false, false, false, false, false, false, false] (by kernel_rfl) rfl rfl ⟨(HB.out.cell (World.block_lt_of_cell? w _ HN1.out)).trans HN1.out, (HB.out.cell (World.block_lt_of_cell? w _ HN2.out)).trans HN2.out, (blk_cell BK.out 0).trans rfl, (blk_cell BK.out 1).trans rfl, (blk_cell BK.out 2).trans rfl, (HB.out.cell (World.block_lt_of_cell? w _ HXP.out)).trans HXP.out, (HB.out.cell (World.block_lt_of_cell? w _ HXI.out)).trans HXI.out⟩ (fun hHeld => ?_)
  generalize w2.drew = w6 at BK HB hHeld ⊢
  refine take_ (i := 0) (N := some 5) (v := ?_) (a' := ?_) #[true, false, false, false, false, false, false, false, false, false, false, false, false] rfl rfl (by kernel_rfl) (fun _ _ _ h => h) (Or.inl ⟨by rfl, ?_⟩) hHeld ?_ ?_
  rotate_left
  · rintro w' ⟨s0, s1, s2, s3, s4, s5, s6⟩
    go_simp
    with_reducible rfl
  rotate_left
  · simp only [Act.put, List.setIfInBounds_toArray, List.set_cons_zero, List.set_cons_succ, i64_w, i32_w]
    rfl
  refine take_ (i := 1) (N := some 6) (v := ?_) (a' := ?_) #[true, true, false, false, false, false, false, false, false, false, false, false, false] rfl rfl (by kernel_rfl) (fun _ _ _ h => h) (Or.inl ⟨by rfl, ?_⟩) hHeld ?_ ?_
  rotate_left
  · rintro w' ⟨s0, s1, s2, s3, s4, s5, s6⟩
    go_simp
    with_reducible rfl
  rotate_left
  · simp only [Act.put, List.setIfInBounds_toArray, List.set_cons_zero, List.set_cons_succ, i64_w, i32_w]
    rfl
  refine pure_ (i := 2) (N := some 7) (v := ?_) (a' := ?_) #[true, true, true, false, false, false, false, false, false, false, false, false, false] rfl rfl (by kernel_rfl) (fun _ _ _ h => h) (Or.inl ⟨by rfl, ?_⟩) ?_ ?_
  rotate_left
  · intro w'
    go_simp
    with_reducible rfl
  rotate_left
  · simp only [Act.put, List.setIfInBounds_toArray, List.set_cons_zero, List.set_cons_succ, i64_w, i32_w]
    rfl
  refine pure_ (i := 3) (N := some 8) (v := ?_) (a' := ?_) #[true, true, true, true, false, false, false, false, false, false, false, false, false] rfl rfl (by kernel_rfl) (fun _ _ _ h => h) (Or.inl ⟨by rfl, ?_⟩) ?_ ?_
  rotate_left
  · intro w'
    go_simp
    with_reducible rfl
  rotate_left
  · simp only [Act.put, List.setIfInBounds_toArray, List.set_cons_zero, List.set_cons_succ, i64_w, i32_w]
    rfl
  refine take_ (i := 4) (N := some 9) (v := ?_) (a' := ?_) #[true, true, true, true, true, false, false, false, false, false, false, false, false] rfl rfl (by kernel_rfl) (fun _ _ _ h => h) (Or.inl ⟨by rfl, ?_⟩) hHeld ?_ ?_
  rotate_left
  · rintro w' ⟨s0, s1, s2, s3, s4, s5, s6⟩
    go_simp
    with_reducible rfl
  rotate_left
  · simp only [Act.put, List.setIfInBounds_toArray, List.set_cons_zero, List.set_cons_succ, i64_w, i32_w]
    rfl
  refine take_ (i := 5) (N := some 10) (v := ?_) (a' := ?_) #[true, true, true, true, true, true, false, false, false, false, false, false, false] rfl rfl (by kernel_rfl) (fun _ _ _ h => h) (Or.inl ⟨by rfl, ?_⟩) hHeld ?_ ?_
  rotate_left
  · rintro w' ⟨s0, s1, s2, s3, s4, s5, s6⟩
    go_simp
    with_reducible rfl
  rotate_left
  · simp only [Act.put, List.setIfInBounds_toArray, List.set_cons_zero, List.set_cons_succ, i64_w, i32_w]
    rfl
  refine take_ (i := 7) (N := some 12) (v := ?_) (a' := ?_) #[true, true, true, true, true, true, false, true, false, false, false, false, false] rfl rfl (by kernel_rfl) (fun _ _ _ h => h) (Or.inl ⟨by rfl, ?_⟩) hHeld ?_ ?_
  rotate_left
  · rintro w' ⟨s0, s1, s2, s3, s4, s5, s6⟩
    go_simp
    with_reducible rfl
  rotate_left
  · simp only [Act.put, List.setIfInBounds_toArray, List.set_cons_zero, List.set_cons_succ, i64_w, i32_w]
    rfl
  refine take_ (i := 8) (N := some 13) (v := ?_) (a' := ?_) #[true, true, true, true, true, true, false, true, true, false, false, false, false] rfl rfl (by kernel_rfl) (fun _ _ _ h => h) (Or.inl ⟨by rfl, ?_⟩) hHeld ?_ ?_
  rotate_left
  · rintro w' ⟨s0, s1, s2, s3, s4, s5, s6⟩
    go_simp
    with_reducible rfl
  rotate_left
  · simp only [Act.put, List.setIfInBounds_toArray, List.set_cons_zero, List.set_cons_succ, i64_w, i32_w]
    rfl
  refine pure_ (i := 9) (N := some 14) (v := ?_) (a' := ?_) #[true, true, true, true, true, true, false, true, true, true, false, false, false] rfl rfl (by kernel_rfl) (fun _ _ _ h => h) (Or.inl ⟨by rfl, ?_⟩) ?_ ?_
  rotate_left
  · intro w'
    go_simp
    with_reducible rfl
  rotate_left
  · simp only [Act.put, List.setIfInBounds_toArray, List.set_cons_zero, List.set_cons_succ, i64_w, i32_w]
    rfl
  refine take_ (i := 10) (N := some 15) (v := ?_) (a' := ?_) #[true, true, true, true, true, true, false, true, true, true, true, false, false] rfl rfl (by kernel_rfl) (fun _ _ _ h => h) (Or.inl ⟨by rfl, ?_⟩) hHeld ?_ ?_
  rotate_left
  · rintro w' ⟨s0, s1, s2, s3, s4, s5, s6⟩
    go_simp
    with_reducible rfl
  rotate_left
  · simp only [Act.put, List.setIfInBounds_toArray, List.set_cons_zero, List.set_cons_succ, i64_w, i32_w]
    rfl
  refine one_ (i := 6) (N := some 11) #[true, true, true, true, true, true, true, true, true, true, true, false, false] rfl rfl (by kernel_rfl) (by decide) (fun K hK => ?_)
  refine goes_ Try.func66 (by kernel_rfl) rfl #[.slice Ap (rd_L3 L (i - 1)).length cp, .agg #[.int .i64 x.f0, .int .i64 x.f1, .int .i64 x.f2]] (by rfl) rfl rfl (by simp only [List.map_toArray, List.map_cons, List.map_nil]; rfl) ?_
  with_reducible refine (impl_moved.calls kq Ap cp (rd_L3 L (i - 1)) x.f0 x.f1 x.f2 u _ (Kd.C_below HRP.out HB.out) HLP.out H1.out).mono ?_
  rintro e w7 ⟨v3, rfl, ho0, hb⟩
  refine ⟨_, rfl, ?_⟩
  obtain ⟨A3, c3, rfl⟩ := Kd.R_slice ho0
  have ho1 := Aside0.mk (Kd.R_reads' ho0)
  have n0_ := Aside0.mk (show Below w.heap.size w _ from HB.out.trans (hb.mono HB.out.size))
  have n1_ := Aside0.mk (blk_below BK.out hb)
  have n2_ := Aside0.mk (ho1.out)
  clear HB
  clear BK
  (try clear hb)
  (try clear ho0)
  have HB := n0_
  have BK := n1_
  have HO3 := n2_
  clear n0_ n1_ n2_
  clear ho1
  refine hK.out _ _ ⟨(HB.out.cell (World.block_lt_of_cell? w _ HN1.out)).trans HN1.out, (HB.out.cell (World.block_lt_of_cell? w _ HN2.out)).trans HN2.out, (blk_cell BK.out 0).trans rfl, (blk_cell BK.out 1).trans rfl, (blk_cell BK.out 2).trans rfl, (HB.out.cell (World.block_lt_of_cell? w _ HXP.out)).trans HXP.out, (HB.out.cell (World.block_lt_of_cell? w _ HXI.out)).trans HXI.out⟩ (fun hHeld => ?_)
  clear hK K
  refine norm_ (a' := ?_) ?_ ?_
  rotate_left
  · show Act.put _ (some 11) _ = _
    simp only [Act.put, List.setIfInBounds_toArray, List.set_cons_zero, List.set_cons_succ, i64_w, i32_w]
    rfl
  refine one_ (i := 11) (N := some 16) #[true, true, true, true, true, true, true, true, true, true, true, true, false] rfl rfl (by kernel_rfl) (by decide) (fun K hK => ?_)
  refine goes_ Try.func106 (by kernel_rfl) rfl #[.slice A3 u.length c3, .slice Ai (rd_L3 L i).length ci] (by rfl) rfl rfl (by simp only [List.map_toArray, List.map_cons, List.map_nil]; rfl) ?_
  with_reducible refine (slices_Equal_int_int.calls kq A3 c3 u Ai ci (rd_L3 L i) t _ HO3.out.2.2 HO3.out.2.1 (Kd.C_below HRI.out HB.out) HLI.out H2.out).mono ?_
  rintro e w8 ⟨rfl, hd⟩
  refine ⟨_, rfl, ?_⟩
  have hb := Drawn0.below hd
  clear hd
  have n0_ := Aside0.mk (show Below w.heap.size w _ from HB.out.trans (hb.mono HB.out.size))
  have n1_ := Aside0.mk (blk_below BK.out hb)
  clear HB
  clear BK
  (try clear hb)
  (try clear ho0)
  have HB := n0_
  have BK := n1_
  clear n0_ n1_
  clear HO3
  refine hK.out _ _ ⟨(HB.out.cell (World.block_lt_of_cell? w _ HN1.out)).trans HN1.out, (HB.out.cell (World.block_lt_of_cell? w _ HN2.out)).trans HN2.out, (blk_cell BK.out 0).trans rfl, (blk_cell BK.out 1).trans rfl, (blk_cell BK.out 2).trans rfl, (HB.out.cell (World.block_lt_of_cell? w _ HXP.out)).trans HXP.out, (HB.out.cell (World.block_lt_of_cell? w _ HXI.out)).trans HXI.out⟩ (fun hHeld => ?_)
  clear hK K
  refine norm_ (a' := ?_) ?_ ?_
  rotate_left
  · show Act.put _ (some 16) _ = _
    simp only [Act.put, List.setIfInBounds_toArray, List.set_cons_zero, List.set_cons_succ, i64_w, i32_w]
    rfl
  refine pure_ (i := 12) (N := some 4) (v := ?_) (a' := ?_) #[true, true, true, true, true, true, true, true, true, true, true, true, true] rfl rfl (by kernel_rfl) (fun _ _ _ h => h) (Or.inl ⟨by rfl, ?_⟩) ?_ ?_
  rotate_left
  · intro w'
    go_simp
    with_reducible rfl
  rotate_left
  · simp only [Act.put, List.setIfInBounds_toArray, List.set_cons_zero, List.set_cons_succ, i64_w, i32_w]
    rfl
  refine done_ (by kernel_rfl) ?_

  try go_wp2
  go_ret
  exact ⟨rfl, HB.out⟩
set_option maxHeartbeats 8000000 in
set_option maxRecDepth 100000 in
theorem impl_steps.calls (k : Nat) (A0 : Option Addr) (c0 : Nat) (l0 : List (List Int)) (A1 : Option Addr) (c1 : Nat) (l1 : List (S55)) (r1 : List Int) (r2 : Bool) (w : World) (hr0 : Kd.C (Kd.slice 3 (Kd.int .i64)) w A0 l0.length l0) (hc0 : l0.length ≤ c0) (hr1 : Kd.C k55 w A1 l1.length l1) (hc1 : l1.length ≤ c1) (h : impl_steps.f k l0 l1 = some (r1, r2)) :
    Calls Try.prog 92 #[.slice A0 l0.length c0, .slice A1 l1.length c1] w fun e w' => ∃ v0_ : Value, e = .returned (.tuple #[v0_, .bool r2]) ∧ Kd.R (Kd.int .i64) 3 w' w.heap.size (fun _ => True) v0_ r1 ∧ Below w.heap.size w w' := by
  have HR0 := Aside0.mk hr0
  have HC0 := Aside0.mk hc0
  have HR1 := Aside0.mk hr1
  have HC1 := Aside0.mk hc1
  have HB := Aside0.mk (Below.refl w.heap.size w)
  have H' := Aside0.mk h
  unfold impl_steps.f at H'
  clear hr0 hc0 hr1 hc1 h
  go_enter Try.func92, Try.ntmps92
  go_wp2_with (first | ((with_reducible refine gate_dst (N := 2) rfl ?_); refine box_event ?hg (N := 2) ?hd (cs := #[.slice A0 l0.length c0]) (t := 36) ?hr ?_; (case hd => rfl); (case hg => rfl); (case hr => first | (go_simp; done) | (go_simp; rfl)); intro gx hgx w2 hbox hb2; have HB2 := Aside0.mk (show Below w.heap.size w w2 from HB.out.trans (hb2.mono HB.out.size)); have BK := Aside0.mk hbox; have hx2 : w2.cell? ⟨gx, 0, none⟩ = some (.slice A0 l0.length c0) := (blk_cell hbox 0).trans rfl; have HGX := Aside0.mk (show w.heap.size ≤ gx by rw [hgx]; exact Nat.le_refl _); clear HB; have HB := HB2; clear HB2 hb2 hbox hgx) | ((with_reducible refine gate_dst (N := 9) rfl ?_); refine Kd.R_lit (Kd.int .i64) (w0 := w) w.heap.size 3 ?hg (N := 9) ?hd (xs := ([] : List Int)) (inner := []) (ok := fun k_ => k_ ≠ gx) (okp := fun _ => False) ?hr ?hp (fun _ hk => hk.elim) (by have hlt_ := blk_lt BK.out; exact Nat.ne_of_gt hlt_) HB.out HB.out.size (by simp) ?_; (case hd => rfl); (case hg => rfl); (case hr => first | (go_simp; done) | (go_simp; rfl)); (case hp => exact (Reps.none _ _)); intro v3 w3 ho3 hb3 hg3 hnew3; have HO3 := Aside0.mk ho3; have HB3 := Aside0.mk hb3; have BK3 := Aside0.mk (blk_grown BK.out hg3 (fun e_ => by cases e_)); clear HB BK hx2 ho3 hb3 hg3 hnew3))
  have hsz : gx < w3.heap.size := blk_lt BK3.out
  have HO4 := Aside0.mk (show Kd.R (Kd.int .i64) 3 (w3.alloc (.cells #[.int .i64 1] 3 (0, 0))) w.heap.size (fun k_ => k_ ≠ w3.heap.size ∧ k_ ≠ gx) v3 [] from Kd.R_alloc (Kd.R_mono (Kd.R_bound HO3.out) (fun k_ hk => ⟨by have := hk.2.2.1; omega, hk.1⟩)) _)
  have BK4 := Aside0.mk (blk_alloc BK3.out (.cells #[.int .i64 1] 3 (0, 0)))
  have BI4 := Aside0.mk (blk_new w3 (.cells #[.int .i64 1] 3 (0, 0)))
  have HB4 := Aside0.mk (below_alloc HB3.out (.cells #[.int .i64 1] 3 (0, 0)))
  have HG4 := Aside0.mk HB3.out.size
  clear HO3 BK3 HB3 hsz
  go_loopg [6, 7] k (fun kq v6 v7 w' => ∃ (out : List Int) (i : Int) (gi : Nat), v7 = .pointer (some ⟨gi, 0, none⟩) ∧ Aside0 (impl_steps.l0 kq l0 l1 out i = some (r1, r2)) ∧ Aside0 (kq ≤ k) ∧ Aside0 (Kd.R (Kd.int .i64) 3 w' w.heap.size (fun k_ => k_ ≠ gi ∧ k_ ≠ gx) v6 out) ∧ Aside0 (w'.heap[gx]? = some (.cells #[.slice A0 l0.length c0] 36 (0, 0))) ∧ Aside0 (w'.heap[gi]? = some (.cells #[.int .i64 i] 3 (0, 0))) ∧ Aside0 (Below w.heap.size w w') ∧ Aside0 (w.heap.size ≤ gi))
  case atStart => exact ⟨[], 1, _, rfl, H', ⟨Nat.le_refl _⟩, HO4, BK4, BI4, HB4, HG4⟩
  case round =>
    clear H' HO4 BK4 BI4 HB4
    obtain ⟨out, i, gi, rfl, HA, HK1, HO, BK, BI, HB, HG⟩ := hrel
    cases gk with
    | zero => exact absurd HA.out (by simp [impl_steps.l0])
    | succ k1 =>
      have H := HA.out
      clear HA
      simp only [impl_steps.l0] at H
      have hx2 : wr.cell? ⟨gx, 0, none⟩ = some (.slice A0 l0.length c0) := (blk_cell BK.out 0).trans rfl
      have hx7 : wr.cell? ⟨gi, 0, none⟩ = some (.int .i64 i) := (blk_cell BI.out 0).trans rfl
      by_cases c : i < (l0.length : Int)
      · rw [if_pos c] at H
        have cb : decide (i < (l0.length : Int)) = true := decide_eq_true c
        clear c
        obtain ⟨r, hr, H⟩ := Option.bind_eq_some_iff.mp H
        have HR := Aside0.mk hr
        clear hr
        by_cases cr : r < 0
        · rw [if_pos cr] at H
          have cb2 : decide (r < 0) = true := decide_eq_true cr
          clear cr
          simp only [Option.some.injEq, Prod.mk.injEq] at H
          obtain ⟨rfl, rfl⟩ := H
          go_wp2_with fail
          refine (impl_steps.index (impl_steps.g l0 i) gx gi k1 A1 c1 l1 r wr (Kd.C_below HR1.out HB.out) HC1.out (fun kq x t w' hB h => impl_steps.lam l0 i A0 c0 gx gi wr (Kd.C_below HR0.out HB.out) ((blk_cell BK.out 0).trans rfl) ((blk_cell BI.out 0).trans rfl) kq x t w' hB h) HR.out).mono ?_
          rintro e w5 ⟨rfl, hb⟩
          have HB5 := Aside0.mk (HB.out.trans (hb.mono HB.out.size))
          clear hb hx2 hx7
          go_wp2
          go_ret2
          exact ⟨_, rfl, Kd.R_nil _ _ _ _ _, HB5.out⟩
        · rw [if_neg cr] at H
          have cb2 : decide (r < 0) = false := decide_eq_false cr
          clear cr
          by_cases c8 : out.length < 17592186044416
          rotate_left
          · rw [if_neg c8] at H; exact absurd H (by simp)
          rw [if_pos c8] at H
          have LM := Aside0.mk c8
          have H' := Aside0.mk H
          clear c8 H
          go_wp2_with fail
          refine (impl_steps.index (impl_steps.g l0 i) gx gi k1 A1 c1 l1 r wr (Kd.C_below HR1.out HB.out) HC1.out (fun kq x t w' hB h => impl_steps.lam l0 i A0 c0 gx gi wr (Kd.C_below HR0.out HB.out) ((blk_cell BK.out 0).trans rfl) ((blk_cell BI.out 0).trans rfl) kq x t w' hB h) HR.out).mono ?_
          rintro e w5 ⟨rfl, hb⟩
          have HB5 := Aside0.mk (HB.out.trans (hb.mono HB.out.size))
          have BK5 := Aside0.mk (blk_below BK.out hb)
          have BI5 := Aside0.mk (blk_below BI.out hb)
          have HO5 := Aside0.mk (Kd.R_below HO.out hb)
          clear hb hx2 hx7 HB BK BI HO
          go_wp2_with (first | ((with_reducible refine gate_builtin (b := .append) (xs := #[.tmp 21, .tmp 23]) rfl ?_); at_builtin; refine Kd.R_append (Kd.int .i64) (w0 := w) w.heap.size rfl (.tmp 21) (.tmp 23) 22 3 (.int .i64 0) 8 rfl Try.underlying22 info3 rfl (by decide) (by omega) u6 out r [.int .i64 r] (fun k_ => k_ ≠ gi ∧ k_ ≠ gx) (fun _ => False) rfl rfl ?aP (fun _ hk => hk.elim) ?aF ?aO ?aB ?aS ?aL ?_; (case aP => exact rfl); (case aB => exact HB5.out); (case aF => exact (fun k_ hk => by have h1 := blk_lt BK5.out; have h2 := blk_lt BI5.out; omega)); (case aO => exact Kd.R_mono HO5.out (fun k_ hk => by first | exact hk | exact ⟨hk, fun h_ => h_.elim⟩)); (case aS => exact HB5.out.size); (case aL => have := LM.out; omega); intro v8 w8 ho8 hb8 hg8 hat8; have HO8 := Aside0.mk ho8; have HB8 := Aside0.mk hb8; have BK8 := Aside0.mk (blk_grown BK5.out hg8 (fun e_ => (HO5.out.1 gx e_.symm).2 rfl)); have BI8 := Aside0.mk (blk_grown BI5.out hg8 (fun e_ => (HO5.out.1 gi e_.symm).1 rfl)); have hx8 : w8.cell? ⟨gi, 0, none⟩ = some (.int .i64 i) := (blk_cell BI8.out 0).trans rfl; clear HO5 HB5 BK5 BI5 ho8 hb8 hg8 hat8))
          go_roundg k1
          case measure => have := HK1.out; omega
          case rel => exact ⟨out ++ [r], wrap64 (i + 1), _, rfl, H', ⟨by have := HK1.out; omega⟩, ⟨Kd.R_alloc (Kd.R_mono (Kd.R_bound HO8.out) (fun k_ hk => ⟨by have := hk.2.2.1; omega, hk.1.2⟩)) _⟩, ⟨blk_alloc BK8.out _⟩, ⟨blk_new w8 _⟩, ⟨below_alloc HB8.out _⟩, ⟨HB8.out.size⟩⟩
      · rw [if_neg c] at H
        have cb : decide (i < (l0.length : Int)) = false := decide_eq_false c
        clear c
        simp only [Option.some.injEq, Prod.mk.injEq] at H
        obtain ⟨rfl, rfl⟩ := H
        go_wp2
        go_ret2
        exact ⟨_, rfl, Kd.R_mono HO.out (fun _ _ => trivial), HB.out⟩

/-! ### impl_MovesOf: function 50 -/
def impl_MovesOf.f (k : Nat) (a0 : Int) (l1 : List (List Int)) (l2 : List (S55)) : Option (List Int × Bool) := (impl_areMoves.f k a0 l2).bind fun t211 => (if t211 = true then ((impl_arePermutations.f k a0 l1).bind fun t212 => (if t212 = true then ((impl_steps.f k l1 l2).bind fun bt213 => (some (bt213.1, bt213.2))) else (some (([] : List Int), false)))) else (some (([] : List Int), false)))
theorem impl_MovesOf.mono : ∀ a0 a1 a2 k, LeO (impl_MovesOf.f k a0 a1 a2) (impl_MovesOf.f (k + 1) a0 a1 a2) := by
  intro a0 a1 a2 k
  unfold impl_MovesOf.f
  repeat' first
      | (with_reducible exact impl_areMoves.mono _ _ _)
      | (with_reducible exact impl_arePermutations.mono _ _ _)
      | (with_reducible exact impl_steps.mono _ _ _)
      | (with_reducible exact LeO.refl _)
      | (with_reducible exact LeO.none _)
      | (with_reducible refine LeO.ite ?_ ?_)
      | (with_reducible refine LeO.bind ?_ (fun _ => ?_))
      | exact impl_areMoves.mono _ _ _
      | exact impl_arePermutations.mono _ _ _
      | exact impl_steps.mono _ _ _
      | exact LeO.none _
      | refine LeO.ite ?_ ?_
      | refine LeO.bind ?_ (fun _ => ?_)
set_option maxHeartbeats 8000000 in
set_option maxRecDepth 100000 in
theorem impl_MovesOf.calls (k : Nat) (a0 : Int) (A1 : Option Addr) (c1 : Nat) (l1 : List (List Int)) (A2 : Option Addr) (c2 : Nat) (l2 : List (S55)) (r1 : List Int) (r2 : Bool) (w : World) (hr1 : Kd.C (Kd.slice 3 (Kd.int .i64)) w A1 l1.length l1) (hc1 : l1.length ≤ c1) (hr2 : Kd.C k55 w A2 l2.length l2) (hc2 : l2.length ≤ c2) (h : impl_MovesOf.f k a0 l1 l2 = some (r1, r2)) :
    Calls Try.prog 50 #[.int .i64 a0, .slice A1 l1.length c1, .slice A2 l2.length c2] w fun e w' => ∃ v0_ : Value, e = .returned (.tuple #[v0_, .bool r2]) ∧ Kd.R (Kd.int .i64) 3 w' w.heap.size (fun _ => True) v0_ r1 ∧ Below w.heap.size w w' := by
  have HR1 := Aside0.mk hr1
  have HC1 := Aside0.mk hc1
  clear hr1 hc1
  have HR2 := Aside0.mk hr2
  have HC2 := Aside0.mk hc2
  clear hr2 hc2
  have HB := Aside0.mk (Below.refl w.heap.size w)
  have H : ((impl_areMoves.f k a0 l2).bind fun t211 => (if t211 = true then ((impl_arePermutations.f k a0 l1).bind fun t212 => (if t212 = true then ((impl_steps.f k l1 l2).bind fun bt213 => (some (bt213.1, bt213.2))) else (some (([] : List Int), false)))) else (some (([] : List Int), false)))) = some (r1, r2) := h
  clear h
  replace H := Option.bind_eq_some_iff.mp H
  obtain ⟨t211, A40, H⟩ := H
  replace H : (if t211 = true then ((impl_arePermutations.f k a0 l1).bind fun t212 => (if t212 = true then ((impl_steps.f k l1 l2).bind fun bt213 => (some (bt213.1, bt213.2))) else (some (([] : List Int), false)))) else (some (([] : List Int), false))) = some (r1, r2) := H
  have A4 := Aside0.mk A40
  clear A40
  by_cases c5 : t211 = true
  · subst c5
    have H1 : ((impl_arePermutations.f k a0 l1).bind fun t212 => (if t212 = true then ((impl_steps.f k l1 l2).bind fun bt213 => (some (bt213.1, bt213.2))) else (some (([] : List Int), false)))) = some (r1, r2) := by rw [if_pos rfl] at H; exact H
    clear H
    have H := H1
    clear H1
    replace H := Option.bind_eq_some_iff.mp H
    obtain ⟨t212, A60, H⟩ := H
    replace H : (if t212 = true then ((impl_steps.f k l1 l2).bind fun bt213 => (some (bt213.1, bt213.2))) else (some (([] : List Int), false))) = some (r1, r2) := H
    have A6 := Aside0.mk A60
    clear A60
    by_cases c7 : t212 = true
    · subst c7
      have H1 : ((impl_steps.f k l1 l2).bind fun bt213 => (some (bt213.1, bt213.2))) = some (r1, r2) := by rw [if_pos rfl] at H; exact H
      clear H
      have H := H1
      clear H1
      replace H := Option.bind_eq_some_iff.mp H
      obtain ⟨⟨t213, t214⟩, A80, H⟩ := H
      replace H : (some (t213, t214)) = some (r1, r2) := H
      have A8 := Aside0.mk A80
      clear A80
      simp only [Option.some.injEq, Prod.mk.injEq] at H
      obtain ⟨rfl, rfl⟩ := H
      go_enter Try.func50, Try.ntmps50
      go_wp2_with (first | ((with_reducible refine gate_callee (f := 62) rfl ?_); refine goesL_ (some 10) rfl rfl Try.func62 (by kernel_rfl) rfl #[.int .i64 a0, .slice A2 l2.length c2] rfl (by (try simp only [List.map_toArray, List.map_cons, List.map_nil]); first | done | rfl | (simp only [List.length_drop, List.length_take]; rfl)) ?_; (with_reducible refine (impl_areMoves.calls k a0 _ _ l2 true _ ?side1 ?side2 A4.out).mono ?_); (case side1 => repeat (first | exact HR2.out | (with_reducible refine Kd.C_alloc ?_ _) | (with_reducible refine Kd.C_drewN ?_ _) | (with_reducible refine Kd.C_drew ?_))); (case side2 => exact HC2.out); rintro e w9 ⟨rfl, hb⟩; refine ⟨_, rfl, ?_⟩; have n0_ := Aside0.mk (below_step (by repeat (first | (with_reducible first | exact HB.out | apply below_alloc | apply pw_below_drewN | apply below_drew1) | exact HB.out)) hb); clear HB; have HB := n0_; clear n0_; (try clear hb); (try clear hb2); (try clear hk); (try clear hi)) | (go_at_call 91; (with_reducible refine (impl_arePermutations.calls k a0 _ _ l1 true _ ?side1 ?side2 A6.out).mono ?_); (case side1 => repeat (first | exact (Kd.C_below HR1.out HB.out) | (with_reducible refine Kd.C_alloc ?_ _) | (with_reducible refine Kd.C_drewN ?_ _) | (with_reducible refine Kd.C_drew ?_))); (case side2 => exact HC1.out); rintro e w10 ⟨rfl, hb⟩; have n0_ := Aside0.mk (below_step (by repeat (first | (with_reducible first | exact HB.out | apply below_alloc | apply pw_below_drewN | apply below_drew1) | exact HB.out)) hb); clear HB; have HB := n0_; clear n0_; (try clear hb); (try clear hb2); (try clear hk); (try clear hi)) | ((with_reducible refine gate_callee (f := 92) rfl ?_); refine goesL_ (some 20) rfl rfl Try.func92 (by kernel_rfl) rfl #[.slice A1 l1.length c1, .slice A2 l2.length c2] rfl (by (try simp only [List.map_toArray, List.map_cons, List.map_nil]); first | done | rfl | (simp only [List.length_drop, List.length_take]; rfl)) ?_; (with_reducible refine (impl_steps.calls k _ _ l1 _ _ l2 t213 t214 _ ?side1 ?side2 ?side3 ?side4 A8.out).mono ?_); (case side1 => repeat (first | exact (Kd.C_below HR1.out HB.out) | (with_reducible refine Kd.C_alloc ?_ _) | (with_reducible refine Kd.C_drewN ?_ _) | (with_reducible refine Kd.C_drew ?_))); (case side2 => exact HC1.out); (case side3 => repeat (first | exact (Kd.C_below HR2.out HB.out) | (with_reducible refine Kd.C_alloc ?_ _) | (with_reducible refine Kd.C_drewN ?_ _) | (with_reducible refine Kd.C_drew ?_))); (case side4 => exact HC2.out); rintro e w11 ⟨v215, rfl, ho0, hb⟩; refine ⟨_, rfl, ?_⟩; have n0_ := Aside0.mk (Kd.R_lower ho0 (below_size (by repeat (first | (with_reducible first | exact HB.out | apply below_alloc | apply pw_below_drewN | apply below_drew1) | exact HB.out)))); have n1_ := Aside0.mk (below_step (by repeat (first | (with_reducible first | exact HB.out | apply below_alloc | apply pw_below_drewN | apply below_drew1) | exact HB.out)) hb); clear HB; have HO216 := n0_; have HB := n1_; clear n0_ n1_; (try clear hb); (try clear hb2); (try clear hk); (try clear hi); (try clear ho0)))
      go_ret2
      exact ⟨_, by first | rfl | (simp [errW_none, errW_some] <;> rfl) | (simp [*, errW_none, errW_some] <;> rfl), by (with_reducible repeat (first | apply Kd.R_alloc | apply Kd.R_drewN | apply Kd.R_drew)); exact HO216.out, by repeat (first | (with_reducible first | exact HB.out | apply below_alloc | apply pw_below_drewN | apply below_drew1) | exact HB.out)⟩
    · replace c7 := Bool.eq_false_iff.mpr c7
      subst c7
      have H1 : (some (([] : List Int), false)) = some (r1, r2) := by rw [if_neg (show ¬ (false = true) by decide)] at H; exact H
      clear H
      have H := H1
      clear H1
      simp only [Option.some.injEq, Prod.mk.injEq] at H
      obtain ⟨rfl, rfl⟩ := H
      go_enter Try.func50, Try.ntmps50
      go_wp2_with (first | ((with_reducible refine gate_callee (f := 62) rfl ?_); refine goesL_ (some 10) rfl rfl Try.func62 (by kernel_rfl) rfl #[.int .i64 a0, .slice A2 l2.length c2] rfl (by (try simp only [List.map_toArray, List.map_cons, List.map_nil]); first | done | rfl | (simp only [List.length_drop, List.length_take]; rfl)) ?_; (with_reducible refine (impl_areMoves.calls k a0 _ _ l2 true _ ?side1 ?side2 A4.out).mono ?_); (case side1 => repeat (first | exact HR2.out | (with_reducible refine Kd.C_alloc ?_ _) | (with_reducible refine Kd.C_drewN ?_ _) | (with_reducible refine Kd.C_drew ?_))); (case side2 => exact HC2.out); rintro e w12 ⟨rfl, hb⟩; refine ⟨_, rfl, ?_⟩; have n0_ := Aside0.mk (below_step (by repeat (first | (with_reducible first | exact HB.out | apply below_alloc | apply pw_below_drewN | apply below_drew1) | exact HB.out)) hb); clear HB; have HB := n0_; clear n0_; (try clear hb); (try clear hb2); (try clear hk); (try clear hi)) | (go_at_call 91; (with_reducible refine (impl_arePermutations.calls k a0 _ _ l1 false _ ?side1 ?side2 A6.out).mono ?_); (case side1 => repeat (first | exact (Kd.C_below HR1.out HB.out) | (with_reducible refine Kd.C_alloc ?_ _) | (with_reducible refine Kd.C_drewN ?_ _) | (with_reducible refine Kd.C_drew ?_))); (case side2 => exact HC1.out); rintro e w13 ⟨rfl, hb⟩; have n0_ := Aside0.mk (below_step (by repeat (first | (with_reducible first | exact HB.out | apply below_alloc | apply pw_below_drewN | apply below_drew1) | exact HB.out)) hb); clear HB; have HB := n0_; clear n0_; (try clear hb); (try clear hb2); (try clear hk); (try clear hi)))
      go_ret2
      exact ⟨_, by first | rfl | (simp [errW_none, errW_some] <;> rfl) | (simp [*, errW_none, errW_some] <;> rfl), by first | exact Kd.R_nil _ _ _ _ _ | exact Kd.N_nil _ _ _ _ _ | exact Kd.V_nil _ _ _ _ _ | exact Kd.Q_nil _ _ _ _ _ | exact Kd.S_nil _ _ _ _ _, by repeat (first | (with_reducible first | exact HB.out | apply below_alloc | apply pw_below_drewN | apply below_drew1) | exact HB.out)⟩
  · replace c5 := Bool.eq_false_iff.mpr c5
    subst c5
    have H1 : (some (([] : List Int), false)) = some (r1, r2) := by rw [if_neg (show ¬ (false = true) by decide)] at H; exact H
    clear H
    have H := H1
    clear H1
    simp only [Option.some.injEq, Prod.mk.injEq] at H
    obtain ⟨rfl, rfl⟩ := H
    go_enter Try.func50, Try.ntmps50
    go_wp2_with (first | ((with_reducible refine gate_callee (f := 62) rfl ?_); refine goesL_ (some 10) rfl rfl Try.func62 (by kernel_rfl) rfl #[.int .i64 a0, .slice A2 l2.length c2] rfl (by (try simp only [List.map_toArray, List.map_cons, List.map_nil]); first | done | rfl | (simp only [List.length_drop, List.length_take]; rfl)) ?_; (with_reducible refine (impl_areMoves.calls k a0 _ _ l2 false _ ?side1 ?side2 A4.out).mono ?_); (case side1 => repeat (first | exact HR2.out | (with_reducible refine Kd.C_alloc ?_ _) | (with_reducible refine Kd.C_drewN ?_ _) | (with_reducible refine Kd.C_drew ?_))); (case side2 => exact HC2.out); rintro e w14 ⟨rfl, hb⟩; refine ⟨_, rfl, ?_⟩; have n0_ := Aside0.mk (below_step (by repeat (first | (with_reducible first | exact HB.out | apply below_alloc | apply pw_below_drewN | apply below_drew1) | exact HB.out)) hb); clear HB; have HB := n0_; clear n0_; (try clear hb); (try clear hb2); (try clear hk); (try clear hi)))
    go_ret2
    exact ⟨_, by first | rfl | (simp [errW_none, errW_some] <;> rfl) | (simp [*, errW_none, errW_some] <;> rfl), by first | exact Kd.R_nil _ _ _ _ _ | exact Kd.N_nil _ _ _ _ _ | exact Kd.V_nil _ _ _ _ _ | exact Kd.Q_nil _ _ _ _ _ | exact Kd.S_nil _ _ _ _ _, by repeat (first | (with_reducible first | exact HB.out | apply below_alloc | apply pw_below_drewN | apply below_drew1) | exact HB.out)⟩

end Go.Proofs.Ytcplfdfmebibpaa.MFnExactMovesOf
