/- Functions of the program as Lean functions, each with the proof that its call comes to just that: laid for this claim by this session's own program. -/
import Derived.Test.YtcplfdfmebibpaaMFnExactGreedyListx0
import Derived.Test.YtcplfdfmebibpaaMFnExactGreedyListx6
import Derived.Test.YtcplfdfmebibpaaMFnExactGreedyListx7
import Derived.Test.YtcplfdfmebibpaaMFnExactGreedyListx8
namespace Go.Proofs.Ytcplfdfmebibpaa.MFnExactGreedyList
open Go.RowKit Go.Proofs.YtcplfdfmebibpaaW.PrintWords Go.Proofs.YtcplfdfmebibpaaW.PrintLast Go.Proofs.YtcplfdfmebibpaaW.PrintMore
attribute [local go_sem] max2_int min2_int max_two min_two max_three min_three max_four min_four   -- for this text's walks alone
set_option linter.unusedVariables false
set_option linter.unusedSimpArgs false

/-! ### impl_GreedyList: function 35 -/
theorem impl_GreedyList.zeroB (w : World) : (zeroValue 4).run Try.prog w = .ok (.bool false) w := by kernel_rfl
theorem impl_GreedyList.mt : Try.prog.underlying 79 = some (.map 3 4) := Try.underlying79
theorem impl_GreedyList.mk_ : Try.prog.underlying 3 = some (.int .i64) := Try.underlying3
theorem impl_GreedyList.me : Try.prog.underlying 4 = some .bool := Try.underlying4
/-- The first move at which a question is answered with yes, or -1. -/
def impl_GreedyList.idx (g : Nat → S55 → Option Bool) : Nat → List (S55) → Int → Option Int
  | 0, _, _ => none
  | k + 1, L, i => if i < (L.length : Int) then (if 0 ≤ i then ((g k (rd_T55 L i)).bind fun t => (if t = true then (some i) else (impl_GreedyList.idx g k L (wrap64 (i + 1))))) else (none)) else (some (-1))
theorem impl_GreedyList.idx_mono {g : Nat → S55 → Option Bool} (hg : ∀ k x, LeO (g k x) (g (k + 1) x)) : ∀ k L i, LeO (impl_GreedyList.idx g k L i) (impl_GreedyList.idx g (k + 1) L i)
  | 0, _, _ => fun r h => by simp [impl_GreedyList.idx] at h
  | k + 1, L, i => by
    unfold impl_GreedyList.idx
    repeat' first
      | (with_reducible exact impl_GreedyList.idx_mono hg k _ _)
      | (with_reducible exact hg _ _)
      | (with_reducible exact LeO.refl _)
      | (with_reducible exact LeO.none _)
      | (with_reducible refine LeO.ite ?_ ?_)
      | (with_reducible refine LeO.bind ?_ (fun _ => ?_))
set_option maxHeartbeats 8000000 in
set_option maxRecDepth 100000 in
theorem impl_GreedyList.index (g : Nat → S55 → Option Bool) (g1 g2 : Nat) (k : Nat) (A1 : Option Addr) (c1 : Nat) (L : List (S55)) (r : Int) (w : World) (hL : Kd.C k55 w A1 L.length L) (hcL : L.length ≤ c1)
    (hlam : ∀ (kq : Nat) (x : S55) (t : Bool) (w' : World), Below w.heap.size w w' → g kq x = some t → Calls Try.prog 77 #[.agg #[.int .i64 x.f0, .int .i64 x.f1, .int .i64 x.f2], .pointer (some ⟨g1, 0, none⟩), .pointer (some ⟨g2, 0, none⟩)] w' fun e w'' => e = .returned (.bool t) ∧ Below w.heap.size w w'')
    (h : impl_GreedyList.idx g k L 0 = some r) :
    Calls Try.prog 76 #[.slice A1 L.length c1, .func (Fn.func 77) #[] #[.pointer (some ⟨g1, 0, none⟩), .pointer (some ⟨g2, 0, none⟩)]] w fun e w' => e = .returned (.int .i64 r) ∧ Below w.heap.size w w' := by
  have hu := Try.underlying55
  have HL := Aside0.mk hL
  have HCL := Aside0.mk hcL
  have HM := Aside0.mk hlam
  have H' := Aside0.mk h
  have HB := Aside0.mk (Below.refl w.heap.size w)
  clear hL hcL hlam h
  go_enter Try.func76, Try.ntmps76
  go_wp2
  go_loopg [5, 8] k (fun kq v5 v8 w' => ∃ (i : Int), v8 = .int .i64 i ∧ Aside0 (Below w.heap.size w w') ∧ Aside0 (impl_GreedyList.idx g kq L i = some r) ∧ Aside0 (kq ≤ k))
  case atStart => exact ⟨0, rfl, HB, H', ⟨Nat.le_refl _⟩⟩
  case round =>
    clear H' HB
    obtain ⟨i, rfl, HB, HA, HK1⟩ := hrel
    cases gk with
    | zero => exact absurd HA.out (by simp [impl_GreedyList.idx])
    | succ k1 =>
      have H := HA.out
      clear HA
      simp only [impl_GreedyList.idx] at H
      by_cases c3 : i < (L.length : Int)
      · rw [if_pos c3] at H
        have c3b0 : decide (i < (L.length : Int)) = true := decide_eq_true c3
        by_cases c4 : 0 ≤ i
        · rw [if_pos c4] at H
          obtain ⟨t, A30, H⟩ := Option.bind_eq_some_iff.mp H
          have A3 := Aside0.mk A30
          clear A30
          obtain ⟨ad, ead, hx0, hx1, hx2⟩ := at_T55 HL.out i c4 c3
          cases ead
          replace hx0 := (HB.out.cell (World.block_lt_of_cell? w _ hx0)).trans hx0
          replace hx1 := (HB.out.cell (World.block_lt_of_cell? w _ hx1)).trans hx1
          replace hx2 := (HB.out.cell (World.block_lt_of_cell? w _ hx2)).trans hx2
          have c4b : (0 ≤ i) = True := eq_true c4
          have c3b : (i < (L.length : Int)) = True := eq_true c3
          clear c3 c4
          cases t
          · simp only [Bool.false_eq_true, if_false] at H
            have H' := Aside0.mk H
            clear H
            go_wp2_with fail
            refine (HM.out k1 (rd_T55 L i) false _ HB.out A3.out).mono ?_
            rintro e w2 ⟨rfl, hb2⟩
            have HB2 := Aside0.mk hb2
            clear hb2
            go_wp2
            go_roundg k1
            case measure => have := HK1.out; omega
            case rel => exact ⟨wrap64 (i + 1), rfl, HB2, H', ⟨by have := HK1.out; omega⟩⟩
          · simp only [if_true] at H
            obtain rfl := Option.some.inj H
            clear H
            go_wp2_with fail
            refine (HM.out k1 (rd_T55 L i) true _ HB.out A3.out).mono ?_
            rintro e w2 ⟨rfl, hb2⟩
            have HB2 := Aside0.mk hb2
            clear hb2
            go_wp2
            go_ret
            exact ⟨rfl, HB2.out⟩
        · rw [if_neg c4] at H
          exact absurd H (by simp)
      · rw [if_neg c3] at H
        obtain rfl := Option.some.inj H
        have c3b0 : decide (i < (L.length : Int)) = false := decide_eq_false c3
        clear c3 H
        go_wp2
        go_ret
        exact ⟨rfl, HB.out⟩
/-- Does a move lead to a list whose rank isn't met? -/
def impl_GreedyList.g (M l : List Int) (k : Nat) (x : S55) : Option Bool := (impl_moved.f k l x.f0 x.f1 x.f2).bind fun u => ((impl_permutationRank.f k u).bind fun r => (if (Lit.int .i64 r).wf = true then some (!decide (r ∈ M)) else none))
theorem impl_GreedyList.g_mono (M l : List Int) : ∀ k x, LeO (impl_GreedyList.g M l k x) (impl_GreedyList.g M l (k + 1) x) := by
  intro k x
  unfold impl_GreedyList.g
  exact LeO.bind (impl_moved.mono _ _ _ _ _) (fun _ => LeO.bind (impl_permutationRank.mono _ _) (fun _ => LeO.refl _))
/-- The list goes on. -/
def impl_GreedyList.l0 : Nat → List (S55) → List (List Int) → List Int → Option (List (List Int))
  | 0, _, _, _ => none
  | k + 1, L, X, M => if 0 < X.length then (if X.length < 1000000 then (if M.length < 1000000 then ((impl_GreedyList.idx (impl_GreedyList.g M (rd_L3 X ((X.length : Int) - 1))) k L 0).bind fun r => (if r < 0 then some X else (if r < (L.length : Int) then ((impl_moved.f k (rd_L3 X ((X.length : Int) - 1)) (rd_T55 L r).f0 (rd_T55 L r).f1 (rd_T55 L r).f2).bind fun nx => ((impl_permutationRank.f k nx).bind fun q => (if (Lit.int .i64 q).wf = true then (impl_GreedyList.l0 k L (X ++ [nx]) (if q ∈ M then M else q :: M)) else none))) else none))) else none) else none) else none
theorem impl_GreedyList.mono_l : ∀ k L X M, LeO (impl_GreedyList.l0 k L X M) (impl_GreedyList.l0 (k + 1) L X M)
  | 0, _, _, _ => fun r h => by simp [impl_GreedyList.l0] at h
  | k + 1, L, X, M => by
    unfold impl_GreedyList.l0
    exact LeO.ite (LeO.ite (LeO.ite (LeO.bind (impl_GreedyList.idx_mono (impl_GreedyList.g_mono M _) k _ _) (fun _ => LeO.ite (LeO.refl _) (LeO.ite (LeO.bind (impl_moved.mono _ _ _ _ _) (fun _ => LeO.bind (impl_permutationRank.mono _ _) (fun _ => LeO.ite (impl_GreedyList.mono_l k _ _ _) (LeO.none _)))) (LeO.none _)))) (LeO.none _)) (LeO.none _)) (LeO.none _)
def impl_GreedyList.f (k : Nat) (a0 : Int) (l1 : List (S55)) : Option (List (List Int) × Bool) := (impl_areMoves.f k a0 l1).bind fun t => (if t = true then ((impl_identity.f k a0).bind fun s => ((impl_GreedyList.l0 k l1 [s] [0]).bind fun X => some (X, true))) else some ([], false))
theorem impl_GreedyList.mono : ∀ a0 a1 k, LeO (impl_GreedyList.f k a0 a1) (impl_GreedyList.f (k + 1) a0 a1) := by
  intro a0 a1 k
  unfold impl_GreedyList.f
  exact LeO.bind (impl_areMoves.mono _ _ _) (fun _ => LeO.ite (LeO.bind (impl_identity.mono _ _) (fun _ => LeO.bind (impl_GreedyList.mono_l _ _ _ _) (fun _ => LeO.refl _))) (LeO.refl _))
open Go.Proofs.Ytcplfdfmebibpaa.MapSet in
set_option maxHeartbeats 8000000 in
set_option maxRecDepth 100000 in
theorem impl_GreedyList.lam (M : List Int) (X : List (List Int)) (bm : Nat) (AX : Option Addr) (cX : Nat) (g1 g2 : Nat) (w : World) (hX : Kd.C (Kd.slice 3 (Kd.int .i64)) w AX X.length X) (hp : 0 < X.length) (hq : X.length < 1000000) (hn1 : w.cell? ⟨g1, 0, none⟩ = some (.map (some bm))) (hn2 : w.cell? ⟨g2, 0, none⟩ = some (.slice AX X.length cX)) (hM : MSet Try.prog 3 4 w bm M) (kq : Nat) (x : S55) (t : Bool) (w1 : World) (hB : Below w.heap.size w w1) (h : impl_GreedyList.g M (rd_L3 X ((X.length : Int) - 1)) kq x = some t) :
    Calls Try.prog 77 #[.agg #[.int .i64 x.f0, .int .i64 x.f1, .int .i64 x.f2], .pointer (some ⟨g1, 0, none⟩), .pointer (some ⟨g2, 0, none⟩)] w1 fun e w' => e = .returned (.bool t) ∧ Below w.heap.size w w' := by
  have hu := Try.underlying55
  have HB := Aside0.mk hB
  have HM := Aside0.mk hM
  unfold impl_GreedyList.g at h
  obtain ⟨u, h1, h⟩ := Option.bind_eq_some_iff.mp h
  obtain ⟨r, h2, h⟩ := Option.bind_eq_some_iff.mp h
  by_cases cw : (Lit.int .i64 r).wf = true
  rotate_left
  · rw [if_neg cw] at h; cases h
  rw [if_pos cw] at h
  obtain rfl := Option.some.inj h
  have HW := Aside0.mk cw
  have H1 := Aside0.mk h1
  have H2 := Aside0.mk h2
  obtain ⟨aX, Al, cl, eaX, hxl, hll, hrl⟩ := at_L3 hX ((X.length : Int) - 1) (by omega) (by omega)
  cases eaX
  rw [show ((X.length : Int) - 1).toNat = X.length - 1 from by omega] at hxl
  have HN1 := Aside0.mk hn1
  have HN2 := Aside0.mk hn2
  have HXL := Aside0.mk hxl
  have HLL := Aside0.mk hll
  have HRL := Aside0.mk hrl
  have hw1 : IntKind.i64.wrap ((X.length : Int) - 1) = (X.length : Int) - 1 := IntWalk.i64_in _ (by omega)
  have q0 : (0 ≤ (X.length : Int) - 1) = True := eq_true (by omega)
  have q1 : (1 ≤ (X.length : Int)) = True := eq_true (by omega)
  have q2 : ((X.length : Int) - 1 < (X.length : Int)) = True := eq_true (by omega)
  have q3 : (1 ≤ X.length) = True := eq_true (by omega)
  have q4 : decide (0 ≤ (X.length : Int) - 1) = true := decide_eq_true (by omega)
  have q5 : decide ((X.length : Int) - 1 < (X.length : Int)) = true := decide_eq_true (by omega)
  have q6 : (0 < X.length) = True := eq_true hp
  clear h1 h2 h hB hn1 hn2 hxl hll hrl hX hM cw hp hq
  go_enter Try.func77, Try.ntmps77
  go_wp2_with (first | ((with_reducible refine gate_dst (N := 3) rfl ?_); refine box_event ?hg (N := 3) ?hd (cs := #[.int .i64 x.f0, .int .i64 x.f1, .int .i64 x.f2]) (t := 55) ?hr ?_; (case hd => rfl); (case hg => rfl); (case hr => first | (go_simp; done) | (go_simp; rfl)); intro gx hgx w2 hbox hb2; have HB2 := Aside0.mk (show Below w.heap.size w w2 from HB.out.trans (hb2.mono HB.out.size)); have BK := Aside0.mk hbox; clear HB; have HB := HB2; clear HB2 hb2 hbox hgx))
  have n0_ := Aside0.mk (blk_drew BK.out)
  have n1_ := Aside0.mk (below_drew1 HB.out)
  clear BK HB
  have BK := n0_
  have HB := n1_
  clear n0_ n1_
  refine start_ (n := 13) (S := fun w' => w'.cell? ⟨g1, 0, none⟩ = some (.map (some bm)) ∧ w'.cell? ⟨g2, 0, none⟩ = some (.slice (some aX) X.length cX) ∧ w'.cell? ⟨gx, 0, none⟩ = some (.int .i64 x.f0) ∧ w'.cell? ⟨gx, 1, none⟩ = some (.int .i64 x.f1) ∧ w'.cell? ⟨gx, 2, none⟩ = some (.int .i64 x.f2) ∧ w'.cell? (aX.add (X.length - 1)) = some (.slice Al (rd_L3 X ((X.length : Int) - 1)).length cl) ∧ (Instr.lookup 79 (.map (some bm)) (.int .i64 r) false).run Try.prog w' = .ok (.bool (decide (r ∈ M))) w') (ds := []) #[false, false, false, false, false, false, false, false, false, false, false, false, false] (by kernel_rfl) rfl rfl ⟨(HB.out.cell (World.block_lt_of_cell? w _ HN1.out)).trans HN1.out, (HB.out.cell (World.block_lt_of_cell? w _ HN2.out)).trans HN2.out, (blk_cell BK.out 0).trans rfl, (blk_cell BK.out 1).trans rfl, (blk_cell BK.out 2).trans rfl, (HB.out.cell (World.block_lt_of_cell? w _ HXL.out)).trans HXL.out, (HM.out.below HB.out).lookup impl_GreedyList.mt impl_GreedyList.mk_ impl_GreedyList.me (impl_GreedyList.zeroB _) HW.out⟩ (fun hHeld => ?_)
  generalize w2.drew = w6 at BK HB hHeld ⊢
  refine take_ (i := 0) (N := some 5) (v := ?_) (a' := ?_) #[true, false, false, false, false, false, false, false, false, false, false, false, false] rfl rfl (by kernel_rfl) (fun _ _ _ h => h) (Or.inl ⟨by rfl, ?_⟩) hHeld ?_ ?_
  rotate_left
  · rintro w' ⟨s0, s1, s2, s3, s4, s5, s6⟩
    go_simp
    with_reducible rfl
  rotate_left
  · simp only [Act.put, List.setIfInBounds_toArray, List.set_cons_zero, List.set_cons_succ, i64_w, i32_w]
    rfl
  refine take_ (i := 1) (N := some 6) (v := ?_) (a' := ?_) #[true, true, false, false, false, false, false, false, false, false, false, false, false] rfl rfl (by kernel_rfl) (fun _ _ _ h => h) (Or.inl ⟨by rfl, ?_⟩) hHeld ?_ ?_
  rotate_left
  · rintro w' ⟨s0, s1, s2, s3, s4, s5, s6⟩
    go_simp
    with_reducible rfl
  rotate_left
  · simp only [Act.put, List.setIfInBounds_toArray, List.set_cons_zero, List.set_cons_succ, i64_w, i32_w]
    rfl
  refine take_ (i := 2) (N := some 7) (v := ?_) (a' := ?_) #[true, true, true, false, false, false, false, false, false, false, false, false, false] rfl rfl (by kernel_rfl) (fun _ _ _ h => h) (Or.inl ⟨by rfl, ?_⟩) hHeld ?_ ?_
  rotate_left
  · rintro w' ⟨s0, s1, s2, s3, s4, s5, s6⟩
    go_simp
    with_reducible rfl
  rotate_left
  · simp only [Act.put, List.setIfInBounds_toArray, List.set_cons_zero, List.set_cons_succ, i64_w, i32_w]
    rfl
  refine pure_ (i := 3) (N := some 8) (v := ?_) (a' := ?_) #[true, true, true, true, false, false, false, false, false, false, false, false, false] rfl rfl (by kernel_rfl) (fun _ _ _ h => h) (Or.inl ⟨by rfl, ?_⟩) ?_ ?_
  rotate_left
  · intro w'
    go_simp
    with_reducible rfl
  rotate_left
  · simp only [Act.put, List.setIfInBounds_toArray, List.set_cons_zero, List.set_cons_succ, i64_w, i32_w]
    rfl
  refine pure_ (i := 4) (N := some 9) (v := ?_) (a' := ?_) #[true, true, true, true, true, false, false, false, false, false, false, false, false] rfl rfl (by kernel_rfl) (fun _ _ _ h => h) (Or.inl ⟨by rfl, ?_⟩) ?_ ?_
  rotate_left
  · intro w'
    go_simp
    with_reducible rfl
  rotate_left
  · simp only [Act.put, List.setIfInBounds_toArray, List.set_cons_zero, List.set_cons_succ, i64_w, i32_w]
    rfl
  refine pure_ (i := 5) (N := some 10) (v := ?_) (a' := ?_) #[true, true, true, true, true, true, false, false, false, false, false, false, false] rfl rfl (by kernel_rfl) (fun _ _ _ h => h) (Or.inl ⟨by rfl, ?_⟩) ?_ ?_
  rotate_left
  · intro w'
    go_simp
    with_reducible rfl
  rotate_left
  · simp only [Act.put, List.setIfInBounds_toArray, List.set_cons_zero, List.set_cons_succ, i64_w, i32_w]
    rfl
  refine take_ (i := 6) (N := some 11) (v := ?_) (a' := ?_) #[true, true, true, true, true, true, true, false, false, false, false, false, false] rfl rfl (by kernel_rfl) (fun _ _ _ h => h) (Or.inl ⟨by rfl, ?_⟩) hHeld ?_ ?_
  rotate_left
  · rintro w' ⟨s0, s1, s2, s3, s4, s5, s6⟩
    go_simp
    with_reducible rfl
  rotate_left
  · simp only [Act.put, List.setIfInBounds_toArray, List.set_cons_zero, List.set_cons_succ, i64_w, i32_w]
    rfl
  refine take_ (i := 7) (N := some 12) (v := ?_) (a' := ?_) #[true, true, true, true, true, true, true, true, false, false, false, false, false] rfl rfl (by kernel_rfl) (fun _ _ _ h => h) (Or.inl ⟨by rfl, ?_⟩) hHeld ?_ ?_
  rotate_left
  · rintro w' ⟨s0, s1, s2, s3, s4, s5, s6⟩
    go_simp
    with_reducible rfl
  rotate_left
  · simp only [Act.put, List.setIfInBounds_toArray, List.set_cons_zero, List.set_cons_succ, i64_w, i32_w]
    rfl
  refine one_ (i := 8) (N := some 13) #[true, true, true, true, true, true, true, true, true, false, false, false, false] rfl rfl (by kernel_rfl) (by decide) (fun K hK => ?_)
  refine goes_ Try.func66 (by kernel_rfl) rfl #[.slice Al (rd_L3 X ((X.length : Int) - 1)).length cl, .agg #[.int .i64 x.f0, .int .i64 x.f1, .int .i64 x.f2]] (by rfl) rfl rfl (by simp only [List.map_toArray, List.map_cons, List.map_nil]; rfl) ?_
  with_reducible refine (impl_moved.calls kq Al cl (rd_L3 X ((X.length : Int) - 1)) x.f0 x.f1 x.f2 u _ (Kd.C_below HRL.out HB.out) HLL.out H1.out).mono ?_
  rintro e w7 ⟨v3, rfl, ho0, hb⟩
  refine ⟨_, rfl, ?_⟩
  obtain ⟨A3, c3, rfl⟩ := Kd.R_slice ho0
  have ho1 := Aside0.mk (Kd.R_reads' ho0)
  have n0_ := Aside0.mk (show Below w.heap.size w _ from HB.out.trans (hb.mono HB.out.size))
  have n1_ := Aside0.mk (blk_below BK.out hb)
  have n2_ := Aside0.mk (ho1.out)
  clear HB
  clear BK
  (try clear hb)
  (try clear ho0)
  have HB := n0_
  have BK := n1_
  have HO3 := n2_
  clear n0_ n1_ n2_
  clear ho1
  refine hK.out _ _ ⟨(HB.out.cell (World.block_lt_of_cell? w _ HN1.out)).trans HN1.out, (HB.out.cell (World.block_lt_of_cell? w _ HN2.out)).trans HN2.out, (blk_cell BK.out 0).trans rfl, (blk_cell BK.out 1).trans rfl, (blk_cell BK.out 2).trans rfl, (HB.out.cell (World.block_lt_of_cell? w _ HXL.out)).trans HXL.out, (HM.out.below HB.out).lookup impl_GreedyList.mt impl_GreedyList.mk_ impl_GreedyList.me (impl_GreedyList.zeroB _) HW.out⟩ (fun hHeld => ?_)
  clear hK K
  refine norm_ (a' := ?_) ?_ ?_
  rotate_left
  · show Act.put _ (some 13) _ = _
    simp only [Act.put, List.setIfInBounds_toArray, List.set_cons_zero, List.set_cons_succ, i64_w, i32_w]
    rfl
  refine one_ (i := 9) (N := some 14) #[true, true, true, true, true, true, true, true, true, true, false, false, false] rfl rfl (by kernel_rfl) (by decide) (fun K hK => ?_)
  refine goes_ Try.func78 (by kernel_rfl) rfl #[.slice A3 u.length c3] (by rfl) rfl rfl (by simp only [List.map_toArray, List.map_cons, List.map_nil]; rfl) ?_
  with_reducible refine (impl_permutationRank.calls kq A3 c3 u r _ HO3.out.2.2 HO3.out.2.1 H2.out).mono ?_
  rintro e w8 ⟨rfl, hd⟩
  refine ⟨_, rfl, ?_⟩
  have hb : Below w7.heap.size w7 w8 := by first | exact hd | exact Drawn0.below hd
  clear hd
  have n0_ := Aside0.mk (show Below w.heap.size w _ from HB.out.trans (hb.mono HB.out.size))
  have n1_ := Aside0.mk (blk_below BK.out hb)
  clear HB
  clear BK
  (try clear hb)
  (try clear ho0)
  have HB := n0_
  have BK := n1_
  clear n0_ n1_
  clear HO3
  refine hK.out _ _ ⟨(HB.out.cell (World.block_lt_of_cell? w _ HN1.out)).trans HN1.out, (HB.out.cell (World.block_lt_of_cell? w _ HN2.out)).trans HN2.out, (blk_cell BK.out 0).trans rfl, (blk_cell BK.out 1).trans rfl, (blk_cell BK.out 2).trans rfl, (HB.out.cell (World.block_lt_of_cell? w _ HXL.out)).trans HXL.out, (HM.out.below HB.out).lookup impl_GreedyList.mt impl_GreedyList.mk_ impl_GreedyList.me (impl_GreedyList.zeroB _) HW.out⟩ (fun hHeld => ?_)
  clear hK K
  refine norm_ (a' := ?_) ?_ ?_
  rotate_left
  · show Act.put _ (some 14) _ = _
    simp only [Act.put, List.setIfInBounds_toArray, List.set_cons_zero, List.set_cons_succ, i64_w, i32_w]
    rfl
  refine take_ (i := 10) (N := some 15) (v := ?_) (a' := ?_) #[true, true, true, true, true, true, true, true, true, true, true, false, false] rfl rfl (by kernel_rfl) (fun _ _ _ h => h) (Or.inl ⟨by rfl, ?_⟩) hHeld ?_ ?_
  rotate_left
  · rintro w' ⟨s0, s1, s2, s3, s4, s5, s6⟩
    go_simp
    with_reducible rfl
  rotate_left
  · simp only [Act.put, List.setIfInBounds_toArray, List.set_cons_zero, List.set_cons_succ, i64_w, i32_w]
    rfl
  refine pure_ (i := 11) (N := some 16) (v := ?_) (a' := ?_) #[true, true, true, true, true, true, true, true, true, true, true, true, false] rfl rfl (by kernel_rfl) (fun _ _ _ h => h) (Or.inl ⟨by rfl, ?_⟩) ?_ ?_
  rotate_left
  · intro w'
    go_simp
    with_reducible rfl
  rotate_left
  · simp only [Act.put, List.setIfInBounds_toArray, List.set_cons_zero, List.set_cons_succ, i64_w, i32_w]
    rfl
  refine pure_ (i := 12) (N := some 4) (v := ?_) (a' := ?_) #[true, true, true, true, true, true, true, true, true, true, true, true, true] rfl rfl (by kernel_rfl) (fun _ _ _ h => h) (Or.inl ⟨by rfl, ?_⟩) ?_ ?_
  rotate_left
  · intro w'
    go_simp
    with_reducible rfl
  rotate_left
  · simp only [Act.put, List.setIfInBounds_toArray, List.set_cons_zero, List.set_cons_succ, i64_w, i32_w]
    rfl
  refine done_ (by kernel_rfl) ?_

  try go_wp2
  go_ret
  exact ⟨rfl, HB.out⟩
open Go.Proofs.Ytcplfdfmebibpaa.MapSet in
set_option maxHeartbeats 8000000 in
set_option maxRecDepth 100000 in
theorem impl_GreedyList.calls (k : Nat) (a0 : Int) (A1 : Option Addr) (c1 : Nat) (l1 : List (S55)) (r1 : List (List Int)) (r2 : Bool) (w : World) (hr1 : Kd.C k55 w A1 l1.length l1) (hc1 : l1.length ≤ c1) (h : impl_GreedyList.f k a0 l1 = some (r1, r2)) :
    Calls Try.prog 35 #[.int .i64 a0, .slice A1 l1.length c1] w fun e w' => ∃ v0_ : Value, e = .returned (.tuple #[v0_, .bool r2]) ∧ Kd.S (Kd.slice 3 (Kd.int .i64)) 22 w' w.heap.size (fun _ => True) v0_ r1 ∧ Below w.heap.size w w' := by
  have hu := Try.underlying55
  have HR1 := Aside0.mk hr1
  have HC1 := Aside0.mk hc1
  unfold impl_GreedyList.f at h
  obtain ⟨t1, h1, H⟩ := Option.bind_eq_some_iff.mp h
  have T1 := Aside0.mk h1
  clear h h1 hr1 hc1
  cases t1
  · simp only [Bool.false_eq_true, if_false, Option.some.injEq, Prod.mk.injEq] at H
    obtain ⟨rfl, rfl⟩ := H
    go_enter Try.func35, Try.ntmps35
    go_wp2_with fail
    refine (impl_areMoves.calls k a0 A1 c1 l1 false _ HR1.out HC1.out T1.out).mono ?_
    rintro e w1 ⟨rfl, hb1⟩
    go_wp2
    go_ret2
    exact ⟨_, rfl, Kd.S_nil _ _ _ _ _, hb1⟩
  simp only [if_true] at H
  obtain ⟨s0, h2, H⟩ := Option.bind_eq_some_iff.mp H
  obtain ⟨XX, h3, H⟩ := Option.bind_eq_some_iff.mp H
  simp only [Option.some.injEq, Prod.mk.injEq] at H
  obtain ⟨rfl, rfl⟩ := H
  have T2 := Aside0.mk h2
  have H3 := Aside0.mk h3
  have hmm := @run_makeMap Try.prog
  clear h2 h3
  go_enter Try.func35, Try.ntmps35
  go_wp2_with fail
  refine (impl_areMoves.calls k a0 A1 c1 l1 true _ HR1.out HC1.out T1.out).mono ?_
  rintro e w1 ⟨rfl, hb1⟩
  have HB1 := Aside0.mk hb1
  clear hb1
  go_wp2_with fail
  refine (impl_identity.calls k a0 s0 _ T2.out).mono ?_
  rintro e w3 ⟨v3, rfl, ho3, hb3⟩
  obtain ⟨Af, cf, rfl⟩ := Kd.R_slice ho3
  have HF := Aside0.mk (Kd.R_lower ho3 HB1.out.size)
  have HB := Aside0.mk (HB1.out.trans (hb3.mono HB1.out.size))
  clear ho3 hb3 HB1
  go_wp2_with (first | ((with_reducible refine gate_dst (N := 16) rfl ?_); refine Kd.R_lit (Kd.tag (fun _ => 0) (Kd.slice 3 (Kd.int .i64))) (w0 := w) w.heap.size 22 ?hg (N := 16) ?hd (xs := [(s0, 0)]) (inner := [.slice Af s0.length cf]) (ok := fun _ => True) (okp := fun k_ => some k_ = (.slice Af s0.length cf : Value).ownBlock) ?hr ?hp (fun _ hk => trivial) trivial HB.out HB.out.size (by simp) ?_; (case hd => rfl); (case hg => rfl); (case hr => first | (go_simp; done) | (go_simp; rfl)); (case hp => exact (Reps.one (show Kd.M (Kd.tag (fun _ => 0) (Kd.slice 3 (Kd.int .i64))) _ _ _ (s0, 0) [.slice Af s0.length cf] from ⟨_, rfl, Kd.R_mono (Kd.R_tight rfl HF.out) (fun _ hk => ⟨hk, rfl⟩)⟩) (Reps.none _ _))); intro v4 w4 ho4 hb4 hg4 hnew4; have HF4 := Aside0.mk (Kd.R_grown HF.out hg4 (fun _ _ e => by cases e)); have HO4 := Aside0.mk (show Kd.S (Kd.slice 3 (Kd.int .i64)) 22 w4 w.heap.size (fun _ => True) v4 [s0] from ⟨_, ho4⟩); have HB4 := Aside0.mk hb4; clear HF HB ho4 hb4 hg4 hnew4; obtain ⟨A4, c4, e4⟩ := Kd.R_slice (Kd.S_R HO4.out); subst e4; have HO5 := Aside0.mk (Kd.S_alloc (Kd.S_mono (Kd.S_bound HO4.out) (fun k hk => (hk.2.2.1 : k < w4.heap.size))) (.map #[] 0)); have HM5 := Aside0.mk (MSet.made w4 Try.prog 3 4); have HB5 := Aside0.mk (below_alloc HB4.out (.map #[] 0)); have HG4 := Aside0.mk HB4.out.size; clear HO4 HF4 HB4) | ((with_reducible refine wpList_insert rfl (.tmp 17) (.const (.int .i64 0)) (.const (.bool true)) rfl impl_GreedyList.mt impl_GreedyList.mk_ impl_GreedyList.me rfl HM5.out (by unfold maxLen; decide) 0 (by decide) rfl rfl ?_); intro w5 hm5 hg5; have HM6 := Aside0.mk (show MSet Try.prog 3 4 w5 w4.heap.size [0] from hm5); have HO6 := Aside0.mk (Kd.S_step HO5.out (fun k_ hk h_ => hg5.block k_ h_ (fun e_ => by injection e_ with e_; rw [e_] at hk; exact absurd hk (Nat.lt_irrefl _)))); have HB6 := Aside0.mk (HB5.out.grown hg5 HB5.out.size (fun j hj => by cases hj; exact HG4.out)); clear HM5 HO5 HB5 hm5 hg5) | ((with_reducible refine gate_dst (N := 6) rfl ?_); refine box_event ?hg (N := 6) ?hd (cs := #[.slice none 0 0]) (t := 36) ?hr ?_; (case hd => rfl); (case hg => rfl); (case hr => first | (go_simp; done) | (go_simp; rfl)); intro go hgo w6 hbox hb; have BO6 := Aside0.mk hbox; have HLT := Aside0.mk (show w4.heap.size ≤ go by rw [hgo]; exact Nat.le_of_lt HM6.out.lt); have HGO := Aside0.mk (show w.heap.size ≤ go by rw [hgo]; exact HB6.out.size); have HM7 := Aside0.mk (HM6.out.below hb); have HO7 := Aside0.mk (Kd.S_below HO6.out hb); have HB7 := Aside0.mk (HB6.out.trans (hb.mono HB6.out.size)); have hx6 : w6.cell? ⟨go, 0, none⟩ = some (.slice none 0 0) := (blk_cell hbox 0).trans rfl; have hf6 : w6.frozen? ⟨go, 0, none⟩ = false := blk_frozen hbox 0; clear HM6 HO6 HB6 hbox hb hgo) | ((with_reducible refine gate_dst (N := 7) rfl ?_); refine box_event ?hg (N := 7) ?hd (cs := #[.map none]) (t := 79) ?hr ?_; (case hd => rfl); (case hg => rfl); (case hr => first | (go_simp; done) | (go_simp; rfl)); intro gm hgm w7 hbox hb; have BM7 := Aside0.mk hbox; have HLM := Aside0.mk (show w4.heap.size ≤ gm by rw [hgm]; exact Nat.le_of_lt HM7.out.lt); have BO7 := Aside0.mk (blk_below BO6.out hb); have HGM := Aside0.mk (show w.heap.size ≤ gm by rw [hgm]; exact HB7.out.size); have HM8 := Aside0.mk (HM7.out.below hb); have HO8 := Aside0.mk (Kd.S_below HO7.out hb); have HB8 := Aside0.mk (HB7.out.trans (hb.mono HB7.out.size)); have hx7 : w7.cell? ⟨gm, 0, none⟩ = some (.map none) := (blk_cell hbox 0).trans rfl; have hf7 : w7.frozen? ⟨gm, 0, none⟩ = false := blk_frozen hbox 0; have hx6' : w7.cell? ⟨go, 0, none⟩ = some (.slice none 0 0) := (blk_cell BO7.out 0).trans rfl; have hf6' : w7.frozen? ⟨go, 0, none⟩ = false := blk_frozen BO7.out 0; have HNE := Aside0.mk (blk_ne BO7.out BM7.out (by decide)); clear HM7 HO7 HB7 BO6 hbox hb hgm hx6 hf6) | ((with_reducible refine gate_store (t := 36) (p := 6) rfl ?_); refine store_event (t := 36) (p := 6) (v := ?vo_1) (w1 := (w7.setCell ⟨go, 0, none⟩ (.slice A4 [s0].length c4))) ?hg ?ho ?hn ?hr ?_; (case ho => rfl); (case hg => rfl); (case hn => rfl); (case hr => first | (go_simp; done) | (go_simp; rfl)); intro w8 hw; have BO8 := Aside0.mk (show w8.heap[go]? = some (.cells #[.slice A4 [s0].length c4] 36 (0, 0)) by rw [hw]; exact blk_put BO7.out 0 _ rfl); have BM8 := Aside0.mk (show w8.heap[gm]? = some (.cells #[.map none] 79 (0, 0)) by rw [hw]; exact blk_far BM7.out (Ne.symm HNE.out) _); have HM9 := Aside0.mk (show MSet Try.prog 3 4 w8 w4.heap.size [0] by rw [hw]; exact HM8.out.setCell (HM8.out.block BO7.out) _); have HO9 := Aside0.mk (show Kd.S (Kd.slice 3 (Kd.int .i64)) 22 w8 w.heap.size (fun k_ => k_ < w4.heap.size) (.slice A4 [s0].length c4) [s0] by rw [hw]; exact Kd.S_step HO8.out (fun k_ hk h_ => Below.heap_setCell w7 _ _ k_ (fun e_ => by have h1_ := HLT.out; rw [e_] at hk; exact absurd hk (Nat.not_lt.2 h1_)))); have HB9 := Aside0.mk (show Below w.heap.size w w8 by rw [hw]; exact below_set HB8.out HGO.out); have hx7' : w8.cell? ⟨gm, 0, none⟩ = some (.map none) := (blk_cell BM8.out 0).trans rfl; have hf7' : w8.frozen? ⟨gm, 0, none⟩ = false := blk_frozen BM8.out 0; clear HM8 HO8 HB8 BM7 hx6' hf6' hx7 hf7 hw) | ((with_reducible refine gate_store (t := 79) (p := 7) rfl ?_); refine store_event (t := 79) (p := 7) (v := ?vo_2) (w1 := (w8.setCell ⟨gm, 0, none⟩ (.map (some w4.heap.size)))) ?hg ?ho ?hn ?hr ?_; (case ho => rfl); (case hg => rfl); (case hn => rfl); (case hr => first | (go_simp; done) | (go_simp; rfl)); intro w9 hw; have BO9 := Aside0.mk (show w9.heap[go]? = some (.cells #[.slice A4 [s0].length c4] 36 (0, 0)) by rw [hw]; exact blk_far BO8.out HNE.out _); have HM10 := Aside0.mk (show MSet Try.prog 3 4 w9 w4.heap.size [0] by rw [hw]; exact HM9.out.setCell (HM9.out.block BM8.out) _); have BM9 := Aside0.mk (show w9.heap[gm]? = some (.cells #[.map (some w4.heap.size)] 79 (0, 0)) by rw [hw]; exact blk_put BM8.out 0 _ rfl); have HO10 := Aside0.mk (show Kd.S (Kd.slice 3 (Kd.int .i64)) 22 w9 w.heap.size (fun k_ => k_ ≠ go ∧ k_ ≠ gm ∧ k_ ≠ w4.heap.size) (.slice A4 [s0].length c4) [s0] by rw [hw]; exact Kd.S_mono (Kd.S_step HO9.out (fun k_ hk h_ => Below.heap_setCell w8 _ _ k_ (fun e_ => by have h1_ := HLM.out; rw [e_] at hk; exact absurd hk (Nat.not_lt.2 h1_)))) (fun k_ hk => ⟨fun e_ => by have h1_ := HLT.out; rw [e_] at hk; exact absurd hk (Nat.not_lt.2 h1_), fun e_ => by have h1_ := HLM.out; rw [e_] at hk; exact absurd hk (Nat.not_lt.2 h1_), fun e_ => by rw [e_] at hk; exact absurd hk (Nat.lt_irrefl _)⟩)); have HB10 := Aside0.mk (show Below w.heap.size w w9 by rw [hw]; exact below_set HB9.out HGM.out); clear HM9 HO9 HB9 BO8 BO7 BM8 hx7' hf7' hw))
  clear hmm
  obtain ⟨bm, hbm⟩ : ∃ b_ : Nat, b_ = w4.heap.size := ⟨_, rfl⟩
  rw [← hbm] at HM10 BM9 HO10
  have HGB := Aside0.mk (show w.heap.size ≤ bm by rw [hbm]; exact HG4.out)
  clear hbm HLT HLM HG4
  (try simp only [Act.put, List.setIfInBounds_toArray, List.set_cons_succ, List.set_cons_zero])
  go_loopg [8, 9] k (fun kq v8 v9 w' => ∃ (X : List (List Int)) (M : List Int) (vo : Value), Aside0 (impl_GreedyList.l0 kq l1 X M = some XX) ∧ Aside0 (kq ≤ k) ∧ Aside0 (Kd.S (Kd.slice 3 (Kd.int .i64)) 22 w' w.heap.size (fun k_ => k_ ≠ go ∧ k_ ≠ gm ∧ k_ ≠ bm) vo X) ∧ Aside0 (w'.heap[go]? = some (.cells #[vo] 36 (0, 0))) ∧ Aside0 (w'.heap[gm]? = some (.cells #[.map (some bm)] 79 (0, 0))) ∧ Aside0 (MSet Try.prog 3 4 w' bm M) ∧ Aside0 (Below w.heap.size w w'))
  case atStart => exact ⟨[s0], [0], _, H3, ⟨Nat.le_refl _⟩, HO10, BO9, BM9, HM10, HB10⟩
  case round =>
    clear H3 HO10 BO9 BM9 HM10 HB10
    obtain ⟨X, M, vo, HA, HK1, HO, BO, BM, HM, HB⟩ := hrel
    cases gk with
    | zero => exact absurd HA.out (by simp [impl_GreedyList.l0])
    | succ k1 =>
      have H := HA.out
      clear HA
      simp only [impl_GreedyList.l0] at H
      by_cases hp : 0 < X.length
      rotate_left
      · rw [if_neg hp] at H; cases H
      rw [if_pos hp] at H
      by_cases hq : X.length < 1000000
      rotate_left
      · rw [if_neg hq] at H; cases H
      rw [if_pos hq] at H
      by_cases hml : M.length < 1000000
      rotate_left
      · rw [if_neg hml] at H; cases H
      rw [if_pos hml] at H
      obtain ⟨r, hr, H⟩ := Option.bind_eq_some_iff.mp H
      have HR := Aside0.mk hr
      have HML := Aside0.mk hml
      have HPX := Aside0.mk hp
      have HQX := Aside0.mk hq
      obtain ⟨AX, cX, eX⟩ := Kd.R_slice (Kd.S_R HO.out)
      subst eX
      have hx6 : wr.cell? ⟨go, 0, none⟩ = some (.slice AX X.length cX) := (blk_cell BO.out 0).trans rfl
      clear hr hml hp hq
      by_cases cr : r < 0
      · rw [if_pos cr] at H
        have cb2 : decide (r < 0) = true := decide_eq_true cr
        clear cr
        obtain rfl := Option.some.inj H
        clear H
        go_wp2_with fail
        refine (impl_GreedyList.index (impl_GreedyList.g M (rd_L3 X ((X.length : Int) - 1))) gm go k1 A1 c1 l1 r wr (Kd.C_below HR1.out HB.out) HC1.out (fun kq x t w' hB h => impl_GreedyList.lam M X bm AX cX gm go wr (Kd.R_reads' (Kd.S_R HO.out)).2.2 HPX.out HQX.out ((blk_cell BM.out 0).trans rfl) ((blk_cell BO.out 0).trans rfl) HM.out kq x t w' hB h) HR.out).mono ?_
        rintro e w5 ⟨rfl, hb⟩
        have HB5 := Aside0.mk (HB.out.trans (hb.mono HB.out.size))
        have HO5 := Aside0.mk (Kd.S_below HO.out hb)
        have hx5 : w5.cell? ⟨go, 0, none⟩ = some (.slice AX X.length cX) := (blk_cell (blk_below BO.out hb) 0).trans rfl
        clear hb hx6
        go_wp2
        go_ret2
        exact ⟨_, rfl, Kd.S_mono HO5.out (fun _ _ => trivial), HB5.out⟩
      · rw [if_neg cr] at H
        have cb2 : decide (r < 0) = false := decide_eq_false cr
        by_cases cq : r < (l1.length : Int)
        rotate_left
        · rw [if_neg cq] at H; cases H
        rw [if_pos cq] at H
        obtain ⟨nx, hnx, H⟩ := Option.bind_eq_some_iff.mp H
        obtain ⟨q, hq, H⟩ := Option.bind_eq_some_iff.mp H
        by_cases cw : (Lit.int .i64 q).wf = true
        rotate_left
        · rw [if_neg cw] at H; cases H
        rw [if_pos cw] at H
        have T4 := Aside0.mk hnx
        have T5 := Aside0.mk hq
        have HWQ := Aside0.mk cw
        have H' := Aside0.mk H
        have p2 : 0 ≤ r := by omega
        clear hnx hq cw H
        · go_wp2_with fail
          refine (impl_GreedyList.index (impl_GreedyList.g M (rd_L3 X ((X.length : Int) - 1))) gm go k1 A1 c1 l1 r wr (Kd.C_below HR1.out HB.out) HC1.out (fun kq x t w' hB h => impl_GreedyList.lam M X bm AX cX gm go wr (Kd.R_reads' (Kd.S_R HO.out)).2.2 HPX.out HQX.out ((blk_cell BM.out 0).trans rfl) ((blk_cell BO.out 0).trans rfl) HM.out kq x t w' hB h) HR.out).mono ?_
          rintro e w5 ⟨rfl, hb⟩
          have n0_ := Aside0.mk (HB.out.trans (hb.mono HB.out.size))
          have n1_ := Aside0.mk (Kd.S_below HO.out hb)
          have n2_ := Aside0.mk (blk_below BO.out hb)
          have n3_ := Aside0.mk (blk_below BM.out hb)
          have n4_ := Aside0.mk (HM.out.below hb)
          clear HB HO BO BM HM hb hx6
          have HB := n0_
          have HO := n1_
          have BO := n2_
          have BM := n3_
          have HM := n4_
          clear n0_ n1_ n2_ n3_ n4_
          obtain ⟨aX, Al, cl, eaX, hx4, hle4, hie4⟩ := at_L3 (Kd.R_reads' (Kd.S_R HO.out)).2.2 ((X.length : Int) - 1) (by have := HPX.out; omega) (by omega)
          cases eaX
          rw [show ((X.length : Int) - 1).toNat = X.length - 1 from by omega] at hx4
          have HLE := Aside0.mk hle4
          have HIE := Aside0.mk hie4
          obtain ⟨ad1, ead1, hy0, hy1, hy2⟩ := at_T55 HR1.out r p2 cq
          cases ead1
          replace hy0 := (HB.out.cell (World.block_lt_of_cell? w _ hy0)).trans hy0
          replace hy1 := (HB.out.cell (World.block_lt_of_cell? w _ hy1)).trans hy1
          replace hy2 := (HB.out.cell (World.block_lt_of_cell? w _ hy2)).trans hy2
          have hx3 : w5.cell? ⟨go, 0, none⟩ = some (.slice (some aX) X.length cX) := (blk_cell BO.out 0).trans rfl
          have hw1 : IntKind.i64.wrap ((X.length : Int) - 1) = (X.length : Int) - 1 := IntWalk.i64_in _ (by have := HPX.out; have := HQX.out; omega)
          have pp := eq_true p2
          have pq := eq_true cq
          have q0 : (0 ≤ (X.length : Int) - 1) = True := eq_true (by have := HPX.out; omega)
          have q1 : (1 ≤ (X.length : Int)) = True := eq_true (by have := HPX.out; omega)
          have q2 : ((X.length : Int) - 1 < (X.length : Int)) = True := eq_true (by omega)
          have q3 : (1 ≤ X.length) = True := eq_true (by have := HPX.out; omega)
          have q6 : (0 < X.length) = True := eq_true HPX.out
          clear p2 cq cr hle4 hie4
          go_wp2_with fail
          have n0_ := Aside0.mk (Kd.S_drew HO.out)
          have n1_ := Aside0.mk (below_drew1 HB.out)
          have n2_ := Aside0.mk (Kd.C_drew HIE.out)
          have n3_ := Aside0.mk (blk_drew BO.out)
          have n4_ := Aside0.mk (blk_drew BM.out)
          have n5_ := Aside0.mk (HM.out.drew)
          clear HO HB HIE BO BM HM
          have HO := n0_
          have HB := n1_
          have HIE := n2_
          have BO := n3_
          have BM := n4_
          have HM := n5_
          clear n0_ n1_ n2_ n3_ n4_ n5_
          refine start_ (n := 12) (S := fun w' => w'.cell? ⟨go, 0, none⟩ = some (.slice (some aX) X.length cX) ∧ w'.cell? (aX.add (X.length - 1)) = some (.slice Al (rd_L3 X ((X.length : Int) - 1)).length cl) ∧ w'.cell? (ad1.add (r.toNat * 3)) = some (.int .i64 (rd_T55 l1 r).f0) ∧ w'.cell? ⟨(ad1.add (r.toNat * 3)).block, (ad1.add (r.toNat * 3)).off + 1, none⟩ = some (.int .i64 (rd_T55 l1 r).f1) ∧ w'.cell? ⟨(ad1.add (r.toNat * 3)).block, (ad1.add (r.toNat * 3)).off + 2, none⟩ = some (.int .i64 (rd_T55 l1 r).f2)) (ds := []) #[false, false, false, false, false, false, false, false, false, false, false, false] (by kernel_rfl) rfl rfl ⟨hx3, hx4, hy0, hy1, hy2⟩ (fun hHeld => ?_)
          generalize w5.drew = w6 at HO HB HIE BO BM HM hHeld ⊢
          clear hx3 hx4 hy0 hy1 hy2
          refine pure_ (i := 6) (N := some 31) (v := ?_) (a' := ?_) #[false, false, false, false, false, false, true, false, false, false, false, false] rfl rfl (by kernel_rfl) (fun _ _ _ h => h) (Or.inl ⟨by rfl, ?_⟩) ?_ ?_
          rotate_left
          · intro w'
            go_simp
            with_reducible rfl
          rotate_left
          · simp only [Act.put, List.setIfInBounds_toArray, List.set_cons_zero, List.set_cons_succ, i64_w, i32_w]
            rfl
          refine pure_ (i := 7) (N := some 32) (v := ?_) (a' := ?_) #[false, false, false, false, false, false, true, true, false, false, false, false] rfl rfl (by kernel_rfl) (fun _ _ _ h => h) (Or.inl ⟨by rfl, ?_⟩) ?_ ?_
          rotate_left
          · intro w'
            go_simp
            with_reducible rfl
          rotate_left
          · simp only [Act.put, List.setIfInBounds_toArray, List.set_cons_zero, List.set_cons_succ, i64_w, i32_w]
            rfl
          refine pure_ (i := 8) (N := some 33) (v := ?_) (a' := ?_) #[false, false, false, false, false, false, true, true, true, false, false, false] rfl rfl (by kernel_rfl) (fun _ _ _ h => h) (Or.inl ⟨by rfl, ?_⟩) ?_ ?_
          rotate_left
          · intro w'
            go_simp
            with_reducible rfl
          rotate_left
          · simp only [Act.put, List.setIfInBounds_toArray, List.set_cons_zero, List.set_cons_succ, i64_w, i32_w]
            rfl
          refine take_ (i := 0) (N := some 25) (v := ?_) (a' := ?_) #[true, false, false, false, false, false, true, true, true, false, false, false] rfl rfl (by kernel_rfl) (fun _ _ _ h => h) (Or.inl ⟨by rfl, ?_⟩) hHeld ?_ ?_
          rotate_left
          · rintro w' ⟨s0, s1, s2, s3, s4⟩
            go_simp
            with_reducible rfl
          rotate_left
          · simp only [Act.put, List.setIfInBounds_toArray, List.set_cons_zero, List.set_cons_succ, i64_w, i32_w]
            rfl
          refine take_ (i := 1) (N := some 26) (v := ?_) (a' := ?_) #[true, true, false, false, false, false, true, true, true, false, false, false] rfl rfl (by kernel_rfl) (fun _ _ _ h => h) (Or.inl ⟨by rfl, ?_⟩) hHeld ?_ ?_
          rotate_left
          · rintro w' ⟨s0, s1, s2, s3, s4⟩
            go_simp
            with_reducible rfl
          rotate_left
          · simp only [Act.put, List.setIfInBounds_toArray, List.set_cons_zero, List.set_cons_succ, i64_w, i32_w]
            rfl
          refine pure_ (i := 2) (N := some 27) (v := ?_) (a' := ?_) #[true, true, true, false, false, false, true, true, true, false, false, false] rfl rfl (by kernel_rfl) (fun _ _ _ h => h) (Or.inl ⟨by rfl, ?_⟩) ?_ ?_
          rotate_left
          · intro w'
            go_simp
            with_reducible rfl
          rotate_left
          · simp only [Act.put, List.setIfInBounds_toArray, List.set_cons_zero, List.set_cons_succ, i64_w, i32_w]
            rfl
          refine pure_ (i := 3) (N := some 28) (v := ?_) (a' := ?_) #[true, true, true, true, false, false, true, true, true, false, false, false] rfl rfl (by kernel_rfl) (fun _ _ _ h => h) (Or.inl ⟨by rfl, ?_⟩) ?_ ?_
          rotate_left
          · intro w'
            go_simp
            with_reducible rfl
          rotate_left
          · simp only [Act.put, List.setIfInBounds_toArray, List.set_cons_zero, List.set_cons_succ, i64_w, i32_w]
            rfl
          refine pure_ (i := 4) (N := some 29) (v := ?_) (a' := ?_) #[true, true, true, true, true, false, true, true, true, false, false, false] rfl rfl (by kernel_rfl) (fun _ _ _ h => h) (Or.inl ⟨by rfl, ?_⟩) ?_ ?_
          rotate_left
          · intro w'
            go_simp
            with_reducible rfl
          rotate_left
          · simp only [Act.put, List.setIfInBounds_toArray, List.set_cons_zero, List.set_cons_succ, i64_w, i32_w]
            rfl
          refine take_ (i := 5) (N := some 30) (v := ?_) (a' := ?_) #[true, true, true, true, true, true, true, true, true, false, false, false] rfl rfl (by kernel_rfl) (fun _ _ _ h => h) (Or.inl ⟨by rfl, ?_⟩) hHeld ?_ ?_
          rotate_left
          · rintro w' ⟨s0, s1, s2, s3, s4⟩
            go_simp
            with_reducible rfl
          rotate_left
          · simp only [Act.put, List.setIfInBounds_toArray, List.set_cons_zero, List.set_cons_succ, i64_w, i32_w]
            rfl
          refine take_ (i := 9) (N := some 34) (v := ?_) (a' := ?_) #[true, true, true, true, true, true, true, true, true, true, false, false] rfl rfl (by kernel_rfl) (fun _ _ _ h => h) (Or.inl ⟨by rfl, ?_⟩) hHeld ?_ ?_
          rotate_left
          · rintro w' ⟨s0, s1, s2, s3, s4⟩
            go_simp
            with_reducible rfl
          rotate_left
          · simp only [Act.put, List.setIfInBounds_toArray, List.set_cons_zero, List.set_cons_succ, i64_w, i32_w]
            rfl
          refine one_ (i := 10) (N := some 35) #[true, true, true, true, true, true, true, true, true, true, true, false] rfl rfl (by kernel_rfl) (by decide) (fun K hK => ?_)
          refine goes_ Try.func66 (by kernel_rfl) rfl #[.slice Al (rd_L3 X ((X.length : Int) - 1)).length cl, .agg #[.int .i64 (rd_T55 l1 r).f0, .int .i64 (rd_T55 l1 r).f1, .int .i64 (rd_T55 l1 r).f2]] (by rfl) rfl rfl (by simp only [List.map_toArray, List.map_cons, List.map_nil]; rfl) ?_
          with_reducible refine (impl_moved.calls k1 Al cl (rd_L3 X ((X.length : Int) - 1)) _ _ _ nx _ HIE.out HLE.out T4.out).mono ?_
          rintro e w7 ⟨v7, rfl, ho7, hb⟩
          refine ⟨_, rfl, ?_⟩
          have hs0 := (hb.cell (World.block_lt_of_cell? _ _ (hHeld.1))).trans (hHeld.1)
          have hs1 := (hb.cell (World.block_lt_of_cell? _ _ (hHeld.2.1))).trans (hHeld.2.1)
          have hs2 := (hb.cell (World.block_lt_of_cell? _ _ (hHeld.2.2.1))).trans (hHeld.2.2.1)
          have hs3 := (hb.cell (World.block_lt_of_cell? _ _ (hHeld.2.2.2.1))).trans (hHeld.2.2.2.1)
          have hs4 := (hb.cell (World.block_lt_of_cell? _ _ (hHeld.2.2.2.2))).trans (hHeld.2.2.2.2)
          obtain ⟨An, cn, rfl⟩ := Kd.R_slice ho7
          have HL7 := Aside0.mk (Kd.R_lower ho7 HB.out.size)
          have n0_ := Aside0.mk (Kd.S_elder' HO.out (Kd.R_base ho7) hb)
          have n1_ := Aside0.mk (HB.out.trans (hb.mono HB.out.size))
          have n2_ := Aside0.mk (blk_below BO.out hb)
          have n3_ := Aside0.mk (blk_below BM.out hb)
          have n4_ := Aside0.mk (HM.out.below hb)
          have HS7 := Aside0.mk (⟨hs0, hs1, hs2, hs3, hs4⟩ : _ ∧ _ ∧ _ ∧ _ ∧ _)
          clear HO HB BO BM HM ho7 hb hs0 hs1 hs2 hs3 hs4
          have HO := n0_
          have HB := n1_
          have BO := n2_
          have BM := n3_
          have HM := n4_
          clear n0_ n1_ n2_ n3_ n4_
          refine hK.out _ _ ⟨HS7.out.1, HS7.out.2.1, HS7.out.2.2.1, HS7.out.2.2.2.1, HS7.out.2.2.2.2⟩ (fun hHeld => ?_)
          clear hK K
          refine norm_ (a' := ?_) ?_ ?_
          rotate_left
          · show Act.put _ (some 35) _ = _
            simp only [Act.put, List.setIfInBounds_toArray, List.set_cons_zero, List.set_cons_succ, i64_w, i32_w]
            rfl
          refine pure_ (i := 11) (N := some 9) (v := ?_) (a' := ?_) #[true, true, true, true, true, true, true, true, true, true, true, true] rfl rfl (by kernel_rfl) (fun _ _ _ h => h) (Or.inl ⟨by rfl, ?_⟩) ?_ ?_
          rotate_left
          · intro w'
            go_simp
            with_reducible rfl
          rotate_left
          · simp only [Act.put, List.setIfInBounds_toArray, List.set_cons_zero, List.set_cons_succ, i64_w, i32_w]
            rfl
          refine done_ (by kernel_rfl) ?_

          clear hw1 pp pq q0 q1 q2 q3 q6 HS7 HIE HLE
          go_wp2_with fail
          obtain ⟨w9, hw9⟩ : ∃ w9 : World, w9 = w7 := ⟨_, rfl⟩
          subst hw9
          have n0_ := Aside0.mk (Kd.S_drew HO.out)
          have n1_ := Aside0.mk (below_drew1 HB.out)
          have n2_ := Aside0.mk (blk_drew BO.out)
          have n3_ := Aside0.mk (blk_drew BM.out)
          have n4_ := Aside0.mk (HM.out.drew)
          have n5_ := Aside0.mk (Kd.R_drew HL7.out)
          clear HO HB BO BM HM HL7
          have HO := n0_
          have HB := n1_
          have BO := n2_
          have BM := n3_
          have HM := n4_
          have HL7 := n5_
          clear n0_ n1_ n2_ n3_ n4_ n5_
          refine start_ (n := 4) (S := fun w' => w'.cell? ⟨gm, 0, none⟩ = some (.map (some bm))) (ds := [3]) #[false, false, false, false] (by kernel_rfl) rfl rfl ((blk_cell BM.out 0).trans rfl) (fun hHeld => ?_)
          generalize w9.drew = w10 at HO HB BO BM HM HL7 hHeld ⊢
          refine pure_ (i := 1) (N := some 37) (v := ?_) (a' := ?_) #[false, true, false, false] rfl rfl (by kernel_rfl) (fun _ _ _ h => h) (Or.inl ⟨by rfl, ?_⟩) ?_ ?_
          rotate_left
          · intro w'
            go_simp
            with_reducible rfl
          rotate_left
          · simp only [Act.put, List.setIfInBounds_toArray, List.set_cons_zero, List.set_cons_succ, i64_w, i32_w]
            rfl
          refine take_ (i := 0) (N := some 36) (v := ?_) (a' := ?_) #[true, true, false, false] rfl rfl (by kernel_rfl) (fun _ _ _ h => h) (Or.inl ⟨by rfl, ?_⟩) hHeld ?_ ?_
          rotate_left
          · intro w' s0
            go_simp
            with_reducible rfl
          rotate_left
          · simp only [Act.put, List.setIfInBounds_toArray, List.set_cons_zero, List.set_cons_succ, i64_w, i32_w]
            rfl
          refine one_ (i := 2) (N := some 38) #[true, true, true, false] rfl rfl (by kernel_rfl) (by decide) (fun K hK => ?_)
          refine goes_ Try.func78 (by kernel_rfl) rfl #[.slice An nx.length cn] (by rfl) rfl rfl (by simp only [List.map_toArray, List.map_cons, List.map_nil]; rfl) ?_
          with_reducible refine (impl_permutationRank.calls k1 An cn nx q _ (Kd.R_reads' HL7.out).2.2 (Kd.R_reads' HL7.out).2.1 T5.out).mono ?_
          rintro e w11 ⟨rfl, hd⟩
          refine ⟨_, rfl, ?_⟩
          have hb : Below w10.heap.size w10 w11 := by first | exact hd | exact Drawn0.below hd
          clear hd
          have n0_ := Aside0.mk (Kd.S_below HO.out hb)
          have n1_ := Aside0.mk (HB.out.trans (hb.mono HB.out.size))
          have n2_ := Aside0.mk (blk_below BO.out hb)
          have n3_ := Aside0.mk (blk_below BM.out hb)
          have n4_ := Aside0.mk (HM.out.below hb)
          have n5_ := Aside0.mk (Kd.R_below HL7.out hb)
          clear HO HB BO BM HM HL7 hb
          have HO := n0_
          have HB := n1_
          have BO := n2_
          have BM := n3_
          have HM := n4_
          have HL7 := n5_
          clear n0_ n1_ n2_ n3_ n4_ n5_
          refine hK.out _ _ ((blk_cell BM.out 0).trans rfl) (fun hHeld => ?_)
          clear hK K
          refine norm_ (a' := ?_) ?_ ?_
          rotate_left
          · show Act.put _ (some 38) _ = _
            simp only [Act.put, List.setIfInBounds_toArray, List.set_cons_zero, List.set_cons_succ, i64_w, i32_w]
            rfl
          refine last_ (i := 3) (N := none) #[true, true, true, true] rfl rfl (by kernel_rfl) (by decide) (fun K hK => ?_)
          obtain ⟨w12, hrun, hm12, hg12⟩ := HM.out.store impl_GreedyList.mt impl_GreedyList.mk_ impl_GreedyList.me HWQ.out (by have := HML.out; unfold maxLen; omega)
          refine skip_ (w1 := ?_) (by rfl) rfl ?_ ?_
          rotate_left
          · go_simp
            rfl
          refine hK.out _ _ ?_
          clear hK K
          refine done_ (by kernel_rfl) ?_

          have HM12 := Aside0.mk hm12
          have BO12 := Aside0.mk (blk_grown BO.out hg12 (fun e_ => by injection e_ with e_; exact HM.out.block BO.out e_.symm))
          have BM12 := Aside0.mk (blk_grown BM.out hg12 (fun e_ => by injection e_ with e_; exact HM.out.block BM.out e_.symm))
          have HO12 := Aside0.mk (Kd.S_step HO.out (fun k_ hk h_ => hg12.block k_ h_ (fun e_ => by injection e_ with e_; exact hk.1.2.2 e_)))
          have HL12 := Aside0.mk (Kd.R_step (Kd.R_bound HL7.out) (fun k_ hk h_ => hg12.block k_ h_ (fun e_ => by
            injection e_ with e_
            obtain ⟨_, _, hc_⟩ := hk.2.2.2
            obtain ⟨cells_, hc_⟩ := hc_
            rw [e_] at hc_
            exact HM.out.block hc_ rfl)))
          have HB12 := Aside0.mk (HB.out.grown hg12 HB.out.size (fun j hj => by cases hj; exact HGB.out))
          have hx12 : w12.cell? ⟨go, 0, none⟩ = some (.slice (some aX) X.length cX) := (blk_cell BO12.out 0).trans rfl
          clear HO HB BO BM HM HL7 hrun hm12 hg12
          obtain ⟨Y, hY⟩ : ∃ Y_ : List (List Int), Y_ = X ++ [nx] := ⟨_, rfl⟩
          have NY := Aside0.mk hY
          rw [← hY] at H'
          clear hY
          go_wp2_with (first | ((with_reducible refine gate_builtin (b := .append) (xs := #[.tmp 39, .tmp 41]) rfl ?_); at_builtin; refine Kd.S_append (Kd.slice 3 (Kd.int .i64)) (w0 := w) w.heap.size rfl (.tmp 39) (.tmp 41) 36 22 (.slice none 0 0) 24 rfl Try.underlying36 info22 rfl (by decide) (by omega) (.slice (some aX) X.length cX) X nx [.slice An nx.length cn] (fun k_ => k_ ≠ go ∧ k_ ≠ gm ∧ k_ ≠ bm) (fun k_ => some k_ = (.slice An nx.length cn : Value).ownBlock) rfl rfl ?aP ?aK ?aF ?aO ?aB ?aS ?aL ?_; (case aP => exact Kd.M_row (Kd.R_mono (Kd.R_tight rfl HL12.out) (fun _ hk => hk))); (case aK => exact (fun k_ hk_ => by
            obtain ⟨_, h2_, h3_, q_, hq_, cells_, hc_⟩ := (Kd.R_bound HL12.out).1 k_ hk_.symm
            have ht_ : q_ = 3 := by simpa [show (Kd.int .i64).E = [] from rfl] using hq_
            refine ⟨⟨fun e_ => ?_, fun e_ => ?_, fun e_ => ?_⟩, ((Kd.R_apart' HL12.out (Kd.S_typed HO12.out) (by decide)).1 k_ hk_.symm).2⟩
            · rw [e_] at hc_; exact blk_ne hc_ BO12.out (by rw [ht_]; decide) rfl
            · rw [e_] at hc_; exact blk_ne hc_ BM12.out (by rw [ht_]; decide) rfl
            · rw [e_] at hc_; exact HM12.out.block hc_ rfl)); (case aB => exact HB12.out); (case aF => exact (fun k_ hk => ⟨by have := blk_lt BO12.out; omega, by have := blk_lt BM12.out; omega, by have := HM12.out.lt; omega⟩)); (case aO => exact (Kd.S_mono HO12.out (fun k_ hk => ⟨hk.1, fun e_ => hk.2 e_⟩))); (case aS => exact HB12.out.size); (case aL => have := HQX.out; omega); intro v13 w13 ho13 hb13 hg13 hat13; rw [← NY.out] at ho13; have HO13 := Aside0.mk ho13; have HB13 := Aside0.mk hb13; have BO13 := Aside0.mk (blk_grown BO12.out hg13 (fun e_ => ((Kd.S_R HO12.out).1 go e_.symm).1.1 rfl)); have BM13 := Aside0.mk (blk_grown BM12.out hg13 (fun e_ => ((Kd.S_R HO12.out).1 gm e_.symm).1.2.1 rfl)); have HM13 := Aside0.mk (HM12.out.kept hg13 (fun e_ => ((Kd.S_R HO12.out).1 bm e_.symm).1.2.2 rfl)); obtain ⟨A13, c13, e13⟩ := Kd.R_slice (Kd.S_R HO13.out); subst e13; have hx13 : w13.cell? ⟨go, 0, none⟩ = some (.slice (some aX) X.length cX) := (blk_cell BO13.out 0).trans rfl; have hf13 : w13.frozen? ⟨go, 0, none⟩ = false := blk_frozen BO13.out 0; clear HL12 HO12 HB12 BO12 BM12 HM12 hx12 ho13 hb13 hg13 hat13) | ((with_reducible refine gate_store (t := 36) (p := 6) rfl ?_); refine store_event (t := 36) (p := 6) (v := ?vo_3) (w1 := (w13.setCell ⟨go, 0, none⟩ (.slice A13 Y.length c13))) ?hg ?ho ?hn ?hr ?_; (case ho => rfl); (case hg => rfl); (case hn => rfl); (case hr => first | (go_simp; done) | (go_simp; rfl)); intro w14 hw; have BO14 := Aside0.mk (show w14.heap[go]? = some (.cells #[.slice A13 Y.length c13] 36 (0, 0)) by rw [hw]; exact blk_put BO13.out 0 _ rfl); have BM14 := Aside0.mk (show w14.heap[gm]? = some (.cells #[.map (some bm)] 79 (0, 0)) by rw [hw]; exact blk_far BM13.out (Ne.symm HNE.out) _); have HM14 := Aside0.mk (show MSet Try.prog 3 4 w14 bm _ by rw [hw]; exact HM13.out.setCell (HM13.out.block BO13.out) _); have HO14 := Aside0.mk (show Kd.S (Kd.slice 3 (Kd.int .i64)) 22 w14 w.heap.size (fun k_ => k_ ≠ go ∧ k_ ≠ gm ∧ k_ ≠ bm) (.slice A13 Y.length c13) Y by rw [hw]; exact Kd.S_step HO13.out (fun k_ hk h_ => Below.heap_setCell w13 _ _ k_ hk.1)); have HB14 := Aside0.mk (show Below w.heap.size w w14 by rw [hw]; exact below_set HB13.out HGO.out); clear HO13 HB13 BO13 BM13 HM13 hx13 hf13 hw))
          go_roundg k1
          case measure => have := HK1.out; omega
          case rel => exact ⟨Y, _, _, H', ⟨by have := HK1.out; omega⟩, HO14, BO14, BM14, HM14, HB14⟩

end Go.Proofs.Ytcplfdfmebibpaa.MFnExactGreedyList
