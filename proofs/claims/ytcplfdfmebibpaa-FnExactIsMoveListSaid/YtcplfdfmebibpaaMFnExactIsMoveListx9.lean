/- Functions of the program as Lean functions, each with the proof that its call comes to just that: laid for this claim by this session's own program. -/
import Derived.Test.YtcplfdfmebibpaaMFnExactIsMoveListx0
import Derived.Test.YtcplfdfmebibpaaMFnExactIsMoveListx1
import Derived.Test.YtcplfdfmebibpaaMFnExactIsMoveListx2
import Derived.Test.YtcplfdfmebibpaaMFnExactIsMoveListx6
import Derived.Test.YtcplfdfmebibpaaMFnExactIsMoveListx7
import Derived.Test.YtcplfdfmebibpaaMFnExactIsMoveListx8
namespace Go.Proofs.Ytcplfdfmebibpaa.MFnExactIsMoveList
open Go.RowKit Go.Proofs.YtcplfdfmebibpaaW.PrintWords Go.Proofs.YtcplfdfmebibpaaW.PrintLast Go.Proofs.YtcplfdfmebibpaaW.PrintMore
attribute [local go_sem] max2_int min2_int max_two min_two max_three min_three max_four min_four   -- for this text's walks alone
set_option linter.unusedVariables false
set_option linter.unusedSimpArgs false

/-! ### impl_IsMoveList: function 52 -/
theorem impl_IsMoveList.zeroB (w : World) : (zeroValue 4).run Try.prog w = .ok (.bool false) w := by kernel_rfl
theorem impl_IsMoveList.mt : Try.prog.underlying 79 = some (.map 3 4) := Try.underlying79
theorem impl_IsMoveList.mk_ : Try.prog.underlying 3 = some (.int .i64) := Try.underlying3
theorem impl_IsMoveList.me : Try.prog.underlying 4 = some .bool := Try.underlying4
/-- The ranks met. -/
def impl_IsMoveList.l0 : Nat → List (List Int) → Int → List Int → Option (List Int)
  | 0, _, _, _ => none
  | k + 1, L, i, met => if i < (L.length : Int) then (if 0 ≤ i then ((impl_permutationRank.f k (rd_L3 L i)).bind fun r => (if (Lit.int .i64 r).wf = true then (if met.length < 1000000 then (impl_IsMoveList.l0 k L (wrap64 (i + 1)) (if r ∈ met then met else r :: met)) else none) else none)) else none) else some met
theorem impl_IsMoveList.mono_l : ∀ k L i met, LeO (impl_IsMoveList.l0 k L i met) (impl_IsMoveList.l0 (k + 1) L i met)
  | 0, _, _, _ => fun r h => by simp [impl_IsMoveList.l0] at h
  | k + 1, L, i, met => by
    unfold impl_IsMoveList.l0
    exact LeO.ite (LeO.ite (LeO.bind (impl_permutationRank.mono _ _) (fun _ => LeO.ite (LeO.ite (impl_IsMoveList.mono_l k _ _ _) (LeO.none _)) (LeO.none _))) (LeO.none _)) (LeO.refl _)
def impl_IsMoveList.f (k : Nat) (a0 : Int) (l1 : List (List Int)) (l2 : List (S55)) : Option (Bool × Bool) := (impl_areMoves.f k a0 l2).bind fun t => (if t = true then ((impl_arePermutations.f k a0 l1).bind fun u => (if u = true then ((impl_IsMoveList.l0 k l1 0 []).bind fun met => ((impl_steps.f k l1 l2).bind fun s => (if s.2 = true then ((impl_factorial.f k a0).bind fun q => (if (l1.length : Int) = q then (some (decide (met.length = l1.length), true)) else (some (false, true)))) else (some (false, true))))) else (some (false, false)))) else (some (false, false)))
theorem impl_IsMoveList.mono : ∀ a0 a1 a2 k, LeO (impl_IsMoveList.f k a0 a1 a2) (impl_IsMoveList.f (k + 1) a0 a1 a2) := by
  intro a0 a1 a2 k
  unfold impl_IsMoveList.f
  refine LeO.bind (impl_areMoves.mono _ _ _) (fun _ => LeO.ite (LeO.bind (impl_arePermutations.mono _ _ _) (fun _ => LeO.ite (LeO.bind (impl_IsMoveList.mono_l _ _ _ _) (fun _ => LeO.bind (impl_steps.mono _ _ _) (fun _ => LeO.ite (LeO.bind (impl_factorial.mono _ _) (fun _ => LeO.refl _)) (LeO.refl _)))) (LeO.refl _))) (LeO.refl _))
open Go.Proofs.Ytcplfdfmebibpaa.MapSet in
set_option maxHeartbeats 8000000 in
set_option maxRecDepth 100000 in
theorem impl_IsMoveList.calls (k : Nat) (a0 : Int) (A1 : Option Addr) (c1 : Nat) (l1 : List (List Int)) (A2 : Option Addr) (c2 : Nat) (l2 : List (S55)) (r1 r2 : Bool) (w : World) (hr1 : Kd.C (Kd.slice 3 (Kd.int .i64)) w A1 l1.length l1) (hc1 : l1.length ≤ c1) (hr2 : Kd.C k55 w A2 l2.length l2) (hc2 : l2.length ≤ c2) (h : impl_IsMoveList.f k a0 l1 l2 = some (r1, r2)) :
    Calls Try.prog 52 #[.int .i64 a0, .slice A1 l1.length c1, .slice A2 l2.length c2] w fun e w' => e = .returned (.tuple #[.bool r1, .bool r2]) ∧ Below w.heap.size w w' := by
  have HR1 := Aside0.mk hr1
  have HC1 := Aside0.mk hc1
  have HR2 := Aside0.mk hr2
  have HC2 := Aside0.mk hc2
  unfold impl_IsMoveList.f at h
  obtain ⟨t1, h1, H⟩ := Option.bind_eq_some_iff.mp h
  have T1 := Aside0.mk h1
  clear h h1 hr1 hc1 hr2 hc2
  cases t1
  · simp only [Bool.false_eq_true, if_false, Option.some.injEq, Prod.mk.injEq] at H
    obtain ⟨rfl, rfl⟩ := H
    go_enter Try.func52, Try.ntmps52
    go_wp2_with fail
    refine (impl_areMoves.calls k a0 A2 c2 l2 false _ HR2.out HC2.out T1.out).mono ?_
    rintro e w1 ⟨rfl, hb1⟩
    go_wp2
    go_ret2
    exact ⟨rfl, hb1⟩
  simp only [if_true] at H
  obtain ⟨t2, h2, H⟩ := Option.bind_eq_some_iff.mp H
  have T2 := Aside0.mk h2
  clear h2
  cases t2
  · simp only [Bool.false_eq_true, if_false, Option.some.injEq, Prod.mk.injEq] at H
    obtain ⟨rfl, rfl⟩ := H
    go_enter Try.func52, Try.ntmps52
    go_wp2_with fail
    refine (impl_areMoves.calls k a0 A2 c2 l2 true _ HR2.out HC2.out T1.out).mono ?_
    rintro e w1 ⟨rfl, hb1⟩
    have HB1 := Aside0.mk hb1
    clear hb1
    go_wp2_with fail
    refine (impl_arePermutations.calls k a0 A1 c1 l1 false _ (Kd.C_below HR1.out HB1.out) HC1.out T2.out).mono ?_
    rintro e w2 ⟨rfl, hb2⟩
    have HB2 := Aside0.mk (HB1.out.trans ((by first | exact hb2 | exact Drawn0.below hb2 : Below w1.heap.size w1 w2).mono HB1.out.size))
    clear hb2
    go_wp2
    go_ret2
    exact ⟨rfl, HB2.out⟩
  simp only [if_true] at H
  obtain ⟨met, h3, H⟩ := Option.bind_eq_some_iff.mp H
  obtain ⟨⟨so, sb⟩, h4, H⟩ := Option.bind_eq_some_iff.mp H
  have T4 := Aside0.mk h4
  have H3 := Aside0.mk h3
  have H' := Aside0.mk H
  have hmm := @run_makeMap Try.prog
  clear h3 h4 H
  go_enter Try.func52, Try.ntmps52
  go_wp2_with fail
  refine (impl_areMoves.calls k a0 A2 c2 l2 true _ HR2.out HC2.out T1.out).mono ?_
  rintro e w1 ⟨rfl, hb1⟩
  have HB1 := Aside0.mk hb1
  clear hb1
  go_wp2_with fail
  refine (impl_arePermutations.calls k a0 A1 c1 l1 true _ (Kd.C_below HR1.out HB1.out) HC1.out T2.out).mono ?_
  rintro e w2 ⟨rfl, hb2⟩
  have HB2 := Aside0.mk (HB1.out.trans ((by first | exact hb2 | exact Drawn0.below hb2 : Below w1.heap.size w1 w2).mono HB1.out.size))
  clear hb2 HB1
  go_wp2
  have HM3 := Aside0.mk (MSet.made w2 Try.prog 3 4)
  have HB3 := Aside0.mk (below_alloc HB2.out (.map #[] 0))
  have HG3 := Aside0.mk HB2.out.size
  have hgm : ∃ gm, gm = w2.heap.size := ⟨_, rfl⟩
  clear hmm HB2
  go_loopg [26] k (fun kq v26 w' => ∃ (i : Int) (M : List Int), v26 = .int .i64 i ∧ Aside0 (impl_IsMoveList.l0 kq l1 i M = some met) ∧ Aside0 (kq ≤ k) ∧ Aside0 (MSet Try.prog 3 4 w' w2.heap.size M) ∧ Aside0 (Below w.heap.size w w'))
  case atStart => exact ⟨0, [], rfl, H3, ⟨Nat.le_refl _⟩, HM3, HB3⟩
  case round =>
    clear H3 HM3 HB3 hgm
    obtain ⟨i, M, rfl, HA, HK1, HM, HB⟩ := hrel
    cases gk with
    | zero => exact absurd HA.out (by simp [impl_IsMoveList.l0])
    | succ k1 =>
      have H := HA.out
      clear HA
      simp only [impl_IsMoveList.l0] at H
      by_cases c : i < (l1.length : Int)
      · rw [if_pos c] at H
        have cb : decide (i < (l1.length : Int)) = true := decide_eq_true c
        by_cases p : 0 ≤ i
        rotate_left
        · rw [if_neg p] at H; cases H
        rw [if_pos p] at H
        obtain ⟨r, hr, H⟩ := Option.bind_eq_some_iff.mp H
        have HR := Aside0.mk hr
        clear hr
        by_cases cw : (Lit.int .i64 r).wf = true
        rotate_left
        · rw [if_neg cw] at H; cases H
        rw [if_pos cw] at H
        by_cases cl : M.length < 1000000
        rotate_left
        · rw [if_neg cl] at H; cases H
        rw [if_pos cl] at H
        have HW := Aside0.mk cw
        have HL := Aside0.mk cl
        have Hn := Aside0.mk H
        clear cw cl H
        obtain ⟨ad, Ai, ci, ead, hxe, hle, hie⟩ := at_L3 HR1.out i p c
        cases ead
        have HIE := Aside0.mk hie
        have HLE := Aside0.mk hle
        replace hxe := (HB.out.cell (World.block_lt_of_cell? w _ hxe)).trans hxe
        have pb : (0 ≤ i) = True := eq_true p
        have qb : (i < (l1.length : Int)) = True := eq_true c
        clear p c hle hie
        go_wp2_with fail
        refine (impl_permutationRank.calls k1 Ai ci (rd_L3 l1 i) r _ (Kd.C_below HIE.out HB.out) HLE.out HR.out).mono ?_
        rintro e w5 ⟨rfl, hb⟩
        have hb5 : Below wr.heap.size wr w5 := by first | exact hb | exact Drawn0.below hb
        have HB5 := Aside0.mk (HB.out.trans (hb5.mono HB.out.size))
        have HM5 := Aside0.mk (HM.out.below hb5)
        clear hb hb5 HB HM hxe
        go_wp2_with (first | ((with_reducible refine wpList_store rfl (.tmp 30) (.tmp 32) (.const (.bool true)) rfl impl_IsMoveList.mt impl_IsMoveList.mk_ impl_IsMoveList.me rfl HM5.out ?hn r HW.out rfl rfl ?_); (case hn => have := HL.out; unfold maxLen; omega); intro w6 hm6 hg6; have HM6 := Aside0.mk hm6; have HB6 := Aside0.mk (HB5.out.grown hg6 HB5.out.size (fun j hj => by cases hj; exact HG3.out)); clear hm6 hg6 HM5 HB5))
        go_roundg k1
        case measure => have := HK1.out; omega
        case rel => exact ⟨wrap64 (i + 1), _, rfl, Hn, ⟨by have := HK1.out; omega⟩, HM6, HB6⟩
      · rw [if_neg c] at H
        have cb : decide (i < (l1.length : Int)) = false := decide_eq_false c
        clear c
        obtain rfl := Option.some.inj H
        have H2 := H'.out
        clear H H'
        try simp only at H2
        go_wp2_with fail
        refine (impl_steps.calls k A1 c1 l1 A2 c2 l2 so sb _ (Kd.C_below HR1.out HB.out) HC1.out (Kd.C_below HR2.out HB.out) HC2.out T4.out).mono ?_
        rintro e w6 ⟨v6, rfl, ho6, hb6⟩
        have HB6 := Aside0.mk (HB.out.trans (hb6.mono HB.out.size))
        have HM6 := Aside0.mk (HM.out.below hb6)
        clear ho6 hb6 HB HM
        cases sb
        · simp only [Bool.false_eq_true, if_false, Option.some.injEq, Prod.mk.injEq] at H2
          obtain ⟨rfl, rfl⟩ := H2
          go_wp2
          go_ret2
          exact ⟨rfl, HB6.out⟩
        · simp only [if_true] at H2
          obtain ⟨q, hq, H2⟩ := Option.bind_eq_some_iff.mp H2
          have HQ := Aside0.mk hq
          clear hq
          by_cases ce : (l1.length : Int) = q
          · rw [if_pos ce] at H2
            simp only [Option.some.injEq, Prod.mk.injEq] at H2
            obtain ⟨rfl, rfl⟩ := H2
            have ce1 : ((l1.length : Int) == q) = true := beq_iff_eq.mpr ce
            have ce2 : ((M.length : Int) == (l1.length : Int)) = decide (M.length = l1.length) := by
              by_cases h_ : M.length = l1.length
              · simp [h_]
              · simp [h_]; omega
            clear ce
            go_wp2_with fail
            refine (impl_factorial.calls k a0 q _ HQ.out).mono ?_
            rintro e w7 ⟨rfl, hb7⟩
            have hb7' : Below w6.heap.size w6 w7 := by first | exact hb7 | exact Drawn0.below hb7 | (obtain ⟨n, rfl⟩ := hb7; exact pw_below_drewN (Below.refl _ _) n)
            have HB7 := Aside0.mk (HB6.out.trans (hb7'.mono HB6.out.size))
            have HM7 := Aside0.mk (HM6.out.below hb7')
            clear hb7 hb7' HB6 HM6
            go_wp2_with (first | ((try (refine gate_guard (by rfl) ?_; dsimp only)); (with_reducible refine wpList_len rfl (.tmp 49) rfl impl_IsMoveList.mt rfl HM7.out ?_)))
            go_ret2
            exact ⟨by first | rfl | simp, HB7.out⟩
          · rw [if_neg ce] at H2
            simp only [Option.some.injEq, Prod.mk.injEq] at H2
            obtain ⟨rfl, rfl⟩ := H2
            have ce1 : ((l1.length : Int) == q) = false := beq_eq_false_iff_ne.mpr ce
            clear ce
            go_wp2_with fail
            refine (impl_factorial.calls k a0 q _ HQ.out).mono ?_
            rintro e w7 ⟨rfl, hb7⟩
            have hb7' : Below w6.heap.size w6 w7 := by first | exact hb7 | exact Drawn0.below hb7 | (obtain ⟨n, rfl⟩ := hb7; exact pw_below_drewN (Below.refl _ _) n)
            have HB7 := Aside0.mk (HB6.out.trans (hb7'.mono HB6.out.size))
            clear hb7 hb7' HB6 HM6
            go_wp2
            go_ret2
            exact ⟨rfl, HB7.out⟩

/-! ### laws_FnExactIsMoveList: function 14 -/
def laws_FnExactIsMoveList.j0 : Nat → List (List Int) → List (S53) → List (List Int) → List (S55) → Bool → Option (Bool)
  | 0, _, _, _, _, _ => none
  | k + 1, x1, x2, x10, x11, x51 => if x51 = true then (some false) else ((laws_toIntSS.f k x1).bind fun t239 => ((laws_eqIntSS.f k x10 t239).bind fun t242 => (if t242 = true then ((laws_toMoveS.f k x2).bind fun t243 => ((laws_eqMoveS.f k x11 t243).bind fun t246 => (if t246 = true then (some true) else (some false)))) else (some false))))
def laws_FnExactIsMoveList.f (k : Nat) (a0 : Int) (l1 : List (List Int)) (l2 : List (S53)) : Option (Bool) := (laws_szIntSS.f k l1 1048576).bind fun t221 => (if t221 < 0 then (some true) else ((laws_szMoveS.f l2 t221).bind fun t222 => (if t222 < 0 then (some true) else ((laws_toIntSS.f k l1).bind fun t223 => ((laws_toMoveS.f k l2).bind fun t226 => ((spec_IsMoveList.f k a0 t223 t226).bind fun bt229 => ((laws_toIntSS.f k l1).bind fun t231 => ((laws_toMoveS.f k l2).bind fun t234 => ((impl_IsMoveList.f k a0 t231 t234).bind fun bt237 => (if (bt237.1 != bt229.1) = true then (laws_FnExactIsMoveList.j0 k l1 l2 t231 t234 true) else (laws_FnExactIsMoveList.j0 k l1 l2 t231 t234 (bt237.2 != bt229.2))))))))))))
theorem laws_FnExactIsMoveList.mono_l : ∀ k, (∀ y0 y1 y2 y3 y4, LeO (laws_FnExactIsMoveList.j0 k y0 y1 y2 y3 y4) (laws_FnExactIsMoveList.j0 (k + 1) y0 y1 y2 y3 y4))
  | 0 => fun _ _ _ _ _ r h => by simp [laws_FnExactIsMoveList.j0] at h
  | k + 1 => by
    have ih0 := laws_FnExactIsMoveList.mono_l k
    · intro y0 y1 y2 y3 y4
      unfold laws_FnExactIsMoveList.j0
      repeat' first
      | (with_reducible exact ih0 _ _ _ _ _)
      | (with_reducible exact impl_IsMoveList.mono _ _ _ _)
      | (with_reducible exact laws_eqIntSS.mono _ _ _)
      | (with_reducible exact laws_eqMoveS.mono _ _ _)
      | (with_reducible exact laws_szIntSS.mono _ _ _)
      | (with_reducible exact laws_toIntSS.mono _ _)
      | (with_reducible exact laws_toMoveS.mono _ _)
      | (with_reducible exact spec_IsMoveList.mono _ _ _ _)
      | (with_reducible exact LeO.refl _)
      | (with_reducible exact LeO.none _)
      | (with_reducible refine LeO.ite ?_ ?_)
      | (with_reducible refine LeO.bind ?_ (fun _ => ?_))
      | exact ih0 _ _ _ _ _
      | exact impl_IsMoveList.mono _ _ _ _
      | exact laws_eqIntSS.mono _ _ _
      | exact laws_eqMoveS.mono _ _ _
      | exact laws_szIntSS.mono _ _ _
      | exact laws_toIntSS.mono _ _
      | exact laws_toMoveS.mono _ _
      | exact spec_IsMoveList.mono _ _ _ _
      | exact LeO.none _
      | refine LeO.ite ?_ ?_
      | refine LeO.bind ?_ (fun _ => ?_)
theorem laws_FnExactIsMoveList.mono : ∀ a0 a1 a2 k, LeO (laws_FnExactIsMoveList.f k a0 a1 a2) (laws_FnExactIsMoveList.f (k + 1) a0 a1 a2) := by
  intro a0 a1 a2 k
  have ih0 := laws_FnExactIsMoveList.mono_l k
  unfold laws_FnExactIsMoveList.f
  repeat' first
      | (with_reducible exact ih0 _ _ _ _ _)
      | (with_reducible exact impl_IsMoveList.mono _ _ _ _)
      | (with_reducible exact laws_eqIntSS.mono _ _ _)
      | (with_reducible exact laws_eqMoveS.mono _ _ _)
      | (with_reducible exact laws_szIntSS.mono _ _ _)
      | (with_reducible exact laws_toIntSS.mono _ _)
      | (with_reducible exact laws_toMoveS.mono _ _)
      | (with_reducible exact spec_IsMoveList.mono _ _ _ _)
      | (with_reducible exact LeO.refl _)
      | (with_reducible exact LeO.none _)
      | (with_reducible refine LeO.ite ?_ ?_)
      | (with_reducible refine LeO.bind ?_ (fun _ => ?_))
      | exact ih0 _ _ _ _ _
      | exact impl_IsMoveList.mono _ _ _ _
      | exact laws_eqIntSS.mono _ _ _
      | exact laws_eqMoveS.mono _ _ _
      | exact laws_szIntSS.mono _ _ _
      | exact laws_toIntSS.mono _ _
      | exact laws_toMoveS.mono _ _
      | exact spec_IsMoveList.mono _ _ _ _
      | exact LeO.none _
      | refine LeO.ite ?_ ?_
      | refine LeO.bind ?_ (fun _ => ?_)
set_option maxHeartbeats 8000000 in
set_option maxRecDepth 100000 in
theorem laws_FnExactIsMoveList.calls (k : Nat) (a0 : Int) (A1 : Option Addr) (c1 : Nat) (l1 : List (List Int)) (A2 : Option Addr) (c2 : Nat) (l2 : List (S53)) (r : Bool) (w : World) (hr1 : Kd.C (Kd.slice 3 (Kd.int .i64)) w A1 l1.length l1) (hc1 : l1.length ≤ c1) (hr2 : Kd.C k53 w A2 l2.length l2) (hc2 : l2.length ≤ c2) (h : laws_FnExactIsMoveList.f k a0 l1 l2 = some r) :
    Calls Try.prog 14 #[.int .i64 a0, .slice A1 l1.length c1, .slice A2 l2.length c2] w fun e w' => e = .returned (.bool r) ∧ Below w.heap.size w w' := by
  have HR1 := Aside0.mk hr1
  have HC1 := Aside0.mk hc1
  clear hr1 hc1
  have HR2 := Aside0.mk hr2
  have HC2 := Aside0.mk hc2
  clear hr2 hc2
  have HB := Aside0.mk (Below.refl w.heap.size w)
  have H : ((laws_szIntSS.f k l1 1048576).bind fun t221 => (if t221 < 0 then (some true) else ((laws_szMoveS.f l2 t221).bind fun t222 => (if t222 < 0 then (some true) else ((laws_toIntSS.f k l1).bind fun t223 => ((laws_toMoveS.f k l2).bind fun t226 => ((spec_IsMoveList.f k a0 t223 t226).bind fun bt229 => ((laws_toIntSS.f k l1).bind fun t231 => ((laws_toMoveS.f k l2).bind fun t234 => ((impl_IsMoveList.f k a0 t231 t234).bind fun bt237 => (if (bt237.1 != bt229.1) = true then (laws_FnExactIsMoveList.j0 k l1 l2 t231 t234 true) else (laws_FnExactIsMoveList.j0 k l1 l2 t231 t234 (bt237.2 != bt229.2))))))))))))) = some r := h
  clear h
  replace H := Option.bind_eq_some_iff.mp H
  obtain ⟨t221, A40, H⟩ := H
  replace H : (if t221 < 0 then (some true) else ((laws_szMoveS.f l2 t221).bind fun t222 => (if t222 < 0 then (some true) else ((laws_toIntSS.f k l1).bind fun t223 => ((laws_toMoveS.f k l2).bind fun t226 => ((spec_IsMoveList.f k a0 t223 t226).bind fun bt229 => ((laws_toIntSS.f k l1).bind fun t231 => ((laws_toMoveS.f k l2).bind fun t234 => ((impl_IsMoveList.f k a0 t231 t234).bind fun bt237 => (if (bt237.1 != bt229.1) = true then (laws_FnExactIsMoveList.j0 k l1 l2 t231 t234 true) else (laws_FnExactIsMoveList.j0 k l1 l2 t231 t234 (bt237.2 != bt229.2)))))))))))) = some r := H
  have A4 := Aside0.mk A40
  clear A40
  by_cases c5 : t221 < 0
  · rw [if_pos c5] at H
    have c5b0 : decide (t221 < 0) = true := decide_eq_true c5
    clear c5
    obtain rfl := Option.some.inj H
    go_enter Try.func14, Try.ntmps14
    go_wp2_with (first | ((with_reducible refine gate_callee (f := 47) rfl ?_); refine goesL_ (some 16) rfl rfl Try.func47 (by kernel_rfl) rfl #[.slice A1 l1.length c1, .int .i64 1048576] rfl (by (try simp only [List.map_toArray, List.map_cons, List.map_nil]); first | done | rfl | (simp only [List.length_drop, List.length_take]; rfl)) ?_; (with_reducible refine (laws_szIntSS.calls k _ _ l1 1048576 t221 _ ?side1 ?side2 A4.out).mono ?_); (case side1 => repeat (first | exact HR1.out | (with_reducible refine Kd.C_alloc ?_ _) | (with_reducible refine Kd.C_drewN ?_ _) | (with_reducible refine Kd.C_drew ?_))); (case side2 => exact HC1.out); rintro e w' ⟨rfl, ⟨nd, rfl⟩⟩; refine ⟨_, rfl, ?_⟩))
    go_ret
    exact ⟨by first | rfl | (simp [errW_none, errW_some] <;> rfl) | (simp [*, errW_none, errW_some] <;> rfl), by repeat (first | (with_reducible first | exact HB.out | apply below_alloc | apply pw_below_drewN | apply below_drew1) | exact HB.out)⟩
  · rw [if_neg c5] at H
    have c5b0 : decide (t221 < 0) = false := decide_eq_false c5
    clear c5
    replace H := Option.bind_eq_some_iff.mp H
    obtain ⟨t222, A60, H⟩ := H
    replace H : (if t222 < 0 then (some true) else ((laws_toIntSS.f k l1).bind fun t223 => ((laws_toMoveS.f k l2).bind fun t226 => ((spec_IsMoveList.f k a0 t223 t226).bind fun bt229 => ((laws_toIntSS.f k l1).bind fun t231 => ((laws_toMoveS.f k l2).bind fun t234 => ((impl_IsMoveList.f k a0 t231 t234).bind fun bt237 => (if (bt237.1 != bt229.1) = true then (laws_FnExactIsMoveList.j0 k l1 l2 t231 t234 true) else (laws_FnExactIsMoveList.j0 k l1 l2 t231 t234 (bt237.2 != bt229.2)))))))))) = some r := H
    have A6 := Aside0.mk A60
    clear A60
    by_cases c7 : t222 < 0
    · rw [if_pos c7] at H
      have c7b0 : decide (t222 < 0) = true := decide_eq_true c7
      clear c7
      obtain rfl := Option.some.inj H
      go_enter Try.func14, Try.ntmps14
      go_wp2_with (first | ((with_reducible refine gate_callee (f := 47) rfl ?_); refine goesL_ (some 16) rfl rfl Try.func47 (by kernel_rfl) rfl #[.slice A1 l1.length c1, .int .i64 1048576] rfl (by (try simp only [List.map_toArray, List.map_cons, List.map_nil]); first | done | rfl | (simp only [List.length_drop, List.length_take]; rfl)) ?_; (with_reducible refine (laws_szIntSS.calls k _ _ l1 1048576 t221 _ ?side1 ?side2 A4.out).mono ?_); (case side1 => repeat (first | exact HR1.out | (with_reducible refine Kd.C_alloc ?_ _) | (with_reducible refine Kd.C_drewN ?_ _) | (with_reducible refine Kd.C_drew ?_))); (case side2 => exact HC1.out); rintro e w' ⟨rfl, ⟨nd, rfl⟩⟩; refine ⟨_, rfl, ?_⟩) | ((with_reducible refine gate_callee (f := 20) rfl ?_); refine goesL_ (some 21) rfl rfl Try.func20 (by kernel_rfl) rfl #[.slice A2 l2.length c2, .int .i64 t221] rfl (by (try simp only [List.map_toArray, List.map_cons, List.map_nil]); first | done | rfl | (simp only [List.length_drop, List.length_take]; rfl)) ?_; (with_reducible refine (laws_szMoveS.calls _ _ l2 t221 t222 _ ?side1 ?side2 A6.out).mono ?_); (case side1 => repeat (first | exact HR2.out | (with_reducible refine Kd.C_alloc ?_ _) | (with_reducible refine Kd.C_drewN ?_ _) | (with_reducible refine Kd.C_drew ?_))); (case side2 => exact HC2.out); rintro e w' ⟨rfl, ⟨nd, rfl⟩⟩; refine ⟨_, rfl, ?_⟩))
      go_ret
      exact ⟨by first | rfl | (simp [errW_none, errW_some] <;> rfl) | (simp [*, errW_none, errW_some] <;> rfl), by repeat (first | (with_reducible first | exact HB.out | apply below_alloc | apply pw_below_drewN | apply below_drew1) | exact HB.out)⟩
    · rw [if_neg c7] at H
      have c7b0 : decide (t222 < 0) = false := decide_eq_false c7
      clear c7
      replace H := Option.bind_eq_some_iff.mp H
      obtain ⟨t223, A80, H⟩ := H
      replace H : ((laws_toMoveS.f k l2).bind fun t226 => ((spec_IsMoveList.f k a0 t223 t226).bind fun bt229 => ((laws_toIntSS.f k l1).bind fun t231 => ((laws_toMoveS.f k l2).bind fun t234 => ((impl_IsMoveList.f k a0 t231 t234).bind fun bt237 => (if (bt237.1 != bt229.1) = true then (laws_FnExactIsMoveList.j0 k l1 l2 t231 t234 true) else (laws_FnExactIsMoveList.j0 k l1 l2 t231 t234 (bt237.2 != bt229.2)))))))) = some r := H
      have A8 := Aside0.mk A80
      clear A80
      replace H := Option.bind_eq_some_iff.mp H
      obtain ⟨t226, A90, H⟩ := H
      replace H : ((spec_IsMoveList.f k a0 t223 t226).bind fun bt229 => ((laws_toIntSS.f k l1).bind fun t231 => ((laws_toMoveS.f k l2).bind fun t234 => ((impl_IsMoveList.f k a0 t231 t234).bind fun bt237 => (if (bt237.1 != bt229.1) = true then (laws_FnExactIsMoveList.j0 k l1 l2 t231 t234 true) else (laws_FnExactIsMoveList.j0 k l1 l2 t231 t234 (bt237.2 != bt229.2))))))) = some r := H
      have A9 := Aside0.mk A90
      clear A90
      replace H := Option.bind_eq_some_iff.mp H
      obtain ⟨⟨t229, t230⟩, A100, H⟩ := H
      replace H : ((laws_toIntSS.f k l1).bind fun t231 => ((laws_toMoveS.f k l2).bind fun t234 => ((impl_IsMoveList.f k a0 t231 t234).bind fun bt237 => (if (bt237.1 != t229) = true then (laws_FnExactIsMoveList.j0 k l1 l2 t231 t234 true) else (laws_FnExactIsMoveList.j0 k l1 l2 t231 t234 (bt237.2 != t230)))))) = some r := H
      have A10 := Aside0.mk A100
      clear A100
      replace H := Option.bind_eq_some_iff.mp H
      obtain ⟨t231, A110, H⟩ := H
      replace H : ((laws_toMoveS.f k l2).bind fun t234 => ((impl_IsMoveList.f k a0 t231 t234).bind fun bt237 => (if (bt237.1 != t229) = true then (laws_FnExactIsMoveList.j0 k l1 l2 t231 t234 true) else (laws_FnExactIsMoveList.j0 k l1 l2 t231 t234 (bt237.2 != t230))))) = some r := H
      have A11 := Aside0.mk A110
      clear A110
      replace H := Option.bind_eq_some_iff.mp H
      obtain ⟨t234, A120, H⟩ := H
      replace H : ((impl_IsMoveList.f k a0 t231 t234).bind fun bt237 => (if (bt237.1 != t229) = true then (laws_FnExactIsMoveList.j0 k l1 l2 t231 t234 true) else (laws_FnExactIsMoveList.j0 k l1 l2 t231 t234 (bt237.2 != t230)))) = some r := H
      have A12 := Aside0.mk A120
      clear A120
      replace H := Option.bind_eq_some_iff.mp H
      obtain ⟨⟨t237, t238⟩, A130, H⟩ := H
      replace H : (if (t237 != t229) = true then (laws_FnExactIsMoveList.j0 k l1 l2 t231 t234 true) else (laws_FnExactIsMoveList.j0 k l1 l2 t231 t234 (t238 != t230))) = some r := H
      have A13 := Aside0.mk A130
      clear A130
      have HC14 := Aside0.mk H
      clear H
      go_enter Try.func14, Try.ntmps14
      go_upto_region 12 with (first | ((with_reducible refine gate_callee (f := 47) rfl ?_); refine goesL_ (some 16) rfl rfl Try.func47 (by kernel_rfl) rfl #[.slice A1 l1.length c1, .int .i64 1048576] rfl (by (try simp only [List.map_toArray, List.map_cons, List.map_nil]); first | done | rfl | (simp only [List.length_drop, List.length_take]; rfl)) ?_; (with_reducible refine (laws_szIntSS.calls k _ _ l1 1048576 t221 _ ?side1 ?side2 A4.out).mono ?_); (case side1 => repeat (first | exact HR1.out | (with_reducible refine Kd.C_alloc ?_ _) | (with_reducible refine Kd.C_drewN ?_ _) | (with_reducible refine Kd.C_drew ?_))); (case side2 => exact HC1.out); rintro e w' ⟨rfl, ⟨nd, rfl⟩⟩; refine ⟨_, rfl, ?_⟩) | ((with_reducible refine gate_callee (f := 20) rfl ?_); refine goesL_ (some 21) rfl rfl Try.func20 (by kernel_rfl) rfl #[.slice A2 l2.length c2, .int .i64 t221] rfl (by (try simp only [List.map_toArray, List.map_cons, List.map_nil]); first | done | rfl | (simp only [List.length_drop, List.length_take]; rfl)) ?_; (with_reducible refine (laws_szMoveS.calls _ _ l2 t221 t222 _ ?side1 ?side2 A6.out).mono ?_); (case side1 => repeat (first | exact HR2.out | (with_reducible refine Kd.C_alloc ?_ _) | (with_reducible refine Kd.C_drewN ?_ _) | (with_reducible refine Kd.C_drew ?_))); (case side2 => exact HC2.out); rintro e w' ⟨rfl, ⟨nd, rfl⟩⟩; refine ⟨_, rfl, ?_⟩) | ((with_reducible refine gate_callee (f := 49) rfl ?_); refine goesL_ (some 27) rfl rfl Try.func49 (by kernel_rfl) rfl #[.slice A1 l1.length c1] rfl (by (try simp only [List.map_toArray, List.map_cons, List.map_nil]); first | done | rfl | (simp only [List.length_drop, List.length_take]; rfl)) ?_; (with_reducible refine (laws_toIntSS.calls k _ _ l1 t223 _ ?side1 ?side2 A8.out).mono ?_); (case side1 => repeat (first | exact HR1.out | (with_reducible refine Kd.C_alloc ?_ _) | (with_reducible refine Kd.C_drewN ?_ _) | (with_reducible refine Kd.C_drew ?_))); (case side2 => exact HC1.out); rintro e w15 ⟨v224, rfl, ho0, hb⟩; refine ⟨_, rfl, ?_⟩; have n0_ := Aside0.mk (Kd.S_lower ho0 (below_size (by repeat (first | (with_reducible first | exact HB.out | apply below_alloc | apply pw_below_drewN | apply below_drew1) | exact HB.out)))); have n1_ := Aside0.mk (below_step (by repeat (first | (with_reducible first | exact HB.out | apply below_alloc | apply pw_below_drewN | apply below_drew1) | exact HB.out)) hb); clear HB; have HO225 := n0_; have HB := n1_; clear n0_ n1_; (try clear hb); (try clear hb2); (try clear hk); (try clear hi); (try clear ho0)) | ((with_reducible refine gate_callee (f := 22) rfl ?_); refine goesL_ (some 29) rfl rfl Try.func22 (by kernel_rfl) rfl #[.slice A2 l2.length c2] rfl (by (try simp only [List.map_toArray, List.map_cons, List.map_nil]); first | done | rfl | (simp only [List.length_drop, List.length_take]; rfl)) ?_; (with_reducible refine (laws_toMoveS.calls k _ _ l2 t226 _ ?side1 ?side2 A9.out).mono ?_); (case side1 => repeat (first | exact (Kd.C_below HR2.out HB.out) | (with_reducible refine Kd.C_alloc ?_ _) | (with_reducible refine Kd.C_drewN ?_ _) | (with_reducible refine Kd.C_drew ?_))); (case side2 => exact HC2.out); rintro e w16 ⟨v227, rfl, ho0, hb⟩; refine ⟨_, rfl, ?_⟩; have n0_ := Aside0.mk (Kd.S_below (by (with_reducible repeat (first | apply Kd.S_alloc | apply Kd.S_drewN | apply Kd.S_drew)); exact HO225.out) hb); have n1_ := Aside0.mk (Kd.R_lower ho0 (below_size (by repeat (first | (with_reducible first | exact HB.out | apply below_alloc | apply pw_below_drewN | apply below_drew1) | exact HB.out)))); have n2_ := Aside0.mk (below_step (by repeat (first | (with_reducible first | exact HB.out | apply below_alloc | apply pw_below_drewN | apply below_drew1) | exact HB.out)) hb); clear HO225; clear HB; have HO225 := n0_; have HO228 := n1_; have HB := n2_; clear n0_ n1_ n2_; (try clear hb); (try clear hb2); (try clear hk); (try clear hi); (try clear ho0); obtain ⟨Ao17, co17, eo17⟩ := Kd.S_slice HO225.out; subst eo17; obtain ⟨Ao18, co18, eo18⟩ := Kd.R_slice HO228.out; subst eo18) | ((with_reducible refine gate_callee (f := 51) rfl ?_); refine goesL_ (some 30) rfl rfl Try.func51 (by kernel_rfl) rfl #[.int .i64 a0, .slice Ao17 t223.length co17, .slice Ao18 t226.length co18] rfl (by (try simp only [List.map_toArray, List.map_cons, List.map_nil]); first | done | rfl | (simp only [List.length_drop, List.length_take]; rfl)) ?_; (with_reducible refine (spec_IsMoveList.calls k a0 _ _ t223 _ _ t226 t229 t230 _ ?side1 ?side2 ?side3 ?side4 A10.out).mono ?_); (case side1 => repeat (first | exact (Kd.S_reads' HO225.out).2.2 | (with_reducible refine Kd.C_alloc ?_ _) | (with_reducible refine Kd.C_drewN ?_ _) | (with_reducible refine Kd.C_drew ?_))); (case side2 => exact (Kd.S_reads' HO225.out).2.1); (case side3 => repeat (first | exact (Kd.R_reads' HO228.out).2.2 | (with_reducible refine Kd.C_alloc ?_ _) | (with_reducible refine Kd.C_drewN ?_ _) | (with_reducible refine Kd.C_drew ?_))); (case side4 => exact (Kd.R_reads' HO228.out).2.1); rintro e w19 ⟨rfl, hb⟩; refine ⟨_, rfl, ?_⟩; have n0_ := Aside0.mk (Kd.S_below (by (with_reducible repeat (first | apply Kd.S_alloc | apply Kd.S_drewN | apply Kd.S_drew)); exact HO225.out) hb); have n1_ := Aside0.mk (Kd.R_below (by (with_reducible repeat (first | apply Kd.R_alloc | apply Kd.R_drewN | apply Kd.R_drew)); exact HO228.out) hb); have n2_ := Aside0.mk (below_step (by repeat (first | (with_reducible first | exact HB.out | apply below_alloc | apply pw_below_drewN | apply below_drew1) | exact HB.out)) hb); clear HO225; clear HO228; clear HB; have HO225 := n0_; have HO228 := n1_; have HB := n2_; clear n0_ n1_ n2_; (try clear hb); (try clear hb2); (try clear hk); (try clear hi)) | ((with_reducible refine gate_callee (f := 49) rfl ?_); refine goesL_ (some 34) rfl rfl Try.func49 (by kernel_rfl) rfl #[.slice A1 l1.length c1] rfl (by (try simp only [List.map_toArray, List.map_cons, List.map_nil]); first | done | rfl | (simp only [List.length_drop, List.length_take]; rfl)) ?_; (with_reducible refine (laws_toIntSS.calls k _ _ l1 t231 _ ?side1 ?side2 A11.out).mono ?_); (case side1 => repeat (first | exact (Kd.C_below HR1.out HB.out) | (with_reducible refine Kd.C_alloc ?_ _) | (with_reducible refine Kd.C_drewN ?_ _) | (with_reducible refine Kd.C_drew ?_))); (case side2 => exact HC1.out); rintro e w20 ⟨v232, rfl, ho0, hb⟩; refine ⟨_, rfl, ?_⟩; have n0_ := Aside0.mk (Kd.S_elder' (by (with_reducible repeat (first | apply Kd.S_alloc | apply Kd.S_drewN | apply Kd.S_drew)); exact HO225.out) (Kd.S_base ho0) hb); have n1_ := Aside0.mk (Kd.R_below (by (with_reducible repeat (first | apply Kd.R_alloc | apply Kd.R_drewN | apply Kd.R_drew)); exact HO228.out) hb); have n2_ := Aside0.mk (Kd.S_lower (Kd.S_new' ho0 (Kd.S_lt (by (with_reducible repeat (first | apply Kd.S_alloc | apply Kd.S_drewN | apply Kd.S_drew)); exact HO225.out))) (below_size (by repeat (first | (with_reducible first | exact HB.out | apply below_alloc | apply pw_below_drewN | apply below_drew1) | exact HB.out)))); have n3_ := Aside0.mk (below_step (by repeat (first | (with_reducible first | exact HB.out | apply below_alloc | apply pw_below_drewN | apply below_drew1) | exact HB.out)) hb); clear HO225; clear HO228; clear HB; have HO225 := n0_; have HO228 := n1_; have HO233 := n2_; have HB := n3_; clear n0_ n1_ n2_ n3_; (try clear hb); (try clear hb2); (try clear hk); (try clear hi); (try clear ho0)) | ((with_reducible refine gate_callee (f := 22) rfl ?_); refine goesL_ (some 36) rfl rfl Try.func22 (by kernel_rfl) rfl #[.slice A2 l2.length c2] rfl (by (try simp only [List.map_toArray, List.map_cons, List.map_nil]); first | done | rfl | (simp only [List.length_drop, List.length_take]; rfl)) ?_; (with_reducible refine (laws_toMoveS.calls k _ _ l2 t234 _ ?side1 ?side2 A12.out).mono ?_); (case side1 => repeat (first | exact (Kd.C_below HR2.out HB.out) | (with_reducible refine Kd.C_alloc ?_ _) | (with_reducible refine Kd.C_drewN ?_ _) | (with_reducible refine Kd.C_drew ?_))); (case side2 => exact HC2.out); rintro e w21 ⟨v235, rfl, ho0, hb⟩; refine ⟨_, rfl, ?_⟩; have n0_ := Aside0.mk (Kd.S_below (by (with_reducible repeat (first | apply Kd.S_alloc | apply Kd.S_drewN | apply Kd.S_drew)); exact HO225.out) hb); have n1_ := Aside0.mk (Kd.R_elder' (by (with_reducible repeat (first | apply Kd.R_alloc | apply Kd.R_drewN | apply Kd.R_drew)); exact HO228.out) (Kd.R_base ho0) hb); have n2_ := Aside0.mk (Kd.S_below (by (with_reducible repeat (first | apply Kd.S_alloc | apply Kd.S_drewN | apply Kd.S_drew)); exact HO233.out) hb); have n3_ := Aside0.mk (Kd.R_lower (Kd.R_new' ho0 (Kd.R_lt (by (with_reducible repeat (first | apply Kd.R_alloc | apply Kd.R_drewN | apply Kd.R_drew)); exact HO228.out))) (below_size (by repeat (first | (with_reducible first | exact HB.out | apply below_alloc | apply pw_below_drewN | apply below_drew1) | exact HB.out)))); have n4_ := Aside0.mk (below_step (by repeat (first | (with_reducible first | exact HB.out | apply below_alloc | apply pw_below_drewN | apply below_drew1) | exact HB.out)) hb); clear HO225; clear HO228; clear HO233; clear HB; have HO225 := n0_; have HO228 := n1_; have HO233 := n2_; have HO236 := n3_; have HB := n4_; clear n0_ n1_ n2_ n3_ n4_; (try clear hb); (try clear hb2); (try clear hk); (try clear hi); (try clear ho0); obtain ⟨Ao22, co22, eo22⟩ := Kd.S_slice HO233.out; subst eo22; obtain ⟨Ao23, co23, eo23⟩ := Kd.R_slice HO236.out; subst eo23) | ((with_reducible refine gate_callee (f := 52) rfl ?_); refine goesL_ (some 41) rfl rfl Try.func52 (by kernel_rfl) rfl #[.int .i64 a0, .slice Ao22 t231.length co22, .slice Ao23 t234.length co23] rfl (by (try simp only [List.map_toArray, List.map_cons, List.map_nil]); first | done | rfl | (simp only [List.length_drop, List.length_take]; rfl)) ?_; (with_reducible refine (impl_IsMoveList.calls k a0 _ _ t231 _ _ t234 t237 t238 _ ?side1 ?side2 ?side3 ?side4 A13.out).mono ?_); (case side1 => repeat (first | exact (Kd.S_reads' HO233.out).2.2 | (with_reducible refine Kd.C_alloc ?_ _) | (with_reducible refine Kd.C_drewN ?_ _) | (with_reducible refine Kd.C_drew ?_))); (case side2 => exact (Kd.S_reads' HO233.out).2.1); (case side3 => repeat (first | exact (Kd.R_reads' HO236.out).2.2 | (with_reducible refine Kd.C_alloc ?_ _) | (with_reducible refine Kd.C_drewN ?_ _) | (with_reducible refine Kd.C_drew ?_))); (case side4 => exact (Kd.R_reads' HO236.out).2.1); rintro e w24 ⟨rfl, hb⟩; refine ⟨_, rfl, ?_⟩; have n0_ := Aside0.mk (Kd.S_below (by (with_reducible repeat (first | apply Kd.S_alloc | apply Kd.S_drewN | apply Kd.S_drew)); exact HO225.out) hb); have n1_ := Aside0.mk (Kd.R_below (by (with_reducible repeat (first | apply Kd.R_alloc | apply Kd.R_drewN | apply Kd.R_drew)); exact HO228.out) hb); have n2_ := Aside0.mk (Kd.S_below (by (with_reducible repeat (first | apply Kd.S_alloc | apply Kd.S_drewN | apply Kd.S_drew)); exact HO233.out) hb); have n3_ := Aside0.mk (Kd.R_below (by (with_reducible repeat (first | apply Kd.R_alloc | apply Kd.R_drewN | apply Kd.R_drew)); exact HO236.out) hb); have n4_ := Aside0.mk (below_step (by repeat (first | (with_reducible first | exact HB.out | apply below_alloc | apply pw_below_drewN | apply below_drew1) | exact HB.out)) hb); clear HO225; clear HO228; clear HO233; clear HO236; clear HB; have HO225 := n0_; have HO228 := n1_; have HO233 := n2_; have HO236 := n3_; have HB := n4_; clear n0_ n1_ n2_ n3_ n4_; (try clear hb); (try clear hb2); (try clear hk); (try clear hi)))
      (try simp only [Act.put, List.setIfInBounds_toArray, List.set_cons_zero, List.set_cons_succ])
      go_cut [51] (fun v51 wc => ∃ (kq : Nat) (x51_13 : Bool), v51 = .bool x51_13 ∧ Aside0 (laws_FnExactIsMoveList.j0 kq l1 l2 t231 t234 x51_13 = some r) ∧ Aside0 (kq ≤ k) ∧ Aside0 (Kd.S (Kd.slice 3 (Kd.int .i64)) 22 wc w.heap.size (fun _ => True) (.slice Ao22 t231.length co22) t231) ∧ Aside0 (Kd.R k55 55 wc w.heap.size (fun _ => True) (.slice Ao23 t234.length co23) t234) ∧ Aside0 (Below w.heap.size w wc))
      case first =>
        have H := HC14.out
        clear HC14
        by_cases c25 : (t237 != t229) = true
        · rw [if_pos c25] at H
          have c25b0 : (t237 != t229) = true := c25
          (try (have c25b1 : decide (t237 = t229) = false := by simpa using c25))
          (try (have c25b2 : (t237 == t229) = false := by simpa using c25))
          (try (have c25b3 : ¬ (t237 = t229) := by simpa using c25))
          clear c25
          (first | rw [c25b0] | (simp only [i64_w, i32_w]; rw [c25b0]) | skip)
          have H' := Aside0.mk H
          clear H
          go_wp2
          go_meet
          case rel => exact ⟨_, (true), (by first | rfl | (simp; done) | (simp [*]; done)), H', ⟨by first | omega | exact Nat.le_refl _⟩, ⟨by (with_reducible repeat (first | apply Kd.S_alloc | apply Kd.S_drewN | apply Kd.S_drew)); exact Kd.S_mono HO233.out (fun _ hk => trivial)⟩, ⟨by (with_reducible repeat (first | apply Kd.R_alloc | apply Kd.R_drewN | apply Kd.R_drew)); exact Kd.R_mono HO236.out (fun _ hk => trivial)⟩, ⟨by repeat (first | (with_reducible first | exact HB.out | apply below_alloc | apply pw_below_drewN | apply below_drew1) | exact HB.out)⟩⟩
        · rw [if_neg c25] at H
          have c25b0 : (t237 != t229) = false := by simpa using c25
          (try (have c25b1 : decide (t237 = t229) = true := by simpa using c25))
          (try (have c25b2 : (t237 == t229) = true := by simpa using c25))
          clear c25
          (first | rw [c25b0] | (simp only [i64_w, i32_w]; rw [c25b0]) | skip)
          have H' := Aside0.mk H
          clear H
          go_wp2
          go_meet
          case rel => exact ⟨_, ((t238 != t230)), (by first | rfl | (simp; done) | (simp [*]; done)), H', ⟨by first | omega | exact Nat.le_refl _⟩, ⟨by (with_reducible repeat (first | apply Kd.S_alloc | apply Kd.S_drewN | apply Kd.S_drew)); exact Kd.S_mono HO233.out (fun _ hk => trivial)⟩, ⟨by (with_reducible repeat (first | apply Kd.R_alloc | apply Kd.R_drewN | apply Kd.R_drew)); exact Kd.R_mono HO236.out (fun _ hk => trivial)⟩, ⟨by repeat (first | (with_reducible first | exact HB.out | apply below_alloc | apply pw_below_drewN | apply below_drew1) | exact HB.out)⟩⟩
      case rest =>
        clear HC14
        try clear c1
        try clear c2
        try clear p2
        try clear c4
        try clear c5
        try clear c5b0
        try clear c7
        try clear c7b0
        try clear c14
        try clear c20
        try clear c22
        try clear c25
        try clear c25b0
        try clear c25b1
        try clear c25b2
        obtain ⟨kq, x51_13, rfl, HA, HJ13, HO_10, HO_11, HB⟩ := hcut
        cases kq with
        | zero => exact absurd HA.out (by simp [laws_FnExactIsMoveList.j0])
        | succ kj13 =>
          have H := HA.out
          clear HA
          simp only [laws_FnExactIsMoveList.j0] at H
          by_cases c26 : x51_13 = true
          · subst c26
            have H1 : (some false) = some r := by rw [if_pos rfl] at H; exact H
            clear H
            have H := H1
            clear H1
            obtain rfl := Option.some.inj H
            go_wp2
            go_ret
            exact ⟨by first | rfl | (simp [errW_none, errW_some] <;> rfl) | (simp [*, errW_none, errW_some] <;> rfl), by repeat (first | (with_reducible first | exact HB.out | apply below_alloc | apply pw_below_drewN | apply below_drew1) | exact HB.out)⟩
          · replace c26 := Bool.eq_false_iff.mpr c26
            subst c26
            have H1 : ((laws_toIntSS.f kj13 l1).bind fun t239 => ((laws_eqIntSS.f kj13 t231 t239).bind fun t242 => (if t242 = true then ((laws_toMoveS.f kj13 l2).bind fun t243 => ((laws_eqMoveS.f kj13 t234 t243).bind fun t246 => (if t246 = true then (some true) else (some false)))) else (some false)))) = some r := by rw [if_neg (show ¬ (false = true) by decide)] at H; exact H
            clear H
            have H := H1
            clear H1
            replace H := Option.bind_eq_some_iff.mp H
            obtain ⟨t239, A270, H⟩ := H
            replace H : ((laws_eqIntSS.f kj13 t231 t239).bind fun t242 => (if t242 = true then ((laws_toMoveS.f kj13 l2).bind fun t243 => ((laws_eqMoveS.f kj13 t234 t243).bind fun t246 => (if t246 = true then (some true) else (some false)))) else (some false))) = some r := H
            have A27 := Aside0.mk A270
            clear A270
            replace H := Option.bind_eq_some_iff.mp H
            obtain ⟨t242, A280, H⟩ := H
            replace H : (if t242 = true then ((laws_toMoveS.f kj13 l2).bind fun t243 => ((laws_eqMoveS.f kj13 t234 t243).bind fun t246 => (if t246 = true then (some true) else (some false)))) else (some false)) = some r := H
            have A28 := Aside0.mk A280
            clear A280
            by_cases c29 : t242 = true
            · subst c29
              have H1 : ((laws_toMoveS.f kj13 l2).bind fun t243 => ((laws_eqMoveS.f kj13 t234 t243).bind fun t246 => (if t246 = true then (some true) else (some false)))) = some r := by rw [if_pos rfl] at H; exact H
              clear H
              have H := H1
              clear H1
              replace H := Option.bind_eq_some_iff.mp H
              obtain ⟨t243, A300, H⟩ := H
              replace H : ((laws_eqMoveS.f kj13 t234 t243).bind fun t246 => (if t246 = true then (some true) else (some false))) = some r := H
              have A30 := Aside0.mk A300
              clear A300
              replace H := Option.bind_eq_some_iff.mp H
              obtain ⟨t246, A310, H⟩ := H
              replace H : (if t246 = true then (some true) else (some false)) = some r := H
              have A31 := Aside0.mk A310
              clear A310
              by_cases c32 : t246 = true
              · subst c32
                have H1 : (some true) = some r := by rw [if_pos rfl] at H; exact H
                clear H
                have H := H1
                clear H1
                obtain rfl := Option.some.inj H
                go_wp2_with (first | ((with_reducible refine gate_callee (f := 49) rfl ?_); refine goesL_ (some 54) rfl rfl Try.func49 (by kernel_rfl) rfl #[.slice A1 l1.length c1] rfl (by (try simp only [List.map_toArray, List.map_cons, List.map_nil]); first | done | rfl | (simp only [List.length_drop, List.length_take]; rfl)) ?_; (with_reducible refine (laws_toIntSS.calls kj13 _ _ l1 t239 _ ?side1 ?side2 A27.out).mono ?_); (case side1 => repeat (first | exact (Kd.C_below HR1.out HB.out) | (with_reducible refine Kd.C_alloc ?_ _) | (with_reducible refine Kd.C_drewN ?_ _) | (with_reducible refine Kd.C_drew ?_))); (case side2 => exact HC1.out); rintro e w33 ⟨v240, rfl, ho0, hb⟩; refine ⟨_, rfl, ?_⟩; have n0_ := Aside0.mk (Kd.S_elder' (by (with_reducible repeat (first | apply Kd.S_alloc | apply Kd.S_drewN | apply Kd.S_drew)); exact HO_10.out) (Kd.S_base ho0) hb); have n1_ := Aside0.mk (Kd.R_below (by (with_reducible repeat (first | apply Kd.R_alloc | apply Kd.R_drewN | apply Kd.R_drew)); exact HO_11.out) hb); have n2_ := Aside0.mk (Kd.S_lower (Kd.S_new' ho0 (Kd.S_lt (by (with_reducible repeat (first | apply Kd.S_alloc | apply Kd.S_drewN | apply Kd.S_drew)); exact HO_10.out))) (below_size (by repeat (first | (with_reducible first | exact HB.out | apply below_alloc | apply pw_below_drewN | apply below_drew1) | exact HB.out)))); have n3_ := Aside0.mk (below_step (by repeat (first | (with_reducible first | exact HB.out | apply below_alloc | apply pw_below_drewN | apply below_drew1) | exact HB.out)) hb); clear HO_10; clear HO_11; clear HB; have HO_10 := n0_; have HO_11 := n1_; have HO241 := n2_; have HB := n3_; clear n0_ n1_ n2_ n3_; (try clear hb); (try clear hb2); (try clear hk); (try clear hi); (try clear ho0); obtain ⟨Ao34, co34, eo34⟩ := Kd.S_slice HO241.out; subst eo34) | ((with_reducible refine gate_callee (f := 28) rfl ?_); refine goesL_ (some 55) rfl rfl Try.func28 (by kernel_rfl) rfl #[.slice Ao22 t231.length co22, .slice Ao34 t239.length co34] rfl (by (try simp only [List.map_toArray, List.map_cons, List.map_nil]); first | done | rfl | (simp only [List.length_drop, List.length_take]; rfl)) ?_; (with_reducible refine (laws_eqIntSS.calls kj13 _ _ t231 _ _ t239 true _ ?side1 ?side2 ?side3 ?side4 A28.out).mono ?_); (case side1 => repeat (first | exact (Kd.S_reads' HO_10.out).2.2 | (with_reducible refine Kd.C_alloc ?_ _) | (with_reducible refine Kd.C_drewN ?_ _) | (with_reducible refine Kd.C_drew ?_))); (case side2 => exact (Kd.S_reads' HO_10.out).2.1); (case side3 => repeat (first | exact (Kd.S_reads' HO241.out).2.2 | (with_reducible refine Kd.C_alloc ?_ _) | (with_reducible refine Kd.C_drewN ?_ _) | (with_reducible refine Kd.C_drew ?_))); (case side4 => exact (Kd.S_reads' HO241.out).2.1); rintro e w' ⟨rfl, ⟨nd, rfl⟩⟩; refine ⟨_, rfl, ?_⟩) | ((with_reducible refine gate_callee (f := 22) rfl ?_); refine goesL_ (some 59) rfl rfl Try.func22 (by kernel_rfl) rfl #[.slice A2 l2.length c2] rfl (by (try simp only [List.map_toArray, List.map_cons, List.map_nil]); first | done | rfl | (simp only [List.length_drop, List.length_take]; rfl)) ?_; (with_reducible refine (laws_toMoveS.calls kj13 _ _ l2 t243 _ ?side1 ?side2 A30.out).mono ?_); (case side1 => repeat (first | exact (Kd.C_below HR2.out (by repeat (first | (with_reducible first | exact HB.out | apply below_alloc | apply pw_below_drewN | apply below_drew1) | exact HB.out))) | (with_reducible refine Kd.C_alloc ?_ _) | (with_reducible refine Kd.C_drewN ?_ _) | (with_reducible refine Kd.C_drew ?_))); (case side2 => exact HC2.out); rintro e w35 ⟨v244, rfl, ho0, hb⟩; refine ⟨_, rfl, ?_⟩; have n0_ := Aside0.mk (Kd.S_below (by (with_reducible repeat (first | apply Kd.S_alloc | apply Kd.S_drewN | apply Kd.S_drew)); exact HO_10.out) hb); have n1_ := Aside0.mk (Kd.R_elder' (by (with_reducible repeat (first | apply Kd.R_alloc | apply Kd.R_drewN | apply Kd.R_drew)); exact HO_11.out) (Kd.R_base ho0) hb); have n2_ := Aside0.mk (Kd.S_below (by (with_reducible repeat (first | apply Kd.S_alloc | apply Kd.S_drewN | apply Kd.S_drew)); exact HO241.out) hb); have n3_ := Aside0.mk (Kd.R_lower (Kd.R_new' ho0 (Kd.R_lt (by (with_reducible repeat (first | apply Kd.R_alloc | apply Kd.R_drewN | apply Kd.R_drew)); exact HO_11.out))) (below_size (by repeat (first | (with_reducible first | exact HB.out | apply below_alloc | apply pw_below_drewN | apply below_drew1) | exact HB.out)))); have n4_ := Aside0.mk (below_step (by repeat (first | (with_reducible first | exact HB.out | apply below_alloc | apply pw_below_drewN | apply below_drew1) | exact HB.out)) hb); clear HO_10; clear HO_11; clear HO241; clear HB; have HO_10 := n0_; have HO_11 := n1_; have HO241 := n2_; have HO245 := n3_; have HB := n4_; clear n0_ n1_ n2_ n3_ n4_; (try clear hb); (try clear hb2); (try clear hk); (try clear hi); (try clear ho0); obtain ⟨Ao36, co36, eo36⟩ := Kd.R_slice HO245.out; subst eo36) | ((with_reducible refine gate_callee (f := 24) rfl ?_); refine goesL_ (some 60) rfl rfl Try.func24 (by kernel_rfl) rfl #[.slice Ao23 t234.length co23, .slice Ao36 t243.length co36] rfl (by (try simp only [List.map_toArray, List.map_cons, List.map_nil]); first | done | rfl | (simp only [List.length_drop, List.length_take]; rfl)) ?_; (with_reducible refine (laws_eqMoveS.calls kj13 _ _ t234 _ _ t243 true _ ?side1 ?side2 ?side3 ?side4 A31.out).mono ?_); (case side1 => repeat (first | exact (Kd.R_reads' HO_11.out).2.2 | (with_reducible refine Kd.C_alloc ?_ _) | (with_reducible refine Kd.C_drewN ?_ _) | (with_reducible refine Kd.C_drew ?_))); (case side2 => exact (Kd.R_reads' HO_11.out).2.1); (case side3 => repeat (first | exact (Kd.R_reads' HO245.out).2.2 | (with_reducible refine Kd.C_alloc ?_ _) | (with_reducible refine Kd.C_drewN ?_ _) | (with_reducible refine Kd.C_drew ?_))); (case side4 => exact (Kd.R_reads' HO245.out).2.1); rintro e w37 ⟨rfl, hb⟩; refine ⟨_, rfl, ?_⟩; have n0_ := Aside0.mk (Kd.S_below (by (with_reducible repeat (first | apply Kd.S_alloc | apply Kd.S_drewN | apply Kd.S_drew)); exact HO_10.out) hb); have n1_ := Aside0.mk (Kd.R_below (by (with_reducible repeat (first | apply Kd.R_alloc | apply Kd.R_drewN | apply Kd.R_drew)); exact HO_11.out) hb); have n2_ := Aside0.mk (Kd.S_below (by (with_reducible repeat (first | apply Kd.S_alloc | apply Kd.S_drewN | apply Kd.S_drew)); exact HO241.out) hb); have n3_ := Aside0.mk (Kd.R_below (by (with_reducible repeat (first | apply Kd.R_alloc | apply Kd.R_drewN | apply Kd.R_drew)); exact HO245.out) hb); have n4_ := Aside0.mk (below_step (by repeat (first | (with_reducible first | exact HB.out | apply below_alloc | apply pw_below_drewN | apply below_drew1) | exact HB.out)) hb); clear HO_10; clear HO_11; clear HO241; clear HO245; clear HB; have HO_10 := n0_; have HO_11 := n1_; have HO241 := n2_; have HO245 := n3_; have HB := n4_; clear n0_ n1_ n2_ n3_ n4_; (try clear hb); (try clear hb2); (try clear hk); (try clear hi)))
                go_ret
                exact ⟨by first | rfl | (simp [errW_none, errW_some] <;> rfl) | (simp [*, errW_none, errW_some] <;> rfl), by repeat (first | (with_reducible first | exact HB.out | apply below_alloc | apply pw_below_drewN | apply below_drew1) | exact HB.out)⟩
              · replace c32 := Bool.eq_false_iff.mpr c32
                subst c32
                have H1 : (some false) = some r := by rw [if_neg (show ¬ (false = true) by decide)] at H; exact H
                clear H
                have H := H1
                clear H1
                obtain rfl := Option.some.inj H
                go_wp2_with (first | ((with_reducible refine gate_callee (f := 49) rfl ?_); refine goesL_ (some 54) rfl rfl Try.func49 (by kernel_rfl) rfl #[.slice A1 l1.length c1] rfl (by (try simp only [List.map_toArray, List.map_cons, List.map_nil]); first | done | rfl | (simp only [List.length_drop, List.length_take]; rfl)) ?_; (with_reducible refine (laws_toIntSS.calls kj13 _ _ l1 t239 _ ?side1 ?side2 A27.out).mono ?_); (case side1 => repeat (first | exact (Kd.C_below HR1.out HB.out) | (with_reducible refine Kd.C_alloc ?_ _) | (with_reducible refine Kd.C_drewN ?_ _) | (with_reducible refine Kd.C_drew ?_))); (case side2 => exact HC1.out); rintro e w38 ⟨v240, rfl, ho0, hb⟩; refine ⟨_, rfl, ?_⟩; have n0_ := Aside0.mk (Kd.S_elder' (by (with_reducible repeat (first | apply Kd.S_alloc | apply Kd.S_drewN | apply Kd.S_drew)); exact HO_10.out) (Kd.S_base ho0) hb); have n1_ := Aside0.mk (Kd.R_below (by (with_reducible repeat (first | apply Kd.R_alloc | apply Kd.R_drewN | apply Kd.R_drew)); exact HO_11.out) hb); have n2_ := Aside0.mk (Kd.S_lower (Kd.S_new' ho0 (Kd.S_lt (by (with_reducible repeat (first | apply Kd.S_alloc | apply Kd.S_drewN | apply Kd.S_drew)); exact HO_10.out))) (below_size (by repeat (first | (with_reducible first | exact HB.out | apply below_alloc | apply pw_below_drewN | apply below_drew1) | exact HB.out)))); have n3_ := Aside0.mk (below_step (by repeat (first | (with_reducible first | exact HB.out | apply below_alloc | apply pw_below_drewN | apply below_drew1) | exact HB.out)) hb); clear HO_10; clear HO_11; clear HB; have HO_10 := n0_; have HO_11 := n1_; have HO241 := n2_; have HB := n3_; clear n0_ n1_ n2_ n3_; (try clear hb); (try clear hb2); (try clear hk); (try clear hi); (try clear ho0); obtain ⟨Ao39, co39, eo39⟩ := Kd.S_slice HO241.out; subst eo39) | ((with_reducible refine gate_callee (f := 28) rfl ?_); refine goesL_ (some 55) rfl rfl Try.func28 (by kernel_rfl) rfl #[.slice Ao22 t231.length co22, .slice Ao39 t239.length co39] rfl (by (try simp only [List.map_toArray, List.map_cons, List.map_nil]); first | done | rfl | (simp only [List.length_drop, List.length_take]; rfl)) ?_; (with_reducible refine (laws_eqIntSS.calls kj13 _ _ t231 _ _ t239 true _ ?side1 ?side2 ?side3 ?side4 A28.out).mono ?_); (case side1 => repeat (first | exact (Kd.S_reads' HO_10.out).2.2 | (with_reducible refine Kd.C_alloc ?_ _) | (with_reducible refine Kd.C_drewN ?_ _) | (with_reducible refine Kd.C_drew ?_))); (case side2 => exact (Kd.S_reads' HO_10.out).2.1); (case side3 => repeat (first | exact (Kd.S_reads' HO241.out).2.2 | (with_reducible refine Kd.C_alloc ?_ _) | (with_reducible refine Kd.C_drewN ?_ _) | (with_reducible refine Kd.C_drew ?_))); (case side4 => exact (Kd.S_reads' HO241.out).2.1); rintro e w' ⟨rfl, ⟨nd, rfl⟩⟩; refine ⟨_, rfl, ?_⟩) | ((with_reducible refine gate_callee (f := 22) rfl ?_); refine goesL_ (some 59) rfl rfl Try.func22 (by kernel_rfl) rfl #[.slice A2 l2.length c2] rfl (by (try simp only [List.map_toArray, List.map_cons, List.map_nil]); first | done | rfl | (simp only [List.length_drop, List.length_take]; rfl)) ?_; (with_reducible refine (laws_toMoveS.calls kj13 _ _ l2 t243 _ ?side1 ?side2 A30.out).mono ?_); (case side1 => repeat (first | exact (Kd.C_below HR2.out (by repeat (first | (with_reducible first | exact HB.out | apply below_alloc | apply pw_below_drewN | apply below_drew1) | exact HB.out))) | (with_reducible refine Kd.C_alloc ?_ _) | (with_reducible refine Kd.C_drewN ?_ _) | (with_reducible refine Kd.C_drew ?_))); (case side2 => exact HC2.out); rintro e w40 ⟨v244, rfl, ho0, hb⟩; refine ⟨_, rfl, ?_⟩; have n0_ := Aside0.mk (Kd.S_below (by (with_reducible repeat (first | apply Kd.S_alloc | apply Kd.S_drewN | apply Kd.S_drew)); exact HO_10.out) hb); have n1_ := Aside0.mk (Kd.R_elder' (by (with_reducible repeat (first | apply Kd.R_alloc | apply Kd.R_drewN | apply Kd.R_drew)); exact HO_11.out) (Kd.R_base ho0) hb); have n2_ := Aside0.mk (Kd.S_below (by (with_reducible repeat (first | apply Kd.S_alloc | apply Kd.S_drewN | apply Kd.S_drew)); exact HO241.out) hb); have n3_ := Aside0.mk (Kd.R_lower (Kd.R_new' ho0 (Kd.R_lt (by (with_reducible repeat (first | apply Kd.R_alloc | apply Kd.R_drewN | apply Kd.R_drew)); exact HO_11.out))) (below_size (by repeat (first | (with_reducible first | exact HB.out | apply below_alloc | apply pw_below_drewN | apply below_drew1) | exact HB.out)))); have n4_ := Aside0.mk (below_step (by repeat (first | (with_reducible first | exact HB.out | apply below_alloc | apply pw_below_drewN | apply below_drew1) | exact HB.out)) hb); clear HO_10; clear HO_11; clear HO241; clear HB; have HO_10 := n0_; have HO_11 := n1_; have HO241 := n2_; have HO245 := n3_; have HB := n4_; clear n0_ n1_ n2_ n3_ n4_; (try clear hb); (try clear hb2); (try clear hk); (try clear hi); (try clear ho0); obtain ⟨Ao41, co41, eo41⟩ := Kd.R_slice HO245.out; subst eo41) | ((with_reducible refine gate_callee (f := 24) rfl ?_); refine goesL_ (some 60) rfl rfl Try.func24 (by kernel_rfl) rfl #[.slice Ao23 t234.length co23, .slice Ao41 t243.length co41] rfl (by (try simp only [List.map_toArray, List.map_cons, List.map_nil]); first | done | rfl | (simp only [List.length_drop, List.length_take]; rfl)) ?_; (with_reducible refine (laws_eqMoveS.calls kj13 _ _ t234 _ _ t243 false _ ?side1 ?side2 ?side3 ?side4 A31.out).mono ?_); (case side1 => repeat (first | exact (Kd.R_reads' HO_11.out).2.2 | (with_reducible refine Kd.C_alloc ?_ _) | (with_reducible refine Kd.C_drewN ?_ _) | (with_reducible refine Kd.C_drew ?_))); (case side2 => exact (Kd.R_reads' HO_11.out).2.1); (case side3 => repeat (first | exact (Kd.R_reads' HO245.out).2.2 | (with_reducible refine Kd.C_alloc ?_ _) | (with_reducible refine Kd.C_drewN ?_ _) | (with_reducible refine Kd.C_drew ?_))); (case side4 => exact (Kd.R_reads' HO245.out).2.1); rintro e w42 ⟨rfl, hb⟩; refine ⟨_, rfl, ?_⟩; have n0_ := Aside0.mk (Kd.S_below (by (with_reducible repeat (first | apply Kd.S_alloc | apply Kd.S_drewN | apply Kd.S_drew)); exact HO_10.out) hb); have n1_ := Aside0.mk (Kd.R_below (by (with_reducible repeat (first | apply Kd.R_alloc | apply Kd.R_drewN | apply Kd.R_drew)); exact HO_11.out) hb); have n2_ := Aside0.mk (Kd.S_below (by (with_reducible repeat (first | apply Kd.S_alloc | apply Kd.S_drewN | apply Kd.S_drew)); exact HO241.out) hb); have n3_ := Aside0.mk (Kd.R_below (by (with_reducible repeat (first | apply Kd.R_alloc | apply Kd.R_drewN | apply Kd.R_drew)); exact HO245.out) hb); have n4_ := Aside0.mk (below_step (by repeat (first | (with_reducible first | exact HB.out | apply below_alloc | apply pw_below_drewN | apply below_drew1) | exact HB.out)) hb); clear HO_10; clear HO_11; clear HO241; clear HO245; clear HB; have HO_10 := n0_; have HO_11 := n1_; have HO241 := n2_; have HO245 := n3_; have HB := n4_; clear n0_ n1_ n2_ n3_ n4_; (try clear hb); (try clear hb2); (try clear hk); (try clear hi)))
                go_ret
                exact ⟨by first | rfl | (simp [errW_none, errW_some] <;> rfl) | (simp [*, errW_none, errW_some] <;> rfl), by repeat (first | (with_reducible first | exact HB.out | apply below_alloc | apply pw_below_drewN | apply below_drew1) | exact HB.out)⟩
            · replace c29 := Bool.eq_false_iff.mpr c29
              subst c29
              have H1 : (some false) = some r := by rw [if_neg (show ¬ (false = true) by decide)] at H; exact H
              clear H
              have H := H1
              clear H1
              obtain rfl := Option.some.inj H
              go_wp2_with (first | ((with_reducible refine gate_callee (f := 49) rfl ?_); refine goesL_ (some 54) rfl rfl Try.func49 (by kernel_rfl) rfl #[.slice A1 l1.length c1] rfl (by (try simp only [List.map_toArray, List.map_cons, List.map_nil]); first | done | rfl | (simp only [List.length_drop, List.length_take]; rfl)) ?_; (with_reducible refine (laws_toIntSS.calls kj13 _ _ l1 t239 _ ?side1 ?side2 A27.out).mono ?_); (case side1 => repeat (first | exact (Kd.C_below HR1.out HB.out) | (with_reducible refine Kd.C_alloc ?_ _) | (with_reducible refine Kd.C_drewN ?_ _) | (with_reducible refine Kd.C_drew ?_))); (case side2 => exact HC1.out); rintro e w43 ⟨v240, rfl, ho0, hb⟩; refine ⟨_, rfl, ?_⟩; have n0_ := Aside0.mk (Kd.S_elder' (by (with_reducible repeat (first | apply Kd.S_alloc | apply Kd.S_drewN | apply Kd.S_drew)); exact HO_10.out) (Kd.S_base ho0) hb); have n1_ := Aside0.mk (Kd.R_below (by (with_reducible repeat (first | apply Kd.R_alloc | apply Kd.R_drewN | apply Kd.R_drew)); exact HO_11.out) hb); have n2_ := Aside0.mk (Kd.S_lower (Kd.S_new' ho0 (Kd.S_lt (by (with_reducible repeat (first | apply Kd.S_alloc | apply Kd.S_drewN | apply Kd.S_drew)); exact HO_10.out))) (below_size (by repeat (first | (with_reducible first | exact HB.out | apply below_alloc | apply pw_below_drewN | apply below_drew1) | exact HB.out)))); have n3_ := Aside0.mk (below_step (by repeat (first | (with_reducible first | exact HB.out | apply below_alloc | apply pw_below_drewN | apply below_drew1) | exact HB.out)) hb); clear HO_10; clear HO_11; clear HB; have HO_10 := n0_; have HO_11 := n1_; have HO241 := n2_; have HB := n3_; clear n0_ n1_ n2_ n3_; (try clear hb); (try clear hb2); (try clear hk); (try clear hi); (try clear ho0); obtain ⟨Ao44, co44, eo44⟩ := Kd.S_slice HO241.out; subst eo44) | ((with_reducible refine gate_callee (f := 28) rfl ?_); refine goesL_ (some 55) rfl rfl Try.func28 (by kernel_rfl) rfl #[.slice Ao22 t231.length co22, .slice Ao44 t239.length co44] rfl (by (try simp only [List.map_toArray, List.map_cons, List.map_nil]); first | done | rfl | (simp only [List.length_drop, List.length_take]; rfl)) ?_; (with_reducible refine (laws_eqIntSS.calls kj13 _ _ t231 _ _ t239 false _ ?side1 ?side2 ?side3 ?side4 A28.out).mono ?_); (case side1 => repeat (first | exact (Kd.S_reads' HO_10.out).2.2 | (with_reducible refine Kd.C_alloc ?_ _) | (with_reducible refine Kd.C_drewN ?_ _) | (with_reducible refine Kd.C_drew ?_))); (case side2 => exact (Kd.S_reads' HO_10.out).2.1); (case side3 => repeat (first | exact (Kd.S_reads' HO241.out).2.2 | (with_reducible refine Kd.C_alloc ?_ _) | (with_reducible refine Kd.C_drewN ?_ _) | (with_reducible refine Kd.C_drew ?_))); (case side4 => exact (Kd.S_reads' HO241.out).2.1); rintro e w' ⟨rfl, ⟨nd, rfl⟩⟩; refine ⟨_, rfl, ?_⟩))
              go_ret
              exact ⟨by first | rfl | (simp [errW_none, errW_some] <;> rfl) | (simp [*, errW_none, errW_some] <;> rfl), by repeat (first | (with_reducible first | exact HB.out | apply below_alloc | apply pw_below_drewN | apply below_drew1) | exact HB.out)⟩

end Go.Proofs.Ytcplfdfmebibpaa.MFnExactIsMoveList
