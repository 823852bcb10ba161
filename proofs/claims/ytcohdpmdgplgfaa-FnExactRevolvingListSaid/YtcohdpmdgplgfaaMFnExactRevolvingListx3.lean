/- Functions of the program as Lean functions, each with the proof that its call comes to just that: laid for this claim by this session's own program. -/
import Derived.Test.YtcohdpmdgplgfaaMFnExactRevolvingListx0
import Derived.Test.YtcohdpmdgplgfaaMFnExactRevolvingListx1
import Derived.Test.YtcohdpmdgplgfaaMFnExactRevolvingListx2
namespace Go.Proofs.Ytcohdpmdgplgfaa.MFnExactRevolvingList
open Go.RowKit Go.Proofs.YtcohdpmdgplgfaaW.PrintWords Go.Proofs.YtcohdpmdgplgfaaW.PrintLast Go.Proofs.YtcohdpmdgplgfaaW.PrintMore
attribute [local go_sem] max2_int min2_int max_two min_two max_three min_three max_four min_four   -- for this text's walks alone
set_option linter.unusedVariables false
set_option linter.unusedSimpArgs false

/-! ### laws_heldIntSS: function 40 -/
def laws_heldIntSS.l0 : Nat → List (List Int) → Int → Int → Option (Int)
  | 0, _, _, _ => none
  | k + 1, x0, x1, x5 => if x5 < (x0.length : Int) then (if 0 ≤ x5 then ((laws_heldIntS.f k (rd_L1 x0 x5) x1).bind fun t183 => (if t183 < 0 then (some (-1)) else (laws_heldIntSS.l0 k x0 t183 (wrap64 (x5 + 1))))) else (none)) else (some x1)
def laws_heldIntSS.f (k : Nat) (l0 : List (List Int)) (a1 : Int) : Option (Int) := laws_heldIntSS.l0 k l0 a1 0
theorem laws_heldIntSS.mono_l : ∀ k, (∀ y0 y1 y2, LeO (laws_heldIntSS.l0 k y0 y1 y2) (laws_heldIntSS.l0 (k + 1) y0 y1 y2))
  | 0 => fun _ _ _ r h => by simp [laws_heldIntSS.l0] at h
  | k + 1 => by
    have ih0 := laws_heldIntSS.mono_l k
    · intro y0 y1 y2
      unfold laws_heldIntSS.l0
      repeat' first
      | (with_reducible exact ih0 _ _ _)
      | (with_reducible exact laws_heldIntS.mono _ _ _)
      | (with_reducible exact LeO.refl _)
      | (with_reducible exact LeO.none _)
      | (with_reducible refine LeO.ite ?_ ?_)
      | (with_reducible refine LeO.bind ?_ (fun _ => ?_))
      | exact ih0 _ _ _
      | exact laws_heldIntS.mono _ _ _
      | exact LeO.none _
      | refine LeO.ite ?_ ?_
      | refine LeO.bind ?_ (fun _ => ?_)
theorem laws_heldIntSS.mono : ∀ a0 a1 k, LeO (laws_heldIntSS.f k a0 a1) (laws_heldIntSS.f (k + 1) a0 a1) := by
  intro a0 a1 k
  have ih0 := laws_heldIntSS.mono_l k
  unfold laws_heldIntSS.f
  repeat' first
      | (with_reducible exact ih0 _ _ _)
      | (with_reducible exact laws_heldIntS.mono _ _ _)
      | (with_reducible exact LeO.refl _)
      | (with_reducible exact LeO.none _)
      | (with_reducible refine LeO.ite ?_ ?_)
      | (with_reducible refine LeO.bind ?_ (fun _ => ?_))
      | exact ih0 _ _ _
      | exact laws_heldIntS.mono _ _ _
      | exact LeO.none _
      | refine LeO.ite ?_ ?_
      | refine LeO.bind ?_ (fun _ => ?_)
set_option maxHeartbeats 8000000 in
set_option maxRecDepth 100000 in
theorem laws_heldIntSS.calls (k : Nat) (A0 : Option Addr) (c0 : Nat) (l0 : List (List Int)) (a1 : Int) (r : Int) (w : World) (hr0 : Kd.C (Kd.slice 3 (Kd.int .i64)) w A0 l0.length l0) (hc0 : l0.length ≤ c0) (h : laws_heldIntSS.f k l0 a1 = some r) :
    Calls Try.prog 40 #[.slice A0 l0.length c0, .int .i64 a1] w fun e w' => e = .returned (.int .i64 r) ∧ Drawn0 w w' := by
  have HR0 := Aside0.mk hr0
  have HC0 := Aside0.mk hc0
  clear hr0 hc0
  have H : (laws_heldIntSS.l0 k l0 a1 0) = some r := h
  clear h
  have H' := Aside0.mk H
  clear H
  go_enter Try.func40, Try.ntmps40
  go_wp2
  go_loopg [1, 5] k (fun kq v1 v5 w' => ∃ (x1_1 : Int) (x5_1 : Int), v1 = .int .i64 x1_1 ∧ v5 = .int .i64 x5_1 ∧ Aside0 (laws_heldIntSS.l0 kq l0 x1_1 x5_1 = some r) ∧ Aside0 (kq ≤ k) ∧ Drawn0 w w')
  case atStart => exact ⟨(a1), (0), (by first | rfl | (simp; done) | (simp [*]; done)), (by first | rfl | (simp; done) | (simp [*]; done)), H', ⟨Nat.le_refl _⟩, by repeat (first | exact Drawn0.refl _ | apply Drawn0.step)⟩
  case round =>
    clear H'
    try clear p2
    obtain ⟨x1_1, x5_1, rfl, rfl, HA, HK1, ⟨m1, rfl⟩⟩ := hrel
    cases gk with
    | zero => exact absurd HA.out (by simp [laws_heldIntSS.l0])
    | succ k1 =>
      have H := HA.out
      clear HA
      simp only [laws_heldIntSS.l0] at H
      by_cases c3 : x5_1 < (l0.length : Int)
      · rw [if_pos c3] at H
        have c3b0 : decide (x5_1 < (l0.length : Int)) = true := decide_eq_true c3
        clear c3
        by_cases c4 : 0 ≤ x5_1
        · rw [if_pos c4] at H
          have c4b0 : decide (0 ≤ x5_1) = true := decide_eq_true c4
          clear c4
          replace H := Option.bind_eq_some_iff.mp H
          obtain ⟨t183, A50, H⟩ := H
          replace H : (if t183 < 0 then (some (-1)) else (laws_heldIntSS.l0 k1 l0 t183 (wrap64 (x5_1 + 1)))) = some r := H
          have A5 := Aside0.mk A50
          clear A50
          by_cases c6 : t183 < 0
          · rw [if_pos c6] at H
            have c6b0 : decide (t183 < 0) = true := decide_eq_true c6
            clear c6
            obtain rfl := Option.some.inj H
            have p182 : 0 ≤ (x5_1 : Int) := of_decide_eq_true (by first | (with_reducible assumption) | assumption)
            have q182 : x5_1 < (l0.length : Int) := of_decide_eq_true (by first | (with_reducible assumption) | assumption)
            obtain ⟨ad182, A182_0, c182_0, e182, hx182_0, hl182_0, hi182_0⟩ := at_L1 HR0.out x5_1 p182 q182
            cases e182
            have HR182_0 := Aside0.mk hi182_0
            have HC182_0 := Aside0.mk hl182_0
            clear hi182_0 hl182_0
            replace p182 := eq_true p182
            replace q182 := eq_true q182
            go_wp2_with (first | ((with_reducible refine gate_callee (f := 27) rfl ?_); refine goesL_ (some 17) rfl rfl Try.func27 (by kernel_rfl) rfl #[.slice A182_0 (rd_L1 l0 x5_1).length c182_0, .int .i64 x1_1] rfl (by (try simp only [List.map_toArray, List.map_cons, List.map_nil]); first | done | rfl | (simp only [List.length_drop, List.length_take]; rfl)) ?_; (with_reducible refine (laws_heldIntS.calls k1 _ _ (rd_L1 l0 x5_1) x1_1 t183 _ ?side1 ?side2 A5.out).mono ?_); (case side1 => repeat (first | exact HR182_0.out | (with_reducible refine Kd.C_alloc ?_ _) | (with_reducible refine Kd.C_drewN ?_ _) | (with_reducible refine Kd.C_drew ?_))); (case side2 => exact HC182_0.out); rintro e w' ⟨rfl, ⟨nd, rfl⟩⟩; refine ⟨_, rfl, ?_⟩))
            go_ret
            exact ⟨by first | rfl | (simp; done) | (simp [*]; done), by repeat (first | exact Drawn0.refl _ | apply Drawn0.step)⟩
          · rw [if_neg c6] at H
            have c6b0 : decide (t183 < 0) = false := decide_eq_false c6
            clear c6
            have H' := Aside0.mk H
            clear H
            have p182 : 0 ≤ (x5_1 : Int) := of_decide_eq_true (by first | (with_reducible assumption) | assumption)
            have q182 : x5_1 < (l0.length : Int) := of_decide_eq_true (by first | (with_reducible assumption) | assumption)
            obtain ⟨ad182, A182_0, c182_0, e182, hx182_0, hl182_0, hi182_0⟩ := at_L1 HR0.out x5_1 p182 q182
            cases e182
            have HR182_0 := Aside0.mk hi182_0
            have HC182_0 := Aside0.mk hl182_0
            clear hi182_0 hl182_0
            replace p182 := eq_true p182
            replace q182 := eq_true q182
            go_wp2_with (first | ((with_reducible refine gate_callee (f := 27) rfl ?_); refine goesL_ (some 17) rfl rfl Try.func27 (by kernel_rfl) rfl #[.slice A182_0 (rd_L1 l0 x5_1).length c182_0, .int .i64 x1_1] rfl (by (try simp only [List.map_toArray, List.map_cons, List.map_nil]); first | done | rfl | (simp only [List.length_drop, List.length_take]; rfl)) ?_; (with_reducible refine (laws_heldIntS.calls k1 _ _ (rd_L1 l0 x5_1) x1_1 t183 _ ?side1 ?side2 A5.out).mono ?_); (case side1 => repeat (first | exact HR182_0.out | (with_reducible refine Kd.C_alloc ?_ _) | (with_reducible refine Kd.C_drewN ?_ _) | (with_reducible refine Kd.C_drew ?_))); (case side2 => exact HC182_0.out); rintro e w' ⟨rfl, ⟨nd, rfl⟩⟩; refine ⟨_, rfl, ?_⟩))
            go_roundg k1
            case measure => have := HK1.out; omega
            case rel => exact ⟨(t183), (wrap64 (x5_1 + 1)), (by first | rfl | (simp; done) | (simp [*]; done)), (by first | rfl | (simp; done) | (simp [*]; done)), H', ⟨by have := HK1.out; omega⟩, by repeat (first | exact Drawn0.refl _ | apply Drawn0.step)⟩
        · rw [if_neg c4] at H
          exact absurd H (by simp)
      · rw [if_neg c3] at H
        have c3b0 : decide (x5_1 < (l0.length : Int)) = false := decide_eq_false c3
        clear c3
        obtain rfl := Option.some.inj H
        go_wp2
        go_ret
        exact ⟨by first | rfl | (simp; done) | (simp [*]; done), by repeat (first | exact Drawn0.refl _ | apply Drawn0.step)⟩

/-! ### laws_FnExactRevolvingList: function 11 -/
/-- What is to be shown: both sides come to one list, and the law's own functions go through. -/
def laws_FnExactRevolvingList.Fine (k : Nat) (a0 a1 : Int) : Prop := ∃ (L L' : List (List Int)) (b : Bool) (m : Int), spec_RevolvingList.f k a0 a1 = some (L, b) ∧ impl_RevolvingList.f k a0 a1 = some (L, b) ∧ laws_eqIntSS.f k L L = some true ∧ laws_markIntSS.f k L 1 = some (m, L') ∧ laws_heldIntSS.f k L' 1 = some m ∧ 0 ≤ m ∧ L'.length = L.length
set_option maxHeartbeats 8000000 in
set_option maxRecDepth 100000 in
theorem laws_FnExactRevolvingList.calls (k : Nat) (a0 a1 : Int) (w : World) (h : laws_FnExactRevolvingList.Fine k a0 a1) :
    Calls Try.prog 11 #[.int .i64 a0, .int .i64 a1] w fun e w' => e = .returned (.bool true) ∧ Below w.heap.size w w' := by
  obtain ⟨L, L', b, m, hs, hi, hq, hm, hh, h0, hl⟩ := h
  have Hs := Aside0.mk hs
  have Hi := Aside0.mk hi
  have Hq := Aside0.mk hq
  have Hm := Aside0.mk hm
  have Hh := Aside0.mk hh
  have Hl := Aside0.mk hl
  clear hs hi hq hm hh hl
  cases b <;>
  · go_enter Try.func11, Try.ntmps11
    go_wp2_with fail
    refine (spec_RevolvingList.calls k a0 a1 L _ _ Hs.out).mono ?_
    rintro e w1 ⟨v0, rfl, hN, hb1⟩
    obtain ⟨A0, c0, rfl⟩ := Kd.N_slice hN
    have HC0 := Aside0.mk (Kd.N_reads' hN).2.2
    have Hc0 := Aside0.mk (Kd.N_reads' hN).2.1
    have HB1 := Aside0.mk hb1
    clear hN hb1
    go_wp2_with fail
    refine (impl_RevolvingList.calls k a0 a1 L _ _ Hi.out).mono ?_
    rintro e w2 ⟨v1, rfl, hS, hb2⟩
    obtain ⟨A1, c1, rfl⟩ := Kd.R_slice (Kd.S_R hS)
    have HS := Aside0.mk hS
    have HB2 := Aside0.mk hb2
    clear hS hb2
    go_wp2_with fail
    refine (laws_eqIntSS.calls k A1 c1 L A0 c0 L true _ (Kd.R_reads' (Kd.S_R HS.out)).2.2 (Kd.R_reads' (Kd.S_R HS.out)).2.1 (Kd.C_below HC0.out HB2.out) Hc0.out Hq.out).mono ?_
    rintro e w3 ⟨rfl, ⟨n3, rfl⟩⟩
    go_wp2_with fail
    refine (laws_markIntSS.calls k (fun k_ => w1.heap.size ≤ k_) (.slice A1 L.length c1) L 1 m L' w1 _ (pw_below_drewN HB2.out n3) (Kd.S_drewN (Kd.S_mono (Kd.S_bound HS.out) (fun k_ hk => hk.2.1)) n3) Hm.out).mono ?_
    rintro e w4 ⟨rfl, ho4, hb4, hk4⟩
    have HS4 := Aside0.mk ho4
    have HB4 := Aside0.mk hb4
    clear ho4 hb4 hk4
    obtain ⟨hn4, hc4, hC4⟩ := Kd.R_reads' (Kd.S_R HS4.out)
    have HC4 := Aside0.mk hC4
    have Hc4 := Aside0.mk hc4
    clear hn4 hc4 hC4
    go_wp2_with fail
    have h40 := laws_heldIntSS.calls k A1 c1 L' 1 m w4 HC4.out (by have := Hc4.out; have := Hl.out; omega) Hh.out
    rw [Hl.out] at h40
    refine h40.mono ?_
    clear h40
    rintro e w5 ⟨rfl, ⟨n5, rfl⟩⟩
    have p0 : decide (m < 0) = false := decide_eq_false (by omega)
    go_wp2_with fail
    refine (impl_RevolvingList.calls k a0 a1 L _ _ Hi.out).mono ?_
    rintro e w6 ⟨v2, rfl, hS6, hb6⟩
    obtain ⟨A2, c2, rfl⟩ := Kd.R_slice (Kd.S_R hS6)
    obtain ⟨hn6, hc6, hC6⟩ := Kd.R_reads' (Kd.S_R hS6)
    have HC6 := Aside0.mk hC6
    have Hc6 := Aside0.mk hc6
    have HB6 := Aside0.mk (show Below w4.heap.size w4 w6 from (pw_below_drewN (Below.refl w4.heap.size w4) n5).trans hb6)
    clear hS6 hb6 hn6 hc6 hC6
    have HB16 := Aside0.mk (HB4.out.trans (HB6.out.mono HB4.out.size))
    go_wp2_with fail
    refine (laws_eqIntSS.calls k A2 c2 L A0 c0 L true _ HC6.out Hc6.out (Kd.C_below HC0.out HB16.out) Hc0.out Hq.out).mono ?_
    rintro e w7 ⟨rfl, ⟨n7, rfl⟩⟩
    go_wp2_with fail
    have h40 := laws_heldIntSS.calls k A1 c1 L' 1 m (w6.drewN n7) (Kd.C_drewN (Kd.C_below HC4.out HB6.out) n7) (by have := Hc4.out; have := Hl.out; omega) Hh.out
    rw [Hl.out] at h40
    refine h40.mono ?_
    clear h40
    rintro e w8 ⟨rfl, ⟨n8, rfl⟩⟩
    go_wp2
    go_ret
    exact ⟨rfl, pw_below_drewN (HB1.out.trans (HB16.out.mono HB1.out.size)) _⟩

end Go.Proofs.Ytcohdpmdgplgfaa.MFnExactRevolvingList
