import Derived.Test.YtllhnnjkonghlaaMFnGreedyListsx0
import Derived.Test.YtllhnnjkonghlaaMFnGreedyListsx6
import Derived.Test.YtllhnnjkonghlaaMFnGreedyListsx7
import Derived.Test.YtllhnnjkonghlaaMFnGreedyListsx9
namespace Go.Proofs.Ytllhnnjkonghlaa.MFnGreedyLists
open Go.RowKit Go.Proofs.YtllhnnjkonghlaaW.PrintWords Go.Proofs.YtllhnnjkonghlaaW.PrintLast Go.Proofs.YtllhnnjkonghlaaW.PrintMore
attribute [local go_sem] max2_int min2_int max_two min_two max_three min_three max_four min_four   
set_option linter.unusedVariables false
set_option linter.unusedSimpArgs false
def spec_moLists.l0 : Nat → Int → List (List Int) → List (List Int) → Int → Int → Option (Bool)
 | 0, _, _, _, _, _ => none
 | k + 1, x0, x1, x7, x8, x9 => if x9 < x8 then (if 0 ≤ x9 then (if x9 < (x7.length : Int) then (if ((rd_L3 x7 x9).length : Int) = x0 then ((spec_raPermutation.f k (rd_L3 x7 x9)).bind fun t488 => (if t488 = true then (spec_moLists.l0 k x0 x1 x7 x8 (wrap64 (x9 + 1))) else (some false))) else (some false)) else (none)) else (none)) else (some (decide ((x1.length : Int) ≤ 1100)))
def spec_moLists.f (k : Nat) (a0 : Int) (l1 : List (List Int)) : Option (Bool) := spec_moLists.l0 k a0 l1 l1 (l1.length : Int) 0
theorem spec_moLists.mono_l : ∀ k, (∀ y0 y1 y2 y3 y4, LeO (spec_moLists.l0 k y0 y1 y2 y3 y4) (spec_moLists.l0 (k + 1) y0 y1 y2 y3 y4))
 | 0 => fun _ _ _ _ _ r h => by simp [spec_moLists.l0] at h
 | k + 1 => by
  have ih0 := spec_moLists.mono_l k
  ·intro y0 y1 y2 y3 y4
   unfold spec_moLists.l0
   repeat' first
   | (with_reducible exact ih0 _ _ _ _ _)
   | (with_reducible exact spec_raPermutation.mono _ _)
   | (with_reducible exact LeO.refl _)
   | (with_reducible exact LeO.none _)
   | (with_reducible refine LeO.ite ?_ ?_)
   | (with_reducible refine LeO.bind ?_ (fun _ => ?_))
   | exact ih0 _ _ _ _ _
   | exact spec_raPermutation.mono _ _
   | exact LeO.none _
   | refine LeO.ite ?_ ?_
   | refine LeO.bind ?_ (fun _ => ?_)
theorem spec_moLists.mono : ∀ a0 a1 k, LeO (spec_moLists.f k a0 a1) (spec_moLists.f (k + 1) a0 a1) := by
 intro a0 a1 k
 have ih0 := spec_moLists.mono_l k
 unfold spec_moLists.f
 repeat' first
   | (with_reducible exact ih0 _ _ _ _ _)
   | (with_reducible exact spec_raPermutation.mono _ _)
   | (with_reducible exact LeO.refl _)
   | (with_reducible exact LeO.none _)
   | (with_reducible refine LeO.ite ?_ ?_)
   | (with_reducible refine LeO.bind ?_ (fun _ => ?_))
   | exact ih0 _ _ _ _ _
   | exact spec_raPermutation.mono _ _
   | exact LeO.none _
   | refine LeO.ite ?_ ?_
   | refine LeO.bind ?_ (fun _ => ?_)
set_option maxHeartbeats 8000000 in
set_option maxRecDepth 100000 in
theorem spec_moLists.calls (k : Nat) (a0 : Int) (A1 : Option Addr) (c1 : Nat) (l1 : List (List Int)) (r : Bool) (w : World) (hr1 : Kd.C (Kd.slice 3 (Kd.int .i64)) w A1 l1.length l1) (hc1 : l1.length ≤ c1) (h : spec_moLists.f k a0 l1 = some r) :
  Calls Try.prog 78 #[.int .i64 a0, .slice A1 l1.length c1] w fun e w' => e = .returned (.bool r) ∧ Drawn0 w w' := by
 have HR1 := Ya hr1
 have HC1 := Ya hc1
 clear hr1 hc1
 have H : (spec_moLists.l0 k a0 l1 l1 (l1.length : Int) 0) = some r := h
 clear h
 have H' := Ya H
 clear H
 go_enter Try.func78, Try.ntmps78
 go_wp2
 go_loopg [9] k (fun kq v9 w' => ∃ (x9_1 : Int), v9 = .int .i64 x9_1 ∧ Aside0 (spec_moLists.l0 kq a0 l1 l1 (l1.length : Int) x9_1 = some r) ∧ Aside0 (kq ≤ k) ∧ Drawn0 w w')
 case atStart => exact ⟨(0), Q5, H', ⟨Nat.le_refl _⟩, Q7⟩
 case round =>
  clear H'
  try clear c1
  try clear p2
  obtain ⟨x9_1, rfl, HA, HK1, ⟨m1, rfl⟩⟩ := hrel
  cases gk with
  | zero => exact absurd HA.out (by simp [spec_moLists.l0])
  | succ k1 =>
   have H := HA.out
   clear HA
   simp only [spec_moLists.l0] at H
   by_cases c3 : x9_1 < (l1.length : Int)
   ·rw [if_pos c3] at H
    have c3b0 := Z37 c3
    clear c3
    by_cases c4 : 0 ≤ x9_1
    ·rw [if_pos c4] at H
     have c4b0 := Z37 c4
     clear c4
     by_cases c5 : x9_1 < (l1.length : Int)
     ·rw [if_pos c5] at H
      have c5b0 := Z37 c5
      clear c5
      by_cases c6 : ((rd_L3 l1 x9_1).length : Int) = a0
      ·rw [if_pos c6] at H
       have c6b0 : (((rd_L3 l1 x9_1).length : Int) == a0) = true := beq_iff_eq.mpr c6
       have c6b1 : (((rd_L3 l1 x9_1).length : Int) != a0) = false := bne_eq_false_iff_eq.mpr c6
       clear c6
       replace H := Z35.mp H
       obtain ⟨t488, A70, H⟩ := H
       replace H : (if t488 = true then (spec_moLists.l0 k1 a0 l1 l1 (l1.length : Int) (wrap64 (x9_1 + 1))) else (some false)) = some r := H
       have A7 := Ya A70
       clear A70
       by_cases c8 : t488 = true
       ·subst c8
        have H1 : (spec_moLists.l0 k1 a0 l1 l1 (l1.length : Int) (wrap64 (x9_1 + 1))) = some r := by rw [if_pos rfl] at H; exact H
        clear H
        have H := H1
        clear H1
        have H' := Ya H
        clear H
        have p487 : 0 ≤ (x9_1 : Int) := Z29 Q1
        have q487 : x9_1 < (l1.length : Int) := Z29 Q1
        obtain ⟨ad487, A487_0, c487_0, e487, hx487_0, hl487_0, hi487_0⟩ := at_L3 HR1.out x9_1 p487 q487
        cases e487
        have HR487_0 := Ya hi487_0
        have HC487_0 := Ya hl487_0
        clear hi487_0 hl487_0
        replace p487 := eq_true p487
        replace q487 := eq_true q487
        go_wp2_with (first | (go_at_call 97; (with_reducible refine (spec_raPermutation.calls k1 _ _ (rd_L3 l1 x9_1) true _ (Yc HR487_0.out) HC487_0.out A7.out).mono ?_); rintro e w' ⟨rfl, ⟨nd, rfl⟩⟩))
        go_roundg k1
        case measure => have := HK1.out; omega
        case rel => exact ⟨(wrap64 (x9_1 + 1)), Q5, H', ⟨Q28⟩, Q7⟩
       ·replace c8 := Bool.eq_false_iff.mpr c8
        subst c8
        have H1 : (some false) = some r := by rw [if_neg (show ¬ (false = true) by decide)] at H; exact H
        clear H
        have H := H1
        clear H1
        obtain rfl := Option.some.inj H
        have p487 : 0 ≤ (x9_1 : Int) := Z29 Q1
        have q487 : x9_1 < (l1.length : Int) := Z29 Q1
        obtain ⟨ad487, A487_0, c487_0, e487, hx487_0, hl487_0, hi487_0⟩ := at_L3 HR1.out x9_1 p487 q487
        cases e487
        have HR487_0 := Ya hi487_0
        have HC487_0 := Ya hl487_0
        clear hi487_0 hl487_0
        replace p487 := eq_true p487
        replace q487 := eq_true q487
        go_wp2_with (first | (go_at_call 97; (with_reducible refine (spec_raPermutation.calls k1 _ _ (rd_L3 l1 x9_1) false _ (Yc HR487_0.out) HC487_0.out A7.out).mono ?_); rintro e w' ⟨rfl, ⟨nd, rfl⟩⟩))
        go_ret
        exact ⟨Q18, Q7⟩
      ·rw [if_neg c6] at H
       have c6b0 : (((rd_L3 l1 x9_1).length : Int) == a0) = false := beq_eq_false_iff_ne.mpr c6
       have c6b1 : (((rd_L3 l1 x9_1).length : Int) != a0) = true := bne_iff_ne.mpr c6
       obtain rfl := Option.some.inj H
       have p487 : 0 ≤ (x9_1 : Int) := Z29 Q1
       have q487 : x9_1 < (l1.length : Int) := Z29 Q1
       obtain ⟨ad487, A487_0, c487_0, e487, hx487_0, hl487_0, hi487_0⟩ := at_L3 HR1.out x9_1 p487 q487
       cases e487
       have HR487_0 := Ya hi487_0
       have HC487_0 := Ya hl487_0
       clear hi487_0 hl487_0
       replace p487 := eq_true p487
       replace q487 := eq_true q487
       go_wp2
       go_ret
       exact ⟨Q18, Q7⟩
     ·rw [if_neg c5] at H
      exact absurd H (by simp)
    ·rw [if_neg c4] at H
     exact absurd H (by simp)
   ·rw [if_neg c3] at H
    have c3b0 := Z36 c3
    clear c3
    obtain rfl := Option.some.inj H
    go_wp2
    go_ret
    exact ⟨Q18, Q7⟩
def spec_moWhich.l0 : Nat → List Int → List Int → List (S45) → Int → Int → Option (Int)
 | 0, _, _, _, _, _ => none
 | k + 1, x0, x1, x9, x10, x11 => if x11 < x10 then (if 0 ≤ x11 then (if x11 < (x9.length : Int) then ((spec_moApply.f k x0 ((rd_T45 x9 x11).f0) ((rd_T45 x9 x11).f1) ((rd_T45 x9 x11).f2)).bind fun t491 => ((spec_l1Same.f k t491 x1).bind fun t494 => (if t494 = true then (some x11) else (spec_moWhich.l0 k x0 x1 x9 x10 (wrap64 (x11 + 1)))))) else (none)) else (none)) else (some (-1))
def spec_moWhich.f (k : Nat) (l0 : List Int) (l1 : List Int) (l2 : List (S45)) : Option (Int) := spec_moWhich.l0 k l0 l1 l2 (l2.length : Int) 0
theorem spec_moWhich.mono_l : ∀ k, (∀ y0 y1 y2 y3 y4, LeO (spec_moWhich.l0 k y0 y1 y2 y3 y4) (spec_moWhich.l0 (k + 1) y0 y1 y2 y3 y4))
 | 0 => fun _ _ _ _ _ r h => by simp [spec_moWhich.l0] at h
 | k + 1 => by
  have ih0 := spec_moWhich.mono_l k
  ·intro y0 y1 y2 y3 y4
   unfold spec_moWhich.l0
   repeat' first
   | (with_reducible exact ih0 _ _ _ _ _)
   | (with_reducible exact spec_l1Same.mono _ _ _)
   | (with_reducible exact spec_moApply.mono _ _ _ _ _)
   | (with_reducible exact LeO.refl _)
   | (with_reducible exact LeO.none _)
   | (with_reducible refine LeO.ite ?_ ?_)
   | (with_reducible refine LeO.bind ?_ (fun _ => ?_))
   | exact ih0 _ _ _ _ _
   | exact spec_l1Same.mono _ _ _
   | exact spec_moApply.mono _ _ _ _ _
   | exact LeO.none _
   | refine LeO.ite ?_ ?_
   | refine LeO.bind ?_ (fun _ => ?_)
theorem spec_moWhich.mono : ∀ a0 a1 a2 k, LeO (spec_moWhich.f k a0 a1 a2) (spec_moWhich.f (k + 1) a0 a1 a2) := by
 intro a0 a1 a2 k
 have ih0 := spec_moWhich.mono_l k
 unfold spec_moWhich.f
 repeat' first
   | (with_reducible exact ih0 _ _ _ _ _)
   | (with_reducible exact spec_l1Same.mono _ _ _)
   | (with_reducible exact spec_moApply.mono _ _ _ _ _)
   | (with_reducible exact LeO.refl _)
   | (with_reducible exact LeO.none _)
   | (with_reducible refine LeO.ite ?_ ?_)
   | (with_reducible refine LeO.bind ?_ (fun _ => ?_))
   | exact ih0 _ _ _ _ _
   | exact spec_l1Same.mono _ _ _
   | exact spec_moApply.mono _ _ _ _ _
   | exact LeO.none _
   | refine LeO.ite ?_ ?_
   | refine LeO.bind ?_ (fun _ => ?_)
set_option maxHeartbeats 8000000 in
set_option maxRecDepth 100000 in
theorem spec_moWhich.calls (k : Nat) (A0 : Option Addr) (c0 : Nat) (l0 : List Int) (A1 : Option Addr) (c1 : Nat) (l1 : List Int) (A2 : Option Addr) (c2 : Nat) (l2 : List (S45)) (r : Int) (w : World) (hr0 : Kd.C (Kd.int .i64) w A0 l0.length l0) (hc0 : l0.length ≤ c0) (hr1 : Kd.C (Kd.int .i64) w A1 l1.length l1) (hc1 : l1.length ≤ c1) (hr2 : Kd.C k45 w A2 l2.length l2) (hc2 : l2.length ≤ c2) (h : spec_moWhich.f k l0 l1 l2 = some r) :
  Calls Try.prog 98 #[.slice A0 l0.length c0, .slice A1 l1.length c1, .slice A2 l2.length c2] w fun e w' => e = .returned (.int .i64 r) ∧ Below w.heap.size w w' := by
 have hu45 := Try.underlying45
 have HR0 := Ya hr0
 have HC0 := Ya hc0
 clear hr0 hc0
 have HR1 := Ya hr1
 have HC1 := Ya hc1
 clear hr1 hc1
 have HR2 := Ya hr2
 have HC2 := Ya hc2
 clear hr2 hc2
 have HB := Ya (Below.refl w.heap.size w)
 have H : (spec_moWhich.l0 k l0 l1 l2 (l2.length : Int) 0) = some r := h
 clear h
 have H' := Ya H
 clear H
 go_enter Try.func98, Try.ntmps98
 go_wp2
 go_loopg [11] k (fun kq v11 w' => ∃ (x11_1 : Int), v11 = .int .i64 x11_1 ∧ Aside0 (spec_moWhich.l0 kq l0 l1 l2 (l2.length : Int) x11_1 = some r) ∧ Aside0 (kq ≤ k) ∧ Aside0 (Below w.heap.size w w'))
 case atStart => exact ⟨(0), Q5, H', ⟨Nat.le_refl _⟩, ⟨Q0⟩⟩
 case round =>
  clear H'
  try clear c1
  try clear c2
  try clear p2
  obtain ⟨x11_1, rfl, HA, HK1, HB⟩ := hrel
  cases gk with
  | zero => exact absurd HA.out (by simp [spec_moWhich.l0])
  | succ k1 =>
   have H := HA.out
   clear HA
   simp only [spec_moWhich.l0] at H
   by_cases c4 : x11_1 < (l2.length : Int)
   ·rw [if_pos c4] at H
    have c4b0 := Z37 c4
    clear c4
    by_cases c5 : 0 ≤ x11_1
    ·rw [if_pos c5] at H
     have c5b0 := Z37 c5
     clear c5
     by_cases c6 : x11_1 < (l2.length : Int)
     ·rw [if_pos c6] at H
      have c6b0 := Z37 c6
      clear c6
      replace H := Z35.mp H
      obtain ⟨t491, A70, H⟩ := H
      replace H : ((spec_l1Same.f k1 t491 l1).bind fun t494 => (if t494 = true then (some x11_1) else (spec_moWhich.l0 k1 l0 l1 l2 (l2.length : Int) (wrap64 (x11_1 + 1))))) = some r := H
      have A7 := Ya A70
      clear A70
      replace H := Z35.mp H
      obtain ⟨t494, A80, H⟩ := H
      replace H : (if t494 = true then (some x11_1) else (spec_moWhich.l0 k1 l0 l1 l2 (l2.length : Int) (wrap64 (x11_1 + 1)))) = some r := H
      have A8 := Ya A80
      clear A80
      by_cases c9 : t494 = true
      ·subst c9
       have H1 : (some x11_1) = some r := by rw [if_pos rfl] at H; exact H
       clear H
       have H := H1
       clear H1
       obtain rfl := Option.some.inj H
       have p489 : 0 ≤ (x11_1 : Int) := Z29 Q1
       have q489 : x11_1 < (l2.length : Int) := Z29 Q1
       obtain ⟨ad489, e489, hx489_0, hx489_1, hx489_2⟩ := at_T45 HR2.out x11_1 p489 q489
       cases e489
       try replace hx489_0 := (HB.out.cell (World.block_lt_of_cell? w _ hx489_0)).trans hx489_0
       try replace hx489_1 := (HB.out.cell (World.block_lt_of_cell? w _ hx489_1)).trans hx489_1
       try replace hx489_2 := (HB.out.cell (World.block_lt_of_cell? w _ hx489_2)).trans hx489_2
       replace p489 := eq_true p489
       replace q489 := eq_true q489
       go_wp2_with (first | ((with_reducible refine gate_dst (N := 8) rfl ?_); refine Yx 8 #[.int .i64 0, .int .i64 0, .int .i64 0] 45 ?_; intro gb490 hg w10 hbox hb; have BK490 := Ya hbox; have GE490 := Yg hg; replace HB := Yh hb; clear hb hbox hg; have hcz11_0 : w10.cell? ⟨gb490, 0, none⟩ = some (.int .i64 0) := (Z22 BK490.out 0).trans rfl; have hcz11_1 : w10.cell? ⟨gb490, 1, none⟩ = some (.int .i64 0) := (Z22 BK490.out 1).trans rfl; have hcz11_2 : w10.cell? ⟨gb490, 2, none⟩ = some (.int .i64 0) := (Z22 BK490.out 2).trans rfl; have hfz11_0 := Z23 BK490.out 0; have hfz11_1 := Z23 BK490.out 1; have hfz11_2 := Z23 BK490.out 2) | ((with_reducible refine gate_callee (f := 72) rfl ?_); refine Yz 18 Try.func72 #[.slice A0 l0.length c0, .agg #[.int .i64 ((rd_T45 l2 x11_1).f0), .int .i64 ((rd_T45 l2 x11_1).f1), .int .i64 ((rd_T45 l2 x11_1).f2)]] ?_; (with_reducible refine (spec_moApply.calls k1 _ _ l0 ((rd_T45 l2 x11_1).f0) ((rd_T45 l2 x11_1).f1) ((rd_T45 l2 x11_1).f2) t491 _ ?side1 HC0.out A7.out).mono ?_); (case side1 => exact Z21 HR0.out Q12); rintro e w12 ⟨v492, rfl, ho0, hb⟩; refine ⟨_, rfl, ?_⟩; have HO493 := Yl ho0; replace BK490 := Yb ⟨Yv3 BK490.out⟩ hb; replace HB := Yh hb; (try clear hb ho0); obtain ⟨Ao13, co13, rfl⟩ := Z17 HO493.out) | ((with_reducible refine gate_callee (f := 99) rfl ?_); refine Yz 20 Try.func99 #[.slice Ao13 t491.length co13, .slice A1 l1.length c1] ?_; (with_reducible refine (spec_l1Same.calls k1 _ _ t491 _ _ l1 true _ (Yc (Kd.R_reads' HO493.out).2.2) ((Kd.R_reads' HO493.out).2.1) (Yc (Z21 HR1.out HB.out)) HC1.out A8.out).mono ?_); rintro e w' ⟨rfl, ⟨nd, rfl⟩⟩; refine ⟨_, rfl, ?_⟩))
       go_ret
       exact ⟨Q2, Q0⟩
      ·replace c9 := Bool.eq_false_iff.mpr c9
       subst c9
       have H1 : (spec_moWhich.l0 k1 l0 l1 l2 (l2.length : Int) (wrap64 (x11_1 + 1))) = some r := by rw [if_neg (show ¬ (false = true) by decide)] at H; exact H
       clear H
       have H := H1
       clear H1
       have H' := Ya H
       clear H
       have p489 : 0 ≤ (x11_1 : Int) := Z29 Q1
       have q489 : x11_1 < (l2.length : Int) := Z29 Q1
       obtain ⟨ad489, e489, hx489_0, hx489_1, hx489_2⟩ := at_T45 HR2.out x11_1 p489 q489
       cases e489
       try replace hx489_0 := (HB.out.cell (World.block_lt_of_cell? w _ hx489_0)).trans hx489_0
       try replace hx489_1 := (HB.out.cell (World.block_lt_of_cell? w _ hx489_1)).trans hx489_1
       try replace hx489_2 := (HB.out.cell (World.block_lt_of_cell? w _ hx489_2)).trans hx489_2
       replace p489 := eq_true p489
       replace q489 := eq_true q489
       go_wp2_with (first | ((with_reducible refine gate_dst (N := 8) rfl ?_); refine Yx 8 #[.int .i64 0, .int .i64 0, .int .i64 0] 45 ?_; intro gb490 hg w14 hbox hb; have BK490 := Ya hbox; have GE490 := Yg hg; replace HB := Yh hb; clear hb hbox hg; have hcz15_0 : w14.cell? ⟨gb490, 0, none⟩ = some (.int .i64 0) := (Z22 BK490.out 0).trans rfl; have hcz15_1 : w14.cell? ⟨gb490, 1, none⟩ = some (.int .i64 0) := (Z22 BK490.out 1).trans rfl; have hcz15_2 : w14.cell? ⟨gb490, 2, none⟩ = some (.int .i64 0) := (Z22 BK490.out 2).trans rfl; have hfz15_0 := Z23 BK490.out 0; have hfz15_1 := Z23 BK490.out 1; have hfz15_2 := Z23 BK490.out 2) | ((with_reducible refine gate_callee (f := 72) rfl ?_); refine Yz 18 Try.func72 #[.slice A0 l0.length c0, .agg #[.int .i64 ((rd_T45 l2 x11_1).f0), .int .i64 ((rd_T45 l2 x11_1).f1), .int .i64 ((rd_T45 l2 x11_1).f2)]] ?_; (with_reducible refine (spec_moApply.calls k1 _ _ l0 ((rd_T45 l2 x11_1).f0) ((rd_T45 l2 x11_1).f1) ((rd_T45 l2 x11_1).f2) t491 _ ?side1 HC0.out A7.out).mono ?_); (case side1 => exact Z21 HR0.out Q12); rintro e w16 ⟨v492, rfl, ho0, hb⟩; refine ⟨_, rfl, ?_⟩; have HO493 := Yl ho0; replace BK490 := Yb ⟨Yv3 BK490.out⟩ hb; replace HB := Yh hb; (try clear hb ho0); obtain ⟨Ao17, co17, rfl⟩ := Z17 HO493.out) | ((with_reducible refine gate_callee (f := 99) rfl ?_); refine Yz 20 Try.func99 #[.slice Ao17 t491.length co17, .slice A1 l1.length c1] ?_; (with_reducible refine (spec_l1Same.calls k1 _ _ t491 _ _ l1 false _ (Yc (Kd.R_reads' HO493.out).2.2) ((Kd.R_reads' HO493.out).2.1) (Yc (Z21 HR1.out HB.out)) HC1.out A8.out).mono ?_); rintro e w' ⟨rfl, ⟨nd, rfl⟩⟩; refine ⟨_, rfl, ?_⟩))
       go_roundg k1
       case measure => have := HK1.out; omega
       case rel => exact ⟨(wrap64 (x11_1 + 1)), Q5, H', ⟨Q28⟩, ⟨Q0⟩⟩
     ·rw [if_neg c6] at H
      exact absurd H (by simp)
    ·rw [if_neg c5] at H
     exact absurd H (by simp)
   ·rw [if_neg c4] at H
    have c4b0 := Z36 c4
    clear c4
    obtain rfl := Option.some.inj H
    go_wp2
    go_ret
    exact ⟨Q2, Q0⟩
def spec_moSteps.l0 : Nat → List (List Int) → List (S45) → List Int → Int → Option (List Int × Bool)
 | 0, _, _, _, _ => none
 | k + 1, x0, x1, x6, x7 => if x7 < (x0.length : Int) then (if 0 ≤ (wrap64 (x7 - 1)) then (if (wrap64 (x7 - 1)) < (x0.length : Int) then (if 0 ≤ x7 then ((spec_moWhich.f k (rd_L3 x0 (wrap64 (x7 - 1))) (rd_L3 x0 x7) x1).bind fun t497 => (if t497 < 0 then (some (([] : List Int), false)) else (if x6.length < 17592186044416 then (spec_moSteps.l0 k x0 x1 (x6 ++ [t497]) (wrap64 (x7 + 1))) else (none)))) else (none)) else (none)) else (none)) else (some (x6, true))
def spec_moSteps.f (k : Nat) (l0 : List (List Int)) (l1 : List (S45)) : Option (List Int × Bool) := spec_moSteps.l0 k l0 l1 ([] : List Int) 1
theorem spec_moSteps.mono_l : ∀ k, (∀ y0 y1 y2 y3, LeO (spec_moSteps.l0 k y0 y1 y2 y3) (spec_moSteps.l0 (k + 1) y0 y1 y2 y3))
 | 0 => fun _ _ _ _ r h => by simp [spec_moSteps.l0] at h
 | k + 1 => by
  have ih0 := spec_moSteps.mono_l k
  ·intro y0 y1 y2 y3
   unfold spec_moSteps.l0
   repeat' first
   | (with_reducible exact ih0 _ _ _ _)
   | (with_reducible exact spec_moWhich.mono _ _ _ _)
   | (with_reducible exact LeO.refl _)
   | (with_reducible exact LeO.none _)
   | (with_reducible refine LeO.ite ?_ ?_)
   | (with_reducible refine LeO.bind ?_ (fun _ => ?_))
   | exact ih0 _ _ _ _
   | exact spec_moWhich.mono _ _ _ _
   | exact LeO.none _
   | refine LeO.ite ?_ ?_
   | refine LeO.bind ?_ (fun _ => ?_)
theorem spec_moSteps.mono : ∀ a0 a1 k, LeO (spec_moSteps.f k a0 a1) (spec_moSteps.f (k + 1) a0 a1) := by
 intro a0 a1 k
 have ih0 := spec_moSteps.mono_l k
 unfold spec_moSteps.f
 repeat' first
   | (with_reducible exact ih0 _ _ _ _)
   | (with_reducible exact spec_moWhich.mono _ _ _ _)
   | (with_reducible exact LeO.refl _)
   | (with_reducible exact LeO.none _)
   | (with_reducible refine LeO.ite ?_ ?_)
   | (with_reducible refine LeO.bind ?_ (fun _ => ?_))
   | exact ih0 _ _ _ _
   | exact spec_moWhich.mono _ _ _ _
   | exact LeO.none _
   | refine LeO.ite ?_ ?_
   | refine LeO.bind ?_ (fun _ => ?_)
def spec_moSteps.T5 : Bool × List (List Nat × List Nat) := (true, [([], []), ([], []), ([1], [1]), ([0, 2], [0, 2]), ([3], [3]), ([], []), ([], []), ([5, 6], [5, 6]), ([7], [7]), ([], []), ([4, 8, 9], [4, 8, 9]), ([10, 10, 0, 1, 2, 3, 4, 5, 6, 7, 8, 9, 10], [10])])
def spec_moSteps.B5 : List Nat := [0, 0, 2, 7, 15, 0, 0, 96, 224, 0, 1023, 2047]
theorem spec_moSteps.tab5 : rtab .any (opsOf Try.f79 5) = spec_moSteps.T5 := by kernel_rfl
theorem spec_moSteps.bits5 : waitsOk spec_moSteps.T5.2 spec_moSteps.B5 = true := by kernel_rfl
set_option maxHeartbeats 8000000 in
set_option maxRecDepth 100000 in
theorem spec_moSteps.calls (k : Nat) (A0 : Option Addr) (c0 : Nat) (l0 : List (List Int)) (A1 : Option Addr) (c1 : Nat) (l1 : List (S45)) (r1 : List Int) (r2 : Bool) (w : World) (hr0 : Kd.C (Kd.slice 3 (Kd.int .i64)) w A0 l0.length l0) (hc0 : l0.length ≤ c0) (hr1 : Kd.C k45 w A1 l1.length l1) (hc1 : l1.length ≤ c1) (h : spec_moSteps.f k l0 l1 = some (r1, r2)) :
  Calls Try.prog 79 #[.slice A0 l0.length c0, .slice A1 l1.length c1] w fun e w' => ∃ v0_ : Value, e = .returned (.tuple #[v0_, .bool r2]) ∧ Kd.R (Kd.int .i64) 3 w' w.heap.size (fun _ => True) v0_ r1 ∧ Below w.heap.size w w' := by
 have HR0 := Ya hr0
 have HC0 := Ya hc0
 clear hr0 hc0
 have HR1 := Ya hr1
 have HC1 := Ya hc1
 clear hr1 hc1
 have HB := Ya (Below.refl w.heap.size w)
 have H : (spec_moSteps.l0 k l0 l1 ([] : List Int) 1) = some (r1, r2) := h
 clear h
 have H' := Ya H
 clear H
 go_enter Try.func79, Try.ntmps79
 go_wp2
 go_loopg [6, 7] k (fun kq v6 v7 w' => ∃ (x6_1 : List Int) (x7_1 : Int), v7 = .int .i64 x7_1 ∧ Aside0 (spec_moSteps.l0 kq l0 l1 x6_1 x7_1 = some (r1, r2)) ∧ Aside0 (kq ≤ k) ∧ Aside0 (Kd.R (Kd.int .i64) 3 w' w.heap.size (fun _ => True) v6 x6_1) ∧ Aside0 (Below w.heap.size w w'))
 case atStart => exact ⟨(([] : List Int)), (1), Q5, H', ⟨Nat.le_refl _⟩, ⟨Q11⟩, ⟨Q0⟩⟩
 case round =>
  clear H'
  try clear c1
  try clear p2
  obtain ⟨x6_1, x7_1, rfl, HA, HK1, HO_6, HB⟩ := hrel
  cases gk with
  | zero => exact absurd HA.out (by simp [spec_moSteps.l0])
  | succ k1 =>
   have H := HA.out
   clear HA
   simp only [spec_moSteps.l0] at H
   by_cases c3 : x7_1 < (l0.length : Int)
   ·rw [if_pos c3] at H
    have c3b0 := Z37 c3
    clear c3
    obtain ⟨ji4, hji4⟩ : ∃ j_ : Int, (wrap64 (x7_1 - 1)) = j_ := ⟨_, rfl⟩
    replace H : (if 0 ≤ (ji4) then (if (ji4) < (l0.length : Int) then (if 0 ≤ x7_1 then ((spec_moWhich.f k1 (rd_L3 l0 (ji4)) (rd_L3 l0 x7_1) l1).bind fun t497 => (if t497 < 0 then (some (([] : List Int), false)) else (if x6_1.length < 17592186044416 then (spec_moSteps.l0 k1 l0 l1 (x6_1 ++ [t497]) (wrap64 (x7_1 + 1))) else (none)))) else (none)) else (none)) else (none)) = some (r1, r2) := by first | (rw [hji4] at H; exact H) | (simp only [hji4] at H ⊢; exact H)
    have hji4w : (IntKind.i64.wrap (x7_1 - 1)) = ji4 := (i64_w _).trans hji4
    by_cases c5 : 0 ≤ (ji4)
    ·rw [if_pos c5] at H
     have c5b0 := Z37 c5
     clear c5
     by_cases c6 : (ji4) < (l0.length : Int)
     ·rw [if_pos c6] at H
      have c6b0 := Z37 c6
      clear c6
      by_cases c7 : 0 ≤ x7_1
      ·rw [if_pos c7] at H
       have c7b0 := Z37 c7
       clear c7
       replace H := Z35.mp H
       obtain ⟨t497, A80, H⟩ := H
       replace H : (if t497 < 0 then (some (([] : List Int), false)) else (if x6_1.length < 17592186044416 then (spec_moSteps.l0 k1 l0 l1 (x6_1 ++ [t497]) (wrap64 (x7_1 + 1))) else (none))) = some (r1, r2) := H
       have A8 := Ya A80
       clear A80
       by_cases c9 : t497 < 0
       ·rw [if_pos c9] at H
        have c9b0 := Z37 c9
        clear c9
        simp only [Option.some.injEq, Prod.mk.injEq] at H
        obtain ⟨rfl, rfl⟩ := H
        try go_wp2
        replace HO_6 := Ya (Z11 HO_6.out)
        replace HB := Ya (Z4 HB.out)
        have p495 : 0 ≤ ((ji4) : Int) := Z29 Q1
        have q495 : (ji4) < (l0.length : Int) := Z29 Q1
        obtain ⟨ad495, A495_0, c495_0, e495, hx495_0, hl495_0, hi495_0⟩ := at_L3 HR0.out (ji4) p495 q495
        have hw495_0 := hx495_0
        cases e495
        try replace hx495_0 := (HB.out.cell (World.block_lt_of_cell? w _ hx495_0)).trans hx495_0
        have HR495_0 := Ya hi495_0
        have HC495_0 := Ya hl495_0
        clear hi495_0 hl495_0
        replace p495 := eq_true p495
        replace q495 := eq_true q495
        have p496 : 0 ≤ (x7_1 : Int) := Z29 Q1
        have q496 : x7_1 < (l0.length : Int) := Z29 Q1
        obtain ⟨ad496, A496_0, c496_0, e496, hx496_0, hl496_0, hi496_0⟩ := at_L3 HR0.out x7_1 p496 q496
        have hw496_0 := hx496_0
        obtain rfl : ad495 = ad496 := (by injection e496)
        try replace hx496_0 := (HB.out.cell (World.block_lt_of_cell? w _ hx496_0)).trans hx496_0
        have HR496_0 := Ya hi496_0
        have HC496_0 := Ya hl496_0
        clear hi496_0 hl496_0
        replace p496 := eq_true p496
        replace q496 := eq_true q496
        refine start_ (n := 12) (S := fun w' => w'.cell? (ad495.add ((ji4)).toNat) = some (.slice A495_0 (rd_L3 l0 (ji4)).length c495_0) ∧ w'.cell? (ad495.add (x7_1).toNat) = some (.slice A496_0 (rd_L3 l0 x7_1).length c496_0)) (ds := []) (YA 12 0) (by kernel_rfl) rfl rfl ⟨((HB.out.cell (World.block_lt_of_cell? w _ hw495_0)).trans hw495_0), ((HB.out.cell (World.block_lt_of_cell? w _ hw496_0)).trans hw496_0)⟩ (fun hHeld => ?_); refine with_tabW spec_moSteps.tab5 spec_moSteps.bits5 (fun HT_ HW_ => ?_)
        generalize wr.drew = w10 at HO_6 HB HR495_0 HR496_0 hx495_0 hx496_0 hHeld ⊢
        refine Yp 0 (some 15) (YA 12 1) rfl HT_.out ?_
        refine Yp 1 (some 16) (YA 12 3) rfl HT_.out ?_
        refine Yp 2 (some 17) (YA 12 7) rfl HT_.out ?_
        refine Yp 3 (some 18) (YA 12 15) rfl HT_.out ?_
        refine Yp 5 (some 20) (YA 12 47) rfl HT_.out ?_
        refine Yp 6 (some 21) (YA 12 111) rfl HT_.out ?_
        refine Yp 7 (some 22) (YA 12 239) rfl HT_.out ?_
        refine Yp 9 (some 24) (YA 12 751) rfl HT_.out ?_
        refine Yt 4 (some 19) (YA 12 767) rfl HT_.out HW_.out hHeld Q37 ?_
        refine Yt 8 (some 23) (YA 12 1023) rfl HT_.out HW_.out hHeld Q37 ?_
        refine one_ (i := 10) (N := some 25) (YA 12 2047) rfl rfl (one_of HT_.out (by kernel_rfl)) (by decide) (fun K hK => ?_)
        refine goes_ Try.func98 (by kernel_rfl) rfl #[.slice A495_0 (rd_L3 l0 (ji4)).length c495_0, .slice A496_0 (rd_L3 l0 x7_1).length c496_0, .slice A1 l1.length c1] (by rfl) rfl rfl (by (try simp only [Z32, Z33, Z34]); first | done | (simp only [hji4]; rfl) | rfl | (simp only [Z30, Z31]; rfl)) ?_
        with_reducible refine (spec_moWhich.calls k1 _ _ (rd_L3 l0 (ji4)) _ _ (rd_L3 l0 x7_1) _ _ l1 t497 _ ?side1 ?side2 ?side3 ?side4 ?side5 ?side6 A8.out).mono ?_
        (case side1 => exact Yc (Z21 HR495_0.out HB.out))
        (case side2 => exact HC495_0.out)
        (case side3 => exact Yc (Z21 HR496_0.out HB.out))
        (case side4 => exact HC496_0.out)
        (case side5 => exact Yc (Z21 HR1.out HB.out))
        (case side6 => exact HC1.out)
        rintro e w11 ⟨rfl, hb⟩
        refine ⟨_, rfl, ?_⟩
        replace HO_6 := Yw HO_6 hb
        replace HB := Yh hb
        (try clear hb)
        refine hK.out _ _ ⟨((HB.out.cell (World.block_lt_of_cell? w _ hw495_0)).trans hw495_0), ((HB.out.cell (World.block_lt_of_cell? w _ hw496_0)).trans hw496_0)⟩ (fun hHeld => ?_)
        clear hK K
        refine norm_ (a' := ?_) ?_ ?_
        rotate_left
        ·show Act.put _ (some 25) _ = _
         simp only [Act.put, Z0, Z1, Z2, i64_w, i32_w]
         rfl
        refine Yp 11 (some 8) (YA 12 4095) rfl HT_.out ?_
        refine done_ (done_of HT_.out (by kernel_rfl)) ?_
        try go_wp2
        go_ret2
        exact ⟨_, by first | rfl | (simp [errW_none, errW_some] <;> rfl) | (simp only [← hji4]; first | rfl | (simp [errW_none, errW_some] <;> rfl)) | (simp [*, errW_none, errW_some] <;> rfl), Q11, Q0⟩
       ·rw [if_neg c9] at H
        have c9b0 := Z36 c9
        clear c9
        by_cases c12 : x6_1.length < 17592186044416
        ·rw [if_pos c12] at H
         have LMc12 := Ya c12
         clear c12
         obtain ⟨y498, hy498⟩ : ∃ y_ : List Int, y_ = (x6_1 ++ [t497]) := ⟨_, rfl⟩
         replace H : (spec_moSteps.l0 k1 l0 l1 y498 (wrap64 (x7_1 + 1))) = some (r1, r2) := by first | (rw [hy498]; with_reducible exact H) | (have H2_ := (Option.bind_some _ _).symm.trans H; rw [hy498]; with_reducible exact H2_) | (have H2_ := (Option.bind_some _ _).symm.trans H; with_reducible exact H2_) | with_reducible exact H | (rw [hy498]; exact H) | exact H
         have Ny498 := Ya hy498
         clear hy498
         have H' := Ya H
         clear H
         try go_wp2
         replace HO_6 := Ya (Z11 HO_6.out)
         replace HB := Ya (Z4 HB.out)
         have p495 : 0 ≤ ((ji4) : Int) := Z29 Q1
         have q495 : (ji4) < (l0.length : Int) := Z29 Q1
         obtain ⟨ad495, A495_0, c495_0, e495, hx495_0, hl495_0, hi495_0⟩ := at_L3 HR0.out (ji4) p495 q495
         have hw495_0 := hx495_0
         cases e495
         try replace hx495_0 := (HB.out.cell (World.block_lt_of_cell? w _ hx495_0)).trans hx495_0
         have HR495_0 := Ya hi495_0
         have HC495_0 := Ya hl495_0
         clear hi495_0 hl495_0
         replace p495 := eq_true p495
         replace q495 := eq_true q495
         have p496 : 0 ≤ (x7_1 : Int) := Z29 Q1
         have q496 : x7_1 < (l0.length : Int) := Z29 Q1
         obtain ⟨ad496, A496_0, c496_0, e496, hx496_0, hl496_0, hi496_0⟩ := at_L3 HR0.out x7_1 p496 q496
         have hw496_0 := hx496_0
         obtain rfl : ad495 = ad496 := (by injection e496)
         try replace hx496_0 := (HB.out.cell (World.block_lt_of_cell? w _ hx496_0)).trans hx496_0
         have HR496_0 := Ya hi496_0
         have HC496_0 := Ya hl496_0
         clear hi496_0 hl496_0
         replace p496 := eq_true p496
         replace q496 := eq_true q496
         refine start_ (n := 12) (S := fun w' => w'.cell? (ad495.add ((ji4)).toNat) = some (.slice A495_0 (rd_L3 l0 (ji4)).length c495_0) ∧ w'.cell? (ad495.add (x7_1).toNat) = some (.slice A496_0 (rd_L3 l0 x7_1).length c496_0)) (ds := []) (YA 12 0) (by kernel_rfl) rfl rfl ⟨((HB.out.cell (World.block_lt_of_cell? w _ hw495_0)).trans hw495_0), ((HB.out.cell (World.block_lt_of_cell? w _ hw496_0)).trans hw496_0)⟩ (fun hHeld => ?_); refine with_tabW spec_moSteps.tab5 spec_moSteps.bits5 (fun HT_ HW_ => ?_)
         generalize wr.drew = w13 at HO_6 HB HR495_0 HR496_0 hx495_0 hx496_0 hHeld ⊢
         refine Yp 0 (some 15) (YA 12 1) rfl HT_.out ?_
         refine Yp 1 (some 16) (YA 12 3) rfl HT_.out ?_
         refine Yp 2 (some 17) (YA 12 7) rfl HT_.out ?_
         refine Yp 3 (some 18) (YA 12 15) rfl HT_.out ?_
         refine Yp 5 (some 20) (YA 12 47) rfl HT_.out ?_
         refine Yp 6 (some 21) (YA 12 111) rfl HT_.out ?_
         refine Yp 7 (some 22) (YA 12 239) rfl HT_.out ?_
         refine Yp 9 (some 24) (YA 12 751) rfl HT_.out ?_
         refine Yt 4 (some 19) (YA 12 767) rfl HT_.out HW_.out hHeld Q37 ?_
         refine Yt 8 (some 23) (YA 12 1023) rfl HT_.out HW_.out hHeld Q37 ?_
         refine one_ (i := 10) (N := some 25) (YA 12 2047) rfl rfl (one_of HT_.out (by kernel_rfl)) (by decide) (fun K hK => ?_)
         refine goes_ Try.func98 (by kernel_rfl) rfl #[.slice A495_0 (rd_L3 l0 (ji4)).length c495_0, .slice A496_0 (rd_L3 l0 x7_1).length c496_0, .slice A1 l1.length c1] (by rfl) rfl rfl (by (try simp only [Z32, Z33, Z34]); first | done | (simp only [hji4]; rfl) | rfl | (simp only [Z30, Z31]; rfl)) ?_
         with_reducible refine (spec_moWhich.calls k1 _ _ (rd_L3 l0 (ji4)) _ _ (rd_L3 l0 x7_1) _ _ l1 t497 _ ?side1 ?side2 ?side3 ?side4 ?side5 ?side6 A8.out).mono ?_
         (case side1 => exact Yc (Z21 HR495_0.out HB.out))
         (case side2 => exact HC495_0.out)
         (case side3 => exact Yc (Z21 HR496_0.out HB.out))
         (case side4 => exact HC496_0.out)
         (case side5 => exact Yc (Z21 HR1.out HB.out))
         (case side6 => exact HC1.out)
         rintro e w14 ⟨rfl, hb⟩
         refine ⟨_, rfl, ?_⟩
         replace HO_6 := Yw HO_6 hb
         replace HB := Yh hb
         (try clear hb)
         refine hK.out _ _ ⟨((HB.out.cell (World.block_lt_of_cell? w _ hw495_0)).trans hw495_0), ((HB.out.cell (World.block_lt_of_cell? w _ hw496_0)).trans hw496_0)⟩ (fun hHeld => ?_)
         clear hK K
         refine norm_ (a' := ?_) ?_ ?_
         rotate_left
         ·show Act.put _ (some 25) _ = _
          simp only [Act.put, Z0, Z1, Z2, i64_w, i32_w]
          rfl
         refine Yp 11 (some 8) (YA 12 4095) rfl HT_.out ?_
         refine done_ (done_of HT_.out (by kernel_rfl)) ?_
         try go_wp2_with (first | ((with_reducible refine gate_builtin (b := .append) (xs := #[.tmp 28, .tmp 30]) rfl ?_); at_builtin; refine Kd.R_append (Kd.int .i64) (w0 := w) w.heap.size rfl (.tmp 28) (.tmp 30) 24 3 (.int .i64 0) 8 rfl Try.underlying24 info3 rfl (by decide) (by omega) u6 x6_1 t497 [.int .i64 t497] (fun _ => True) (fun _ => False) rfl rfl ?aP (fun _ hk => hk.elim) ?aF ?aO ?aB ?aS ?aL ?_; (case aP => exact rfl); (case aB => exact Q12); (case aF => exact (fun _ _ => trivial)); (case aO => exact (Yr HO_6.out)); (case aS => exact (Z7 Q12)); (case aL => have := LMc12.out; omega); intro v499 w15 ho hb hg hat; rw [← Ny498.out] at ho; replace HB := Ya hb; have HO500 := Ya ho; clear HO_6; clear ho hb hg hat))
         go_roundg k1
         case measure => have := HK1.out; omega
         case rel => exact ⟨(y498), (wrap64 (x7_1 + 1)), Q5, H', ⟨Q28⟩, ⟨by (with_reducible repeat (first | apply Z9 | apply Z10 | apply Z11)); exact HO500.out⟩, ⟨Q0⟩⟩
        ·rw [if_neg c12] at H
         exact absurd H (by simp)
      ·rw [if_neg c7] at H
       exact absurd H (by simp)
     ·rw [if_neg c6] at H
      exact absurd H (by simp)
    ·rw [if_neg c5] at H
     exact absurd H (by simp)
   ·rw [if_neg c3] at H
    have c3b0 := Z36 c3
    clear c3
    simp only [Option.some.injEq, Prod.mk.injEq] at H
    obtain ⟨rfl, rfl⟩ := H
    go_wp2
    go_ret2
    exact ⟨_, Q2, Q30, Q0⟩
def spec_moAll.l0 : Nat → Int → List (List Int) → List (List Int) → Int → Int → Option (Bool)
 | 0, _, _, _, _, _ => none
 | k + 1, x0, x1, x7, x8, x9 => if x9 < x8 then (if 0 ≤ x9 then (if x9 < (x7.length : Int) then (if x9 ≤ (x1.length : Int) then ((spec_raPlace.f k (x1.take (x9 : Int).toNat) (rd_L3 x7 x9)).bind fun t506 => (if t506 ≥ 0 then (some false) else (spec_moAll.l0 k x0 x1 x7 x8 (wrap64 (x9 + 1))))) else (none)) else (none)) else (none)) else ((spec_raFactorial.f k x0).bind fun t507 => (some ((x1.length : Int) == t507)))
def spec_moAll.f (k : Nat) (a0 : Int) (l1 : List (List Int)) : Option (Bool) := spec_moAll.l0 k a0 l1 l1 (l1.length : Int) 0
theorem spec_moAll.mono_l : ∀ k, (∀ y0 y1 y2 y3 y4, LeO (spec_moAll.l0 k y0 y1 y2 y3 y4) (spec_moAll.l0 (k + 1) y0 y1 y2 y3 y4))
 | 0 => fun _ _ _ _ _ r h => by simp [spec_moAll.l0] at h
 | k + 1 => by
  have ih0 := spec_moAll.mono_l k
  ·intro y0 y1 y2 y3 y4
   unfold spec_moAll.l0
   repeat' first
   | (with_reducible exact ih0 _ _ _ _ _)
   | (with_reducible exact spec_raFactorial.mono _ _)
   | (with_reducible exact spec_raPlace.mono _ _ _)
   | (with_reducible exact LeO.refl _)
   | (with_reducible exact LeO.none _)
   | (with_reducible refine LeO.ite ?_ ?_)
   | (with_reducible refine LeO.bind ?_ (fun _ => ?_))
   | exact ih0 _ _ _ _ _
   | exact spec_raFactorial.mono _ _
   | exact spec_raPlace.mono _ _ _
   | exact LeO.none _
   | refine LeO.ite ?_ ?_
   | refine LeO.bind ?_ (fun _ => ?_)
theorem spec_moAll.mono : ∀ a0 a1 k, LeO (spec_moAll.f k a0 a1) (spec_moAll.f (k + 1) a0 a1) := by
 intro a0 a1 k
 have ih0 := spec_moAll.mono_l k
 unfold spec_moAll.f
 repeat' first
   | (with_reducible exact ih0 _ _ _ _ _)
   | (with_reducible exact spec_raFactorial.mono _ _)
   | (with_reducible exact spec_raPlace.mono _ _ _)
   | (with_reducible exact LeO.refl _)
   | (with_reducible exact LeO.none _)
   | (with_reducible refine LeO.ite ?_ ?_)
   | (with_reducible refine LeO.bind ?_ (fun _ => ?_))
   | exact ih0 _ _ _ _ _
   | exact spec_raFactorial.mono _ _
   | exact spec_raPlace.mono _ _ _
   | exact LeO.none _
   | refine LeO.ite ?_ ?_
   | refine LeO.bind ?_ (fun _ => ?_)
set_option maxHeartbeats 8000000 in
set_option maxRecDepth 100000 in
theorem spec_moAll.calls (k : Nat) (a0 : Int) (A1 : Option Addr) (c1 : Nat) (l1 : List (List Int)) (r : Bool) (w : World) (hr1 : Kd.C (Kd.slice 3 (Kd.int .i64)) w A1 l1.length l1) (hc1 : l1.length ≤ c1) (h : spec_moAll.f k a0 l1 = some r) :
  Calls Try.prog 80 #[.int .i64 a0, .slice A1 l1.length c1] w fun e w' => e = .returned (.bool r) ∧ Drawn0 w w' := by
 have HR1 := Ya hr1
 have HC1 := Ya hc1
 clear hr1 hc1
 have H : (spec_moAll.l0 k a0 l1 l1 (l1.length : Int) 0) = some r := h
 clear h
 have H' := Ya H
 clear H
 go_enter Try.func80, Try.ntmps80
 go_wp2
 go_loopg [9] k (fun kq v9 w' => ∃ (x9_1 : Int), v9 = .int .i64 x9_1 ∧ Aside0 (spec_moAll.l0 kq a0 l1 l1 (l1.length : Int) x9_1 = some r) ∧ Aside0 (kq ≤ k) ∧ Drawn0 w w')
 case atStart => exact ⟨(0), Q5, H', ⟨Nat.le_refl _⟩, Q7⟩
 case round =>
  clear H'
  try clear c1
  try clear p2
  obtain ⟨x9_1, rfl, HA, HK1, ⟨m1, rfl⟩⟩ := hrel
  cases gk with
  | zero => exact absurd HA.out (by simp [spec_moAll.l0])
  | succ k1 =>
   have H := HA.out
   clear HA
   simp only [spec_moAll.l0] at H
   by_cases c3 : x9_1 < (l1.length : Int)
   ·rw [if_pos c3] at H
    have c3b0 := Z37 c3
    clear c3
    by_cases c4 : 0 ≤ x9_1
    ·rw [if_pos c4] at H
     have c4b0 := Z37 c4
     clear c4
     by_cases c5 : x9_1 < (l1.length : Int)
     ·rw [if_pos c5] at H
      have c5b0 := Z37 c5
      clear c5
      have c6b0 := eq_true (Z29 Q1 : 0 ≤ x9_1)
      by_cases c7 : x9_1 ≤ (l1.length : Int)
      ·rw [if_pos c7] at H
       have c7b0 := eq_true c7
       have c7b1 := Z37 c7
       have HLEc7 := Ya c7
       clear c7
       obtain ⟨y502, hy502⟩ : ∃ y_ : List (List Int), y_ = (l1.take (x9_1 : Int).toNat) := ⟨_, rfl⟩
       replace H : ((spec_raPlace.f k1 y502 (rd_L3 l1 x9_1)).bind fun t506 => (if t506 ≥ 0 then (some false) else (spec_moAll.l0 k1 a0 l1 l1 (l1.length : Int) (wrap64 (x9_1 + 1))))) = some r := by first | (rw [hy502]; with_reducible exact H) | (have H2_ := (Option.bind_some _ _).symm.trans H; rw [hy502]; with_reducible exact H2_) | (have H2_ := (Option.bind_some _ _).symm.trans H; with_reducible exact H2_) | with_reducible exact H | (rw [hy502]; exact H) | exact H
       have Ny502 := Ya hy502
       clear hy502
       replace H := Z35.mp H
       obtain ⟨t506, A80, H⟩ := H
       replace H : (if t506 ≥ 0 then (some false) else (spec_moAll.l0 k1 a0 l1 l1 (l1.length : Int) (wrap64 (x9_1 + 1)))) = some r := H
       have A8 := Ya A80
       clear A80
       by_cases c9 : t506 ≥ 0
       ·rw [if_pos c9] at H
        have c9b0 : decide (0 ≤ t506) = true := Z37 c9
        clear c9
        obtain rfl := Option.some.inj H
        have p501 : 0 ≤ (x9_1 : Int) := Z29 Q1
        have q501 : x9_1 < (l1.length : Int) := Z29 Q1
        obtain ⟨ad501, A501_0, c501_0, e501, hx501_0, hl501_0, hi501_0⟩ := at_L3 HR1.out x9_1 p501 q501
        cases e501
        have HR501_0 := Ya hi501_0
        have HC501_0 := Ya hl501_0
        clear hi501_0 hl501_0
        replace p501 := eq_true p501
        replace q501 := eq_true q501
        have q10 : (x9_1 : Int) ≤ ((l1.length : Int) : Int) := Z29 Q1
        obtain ⟨i010, hi010, _, hsz10, _⟩ := info_parts info24
        have hroom10 : l1.length ≤ c1 := HC1.out
        have hC10 : Kd.C (Kd.slice 3 (Kd.int .i64)) _ (some ad501) l1.length l1 := HR1.out
        have hcut10 := cut_to (P := Try.prog) 50 24 .i64 Try.underlying50 hi010 (some ad501) l1.length c1 x9_1 (Z29 Q1) q10 hroom10
        have hr10 := Kd.C_take (m := (x9_1 : Int).toNat) hC10 (by omega)
        have hy10 : y502.length = (x9_1 : Int).toNat := (by rw [Ny502.out, Z31]; omega)
        rw [← Ny502.out] at hr10
        rw [← hy10] at hcut10
        have HR505 := Ya hr10
        have HC505 := Ya (show y502.length ≤ c1 from by omega)
        clear hr10 hC10 hroom10 hi010 hsz10
        have KY10 := Ya hy10
        clear hy10
        replace q10 := eq_true q10
        go_wp2_with (first | ((with_reducible refine gate_callee (f := 82) rfl ?_); refine Yz 18 Try.func82 #[.slice (some ad501) y502.length c1, .slice A501_0 (rd_L3 l1 x9_1).length c501_0] ?_; (with_reducible refine (spec_raPlace.calls k1 _ _ y502 _ _ (rd_L3 l1 x9_1) t506 _ (Yc HR505.out) HC505.out (Yc HR501_0.out) HC501_0.out A8.out).mono ?_); rintro e w' ⟨rfl, ⟨nd, rfl⟩⟩; refine ⟨_, rfl, ?_⟩))
        go_ret
        exact ⟨Q18, Q7⟩
       ·rw [if_neg c9] at H
        have c9b0 : decide (0 ≤ t506) = false := Z36 c9
        clear c9
        have H' := Ya H
        clear H
        have p501 : 0 ≤ (x9_1 : Int) := Z29 Q1
        have q501 : x9_1 < (l1.length : Int) := Z29 Q1
        obtain ⟨ad501, A501_0, c501_0, e501, hx501_0, hl501_0, hi501_0⟩ := at_L3 HR1.out x9_1 p501 q501
        cases e501
        have HR501_0 := Ya hi501_0
        have HC501_0 := Ya hl501_0
        clear hi501_0 hl501_0
        replace p501 := eq_true p501
        replace q501 := eq_true q501
        have q11 : (x9_1 : Int) ≤ ((l1.length : Int) : Int) := Z29 Q1
        obtain ⟨i011, hi011, _, hsz11, _⟩ := info_parts info24
        have hroom11 : l1.length ≤ c1 := HC1.out
        have hC11 : Kd.C (Kd.slice 3 (Kd.int .i64)) _ (some ad501) l1.length l1 := HR1.out
        have hcut11 := cut_to (P := Try.prog) 50 24 .i64 Try.underlying50 hi011 (some ad501) l1.length c1 x9_1 (Z29 Q1) q11 hroom11
        have hr11 := Kd.C_take (m := (x9_1 : Int).toNat) hC11 (by omega)
        have hy11 : y502.length = (x9_1 : Int).toNat := (by rw [Ny502.out, Z31]; omega)
        rw [← Ny502.out] at hr11
        rw [← hy11] at hcut11
        have HR505 := Ya hr11
        have HC505 := Ya (show y502.length ≤ c1 from by omega)
        clear hr11 hC11 hroom11 hi011 hsz11
        have KY11 := Ya hy11
        clear hy11
        replace q11 := eq_true q11
        go_wp2_with (first | ((with_reducible refine gate_callee (f := 82) rfl ?_); refine Yz 18 Try.func82 #[.slice (some ad501) y502.length c1, .slice A501_0 (rd_L3 l1 x9_1).length c501_0] ?_; (with_reducible refine (spec_raPlace.calls k1 _ _ y502 _ _ (rd_L3 l1 x9_1) t506 _ (Yc HR505.out) HC505.out (Yc HR501_0.out) HC501_0.out A8.out).mono ?_); rintro e w' ⟨rfl, ⟨nd, rfl⟩⟩; refine ⟨_, rfl, ?_⟩))
        go_roundg k1
        case measure => have := HK1.out; omega
        case rel => exact ⟨(wrap64 (x9_1 + 1)), Q5, H', ⟨Q28⟩, Q7⟩
      ·rw [if_neg c7] at H
       exact absurd H (by simp)
     ·rw [if_neg c5] at H
      exact absurd H (by simp)
    ·rw [if_neg c4] at H
     exact absurd H (by simp)
   ·rw [if_neg c3] at H
    have c3b0 := Z36 c3
    clear c3
    replace H := Z35.mp H
    obtain ⟨t507, A120, H⟩ := H
    replace H : (some ((l1.length : Int) == t507)) = some r := H
    have A12 := Ya A120
    clear A120
    obtain rfl := Option.some.inj H
    go_wp2_with (first | ((with_reducible refine gate_callee (f := 43) rfl ?_); refine Yz 24 Try.func43 #[.int .i64 a0] ?_; (with_reducible refine (spec_raFactorial.calls k1 a0 t507 _ A12.out).mono ?_); rintro e w' ⟨rfl, ⟨nd, rfl⟩⟩; refine ⟨_, rfl, ?_⟩))
    go_ret
    exact ⟨Q18, Q7⟩
def spec_IsMoveList.j0 : Nat → Int → List (List Int) → List (S45) → Bool → Option (Bool × Bool)
 | 0, _, _, _, _ => none
 | k + 1, x0, x1, x2, x19 => if x19 = true then (some (false, false)) else ((spec_moSteps.f k x1 x2).bind fun bt510 => (if bt510.2 = true then ((spec_moAll.f k x0 x1).bind fun t514 => (some (t514, true))) else (some (false, true))))
def spec_IsMoveList.f (k : Nat) (a0 : Int) (l1 : List (List Int)) (l2 : List (S45)) : Option (Bool × Bool) := (spec_moTask.f k a0 l2).bind fun t508 => (if t508 = true then ((spec_moLists.f k a0 l1).bind fun t509 => (spec_IsMoveList.j0 k a0 l1 l2 (!t509))) else (spec_IsMoveList.j0 k a0 l1 l2 true))
theorem spec_IsMoveList.mono_l : ∀ k, (∀ y0 y1 y2 y3, LeO (spec_IsMoveList.j0 k y0 y1 y2 y3) (spec_IsMoveList.j0 (k + 1) y0 y1 y2 y3))
 | 0 => fun _ _ _ _ r h => by simp [spec_IsMoveList.j0] at h
 | k + 1 => by
  have ih0 := spec_IsMoveList.mono_l k
  ·intro y0 y1 y2 y3
   unfold spec_IsMoveList.j0
   repeat' first
   | (with_reducible exact ih0 _ _ _ _)
   | (with_reducible exact spec_moAll.mono _ _ _)
   | (with_reducible exact spec_moLists.mono _ _ _)
   | (with_reducible exact spec_moSteps.mono _ _ _)
   | (with_reducible exact spec_moTask.mono _ _ _)
   | (with_reducible exact LeO.refl _)
   | (with_reducible exact LeO.none _)
   | (with_reducible refine LeO.ite ?_ ?_)
   | (with_reducible refine LeO.bind ?_ (fun _ => ?_))
   | exact ih0 _ _ _ _
   | exact spec_moAll.mono _ _ _
   | exact spec_moLists.mono _ _ _
   | exact spec_moSteps.mono _ _ _
   | exact spec_moTask.mono _ _ _
   | exact LeO.none _
   | refine LeO.ite ?_ ?_
   | refine LeO.bind ?_ (fun _ => ?_)
theorem spec_IsMoveList.mono : ∀ a0 a1 a2 k, LeO (spec_IsMoveList.f k a0 a1 a2) (spec_IsMoveList.f (k + 1) a0 a1 a2) := by
 intro a0 a1 a2 k
 have ih0 := spec_IsMoveList.mono_l k
 unfold spec_IsMoveList.f
 repeat' first
   | (with_reducible exact ih0 _ _ _ _)
   | (with_reducible exact spec_moAll.mono _ _ _)
   | (with_reducible exact spec_moLists.mono _ _ _)
   | (with_reducible exact spec_moSteps.mono _ _ _)
   | (with_reducible exact spec_moTask.mono _ _ _)
   | (with_reducible exact LeO.refl _)
   | (with_reducible exact LeO.none _)
   | (with_reducible refine LeO.ite ?_ ?_)
   | (with_reducible refine LeO.bind ?_ (fun _ => ?_))
   | exact ih0 _ _ _ _
   | exact spec_moAll.mono _ _ _
   | exact spec_moLists.mono _ _ _
   | exact spec_moSteps.mono _ _ _
   | exact spec_moTask.mono _ _ _
   | exact LeO.none _
   | refine LeO.ite ?_ ?_
   | refine LeO.bind ?_ (fun _ => ?_)
set_option maxHeartbeats 8000000 in
set_option maxRecDepth 100000 in
theorem spec_IsMoveList.calls (k : Nat) (a0 : Int) (A1 : Option Addr) (c1 : Nat) (l1 : List (List Int)) (A2 : Option Addr) (c2 : Nat) (l2 : List (S45)) (r1 : Bool) (r2 : Bool) (w : World) (hr1 : Kd.C (Kd.slice 3 (Kd.int .i64)) w A1 l1.length l1) (hc1 : l1.length ≤ c1) (hr2 : Kd.C k45 w A2 l2.length l2) (hc2 : l2.length ≤ c2) (h : spec_IsMoveList.f k a0 l1 l2 = some (r1, r2)) :
  Calls Try.prog 39 #[.int .i64 a0, .slice A1 l1.length c1, .slice A2 l2.length c2] w fun e w' => e = .returned (.tuple #[.bool r1, .bool r2]) ∧ Below w.heap.size w w' := by
 have HR1 := Ya hr1
 have HC1 := Ya hc1
 clear hr1 hc1
 have HR2 := Ya hr2
 have HC2 := Ya hc2
 clear hr2 hc2
 have HB := Ya (Below.refl w.heap.size w)
 have H : ((spec_moTask.f k a0 l2).bind fun t508 => (if t508 = true then ((spec_moLists.f k a0 l1).bind fun t509 => (spec_IsMoveList.j0 k a0 l1 l2 (!t509))) else (spec_IsMoveList.j0 k a0 l1 l2 true))) = some (r1, r2) := h
 clear h
 have HC4 := Ya H
 clear H
 go_enter Try.func39, Try.ntmps39
 go_upto_region 1 with (fail)
 go_cut [19] (fun v19 wc => ∃ (kq : Nat) (x19_3 : Bool), v19 = .bool x19_3 ∧ Aside0 (spec_IsMoveList.j0 kq a0 l1 l2 x19_3 = some (r1, r2)) ∧ Aside0 (kq ≤ k) ∧ Aside0 (Below w.heap.size w wc))
 case first =>
  have H := HC4.out
  clear HC4
  replace H := Z35.mp H
  obtain ⟨t508, A50, H⟩ := H
  replace H : (if t508 = true then ((spec_moLists.f k a0 l1).bind fun t509 => (spec_IsMoveList.j0 k a0 l1 l2 (!t509))) else (spec_IsMoveList.j0 k a0 l1 l2 true)) = some (r1, r2) := H
  have A5 := Ya A50
  clear A50
  by_cases c6 : t508 = true
  ·subst c6
   have H1 : ((spec_moLists.f k a0 l1).bind fun t509 => (spec_IsMoveList.j0 k a0 l1 l2 (!t509))) = some (r1, r2) := by rw [if_pos rfl] at H; exact H
   clear H
   have H := H1
   clear H1
   replace H := Z35.mp H
   obtain ⟨t509, A70, H⟩ := H
   replace H : (spec_IsMoveList.j0 k a0 l1 l2 (!t509)) = some (r1, r2) := H
   have A7 := Ya A70
   clear A70
   have H' := Ya H
   clear H
   go_wp2_with (first | ((with_reducible refine gate_callee (f := 41) rfl ?_); refine Yz 12 Try.func41 #[.int .i64 a0, .slice A2 l2.length c2] ?_; (with_reducible refine (spec_moTask.calls k a0 _ _ l2 true _ (Yc (Z21 HR2.out HB.out)) HC2.out A5.out).mono ?_); rintro e w8 ⟨rfl, hb⟩; refine ⟨_, rfl, ?_⟩; replace HB := Yh hb; (try clear hb)) | (go_at_call 78; (with_reducible refine (spec_moLists.calls k a0 _ _ l1 t509 _ (Yc (Z21 HR1.out HB.out)) HC1.out A7.out).mono ?_); rintro e w' ⟨rfl, ⟨nd, rfl⟩⟩))
   go_meet
   case rel => exact ⟨_, (!t509), Q5, H', ⟨Q46⟩, ⟨Q0⟩⟩
  ·replace c6 := Bool.eq_false_iff.mpr c6
   subst c6
   have H1 : (spec_IsMoveList.j0 k a0 l1 l2 true) = some (r1, r2) := by rw [if_neg (show ¬ (false = true) by decide)] at H; exact H
   clear H
   have H := H1
   clear H1
   have H' := Ya H
   clear H
   go_wp2_with (first | ((with_reducible refine gate_callee (f := 41) rfl ?_); refine Yz 12 Try.func41 #[.int .i64 a0, .slice A2 l2.length c2] ?_; (with_reducible refine (spec_moTask.calls k a0 _ _ l2 false _ (Yc (Z21 HR2.out HB.out)) HC2.out A5.out).mono ?_); rintro e w9 ⟨rfl, hb⟩; refine ⟨_, rfl, ?_⟩; replace HB := Yh hb; (try clear hb)))
   go_meet
   case rel => exact ⟨_, (true), Q5, H', ⟨Q46⟩, ⟨Q0⟩⟩
 case rest =>
  clear HC4
  try clear c1
  try clear c2
  try clear p2
  try clear c3
  try clear c4
  try clear c6
  obtain ⟨kq, x19_3, rfl, HA, HJ3, HB⟩ := hcut
  cases kq with
  | zero => exact absurd HA.out (by simp [spec_IsMoveList.j0])
  | succ kj3 =>
   have H := HA.out
   clear HA
   simp only [spec_IsMoveList.j0] at H
   by_cases c10 : x19_3 = true
   ·subst c10
    have H1 : (some (false, false)) = some (r1, r2) := by rw [if_pos rfl] at H; exact H
    clear H
    have H := H1
    clear H1
    simp only [Option.some.injEq, Prod.mk.injEq] at H
    obtain ⟨rfl, rfl⟩ := H
    go_wp2
    go_ret2
    exact ⟨Q2, Q0⟩
   ·replace c10 := Bool.eq_false_iff.mpr c10
    subst c10
    have H1 : ((spec_moSteps.f kj3 l1 l2).bind fun bt510 => (if bt510.2 = true then ((spec_moAll.f kj3 a0 l1).bind fun t514 => (some (t514, true))) else (some (false, true)))) = some (r1, r2) := by rw [if_neg (show ¬ (false = true) by decide)] at H; exact H
    clear H
    have H := H1
    clear H1
    replace H := Z35.mp H
    obtain ⟨⟨t510, t511⟩, A110, H⟩ := H
    replace H : (if t511 = true then ((spec_moAll.f kj3 a0 l1).bind fun t514 => (some (t514, true))) else (some (false, true))) = some (r1, r2) := H
    have A11 := Ya A110
    clear A110
    by_cases c12 : t511 = true
    ·subst c12
     have H1 : ((spec_moAll.f kj3 a0 l1).bind fun t514 => (some (t514, true))) = some (r1, r2) := by rw [if_pos rfl] at H; exact H
     clear H
     have H := H1
     clear H1
     replace H := Z35.mp H
     obtain ⟨t514, A130, H⟩ := H
     replace H : (some (t514, true)) = some (r1, r2) := H
     have A13 := Ya A130
     clear A130
     simp only [Option.some.injEq, Prod.mk.injEq] at H
     obtain ⟨rfl, rfl⟩ := H
     go_wp2_with (first | ((with_reducible refine gate_callee (f := 79) rfl ?_); refine Yz 23 Try.func79 #[.slice A1 l1.length c1, .slice A2 l2.length c2] ?_; (with_reducible refine (spec_moSteps.calls kj3 _ _ l1 _ _ l2 t510 true _ (Yc (Z21 HR1.out HB.out)) HC1.out (Yc (Z21 HR2.out HB.out)) HC2.out A11.out).mono ?_); rintro e w14 ⟨v512, rfl, ho0, hb⟩; refine ⟨_, rfl, ?_⟩; have HO513 := Yl ho0; replace HB := Yh hb; (try clear hb ho0)) | (go_at_call 80; (with_reducible refine (spec_moAll.calls kj3 a0 _ _ l1 t514 _ (Yc (Z21 HR1.out HB.out)) HC1.out A13.out).mono ?_); rintro e w' ⟨rfl, ⟨nd, rfl⟩⟩))
     go_ret2
     exact ⟨Q2, Q0⟩
    ·replace c12 := Bool.eq_false_iff.mpr c12
     subst c12
     have H1 : (some (false, true)) = some (r1, r2) := by rw [if_neg (show ¬ (false = true) by decide)] at H; exact H
     clear H
     have H := H1
     clear H1
     simp only [Option.some.injEq, Prod.mk.injEq] at H
     obtain ⟨rfl, rfl⟩ := H
     go_wp2_with (first | ((with_reducible refine gate_callee (f := 79) rfl ?_); refine Yz 23 Try.func79 #[.slice A1 l1.length c1, .slice A2 l2.length c2] ?_; (with_reducible refine (spec_moSteps.calls kj3 _ _ l1 _ _ l2 t510 false _ (Yc (Z21 HR1.out HB.out)) HC1.out (Yc (Z21 HR2.out HB.out)) HC2.out A11.out).mono ?_); rintro e w15 ⟨v512, rfl, ho0, hb⟩; refine ⟨_, rfl, ?_⟩; have HO513 := Yl ho0; replace HB := Yh hb; (try clear hb ho0)))
     go_ret2
     exact ⟨Q2, Q0⟩
def spec_MovesOf.f (k : Nat) (a0 : Int) (l1 : List (List Int)) (l2 : List (S45)) : Option (List Int × Bool) := (spec_moTask.f k a0 l2).bind fun t515 => (if t515 = true then ((spec_moLists.f k a0 l1).bind fun t516 => (if t516 = true then ((spec_moSteps.f k l1 l2).bind fun bt517 => (some (bt517.1, bt517.2))) else (some (([] : List Int), false)))) else (some (([] : List Int), false)))
theorem spec_MovesOf.mono : ∀ a0 a1 a2 k, LeO (spec_MovesOf.f k a0 a1 a2) (spec_MovesOf.f (k + 1) a0 a1 a2) := by
 intro a0 a1 a2 k
 unfold spec_MovesOf.f
 repeat' first
   | (with_reducible exact spec_moLists.mono _ _ _)
   | (with_reducible exact spec_moSteps.mono _ _ _)
   | (with_reducible exact spec_moTask.mono _ _ _)
   | (with_reducible exact LeO.refl _)
   | (with_reducible exact LeO.none _)
   | (with_reducible refine LeO.ite ?_ ?_)
   | (with_reducible refine LeO.bind ?_ (fun _ => ?_))
   | exact spec_moLists.mono _ _ _
   | exact spec_moSteps.mono _ _ _
   | exact spec_moTask.mono _ _ _
   | exact LeO.none _
   | refine LeO.ite ?_ ?_
   | refine LeO.bind ?_ (fun _ => ?_)
set_option maxHeartbeats 8000000 in
set_option maxRecDepth 100000 in
theorem spec_MovesOf.calls (k : Nat) (a0 : Int) (A1 : Option Addr) (c1 : Nat) (l1 : List (List Int)) (A2 : Option Addr) (c2 : Nat) (l2 : List (S45)) (r1 : List Int) (r2 : Bool) (w : World) (hr1 : Kd.C (Kd.slice 3 (Kd.int .i64)) w A1 l1.length l1) (hc1 : l1.length ≤ c1) (hr2 : Kd.C k45 w A2 l2.length l2) (hc2 : l2.length ≤ c2) (h : spec_MovesOf.f k a0 l1 l2 = some (r1, r2)) :
  Calls Try.prog 40 #[.int .i64 a0, .slice A1 l1.length c1, .slice A2 l2.length c2] w fun e w' => ∃ v0_ : Value, e = .returned (.tuple #[v0_, .bool r2]) ∧ Kd.R (Kd.int .i64) 3 w' w.heap.size (fun _ => True) v0_ r1 ∧ Below w.heap.size w w' := by
 have HR1 := Ya hr1
 have HC1 := Ya hc1
 clear hr1 hc1
 have HR2 := Ya hr2
 have HC2 := Ya hc2
 clear hr2 hc2
 have HB := Ya (Below.refl w.heap.size w)
 have H : ((spec_moTask.f k a0 l2).bind fun t515 => (if t515 = true then ((spec_moLists.f k a0 l1).bind fun t516 => (if t516 = true then ((spec_moSteps.f k l1 l2).bind fun bt517 => (some (bt517.1, bt517.2))) else (some (([] : List Int), false)))) else (some (([] : List Int), false)))) = some (r1, r2) := h
 clear h
 replace H := Z35.mp H
 obtain ⟨t515, A40, H⟩ := H
 replace H : (if t515 = true then ((spec_moLists.f k a0 l1).bind fun t516 => (if t516 = true then ((spec_moSteps.f k l1 l2).bind fun bt517 => (some (bt517.1, bt517.2))) else (some (([] : List Int), false)))) else (some (([] : List Int), false))) = some (r1, r2) := H
 have A4 := Ya A40
 clear A40
 by_cases c5 : t515 = true
 ·subst c5
  have H1 : ((spec_moLists.f k a0 l1).bind fun t516 => (if t516 = true then ((spec_moSteps.f k l1 l2).bind fun bt517 => (some (bt517.1, bt517.2))) else (some (([] : List Int), false)))) = some (r1, r2) := by rw [if_pos rfl] at H; exact H
  clear H
  have H := H1
  clear H1
  replace H := Z35.mp H
  obtain ⟨t516, A60, H⟩ := H
  replace H : (if t516 = true then ((spec_moSteps.f k l1 l2).bind fun bt517 => (some (bt517.1, bt517.2))) else (some (([] : List Int), false))) = some (r1, r2) := H
  have A6 := Ya A60
  clear A60
  by_cases c7 : t516 = true
  ·subst c7
   have H1 : ((spec_moSteps.f k l1 l2).bind fun bt517 => (some (bt517.1, bt517.2))) = some (r1, r2) := by rw [if_pos rfl] at H; exact H
   clear H
   have H := H1
   clear H1
   replace H := Z35.mp H
   obtain ⟨⟨t517, t518⟩, A80, H⟩ := H
   replace H : (some (t517, t518)) = some (r1, r2) := H
   have A8 := Ya A80
   clear A80
   simp only [Option.some.injEq, Prod.mk.injEq] at H
   obtain ⟨rfl, rfl⟩ := H
   go_enter Try.func40, Try.ntmps40
   go_wp2_with (first | ((with_reducible refine gate_callee (f := 41) rfl ?_); refine Yz 10 Try.func41 #[.int .i64 a0, .slice A2 l2.length c2] ?_; (with_reducible refine (spec_moTask.calls k a0 _ _ l2 true _ (Yc HR2.out) HC2.out A4.out).mono ?_); rintro e w9 ⟨rfl, hb⟩; refine ⟨_, rfl, ?_⟩; replace HB := Yh hb; (try clear hb)) | (go_at_call 78; (with_reducible refine (spec_moLists.calls k a0 _ _ l1 true _ (Yc (Z21 HR1.out HB.out)) HC1.out A6.out).mono ?_); rintro e w' ⟨rfl, ⟨nd, rfl⟩⟩) | ((with_reducible refine gate_callee (f := 79) rfl ?_); refine Yz 20 Try.func79 #[.slice A1 l1.length c1, .slice A2 l2.length c2] ?_; (with_reducible refine (spec_moSteps.calls k _ _ l1 _ _ l2 t517 t518 _ ?side1 HC1.out ?side3 HC2.out A8.out).mono ?_); (case side1 => exact Yc (Z21 HR1.out Q12)); (case side3 => exact Yc (Z21 HR2.out Q12)); rintro e w10 ⟨v519, rfl, ho0, hb⟩; refine ⟨_, rfl, ?_⟩; have HO520 := Yl ho0; replace HB := Yh hb; (try clear hb ho0)))
   go_ret2
   exact ⟨_, Q2, by (with_reducible repeat (first | apply Z9 | apply Z10 | apply Z11)); exact HO520.out, Q0⟩
  ·replace c7 := Bool.eq_false_iff.mpr c7
   subst c7
   have H1 : (some (([] : List Int), false)) = some (r1, r2) := by rw [if_neg (show ¬ (false = true) by decide)] at H; exact H
   clear H
   have H := H1
   clear H1
   simp only [Option.some.injEq, Prod.mk.injEq] at H
   obtain ⟨rfl, rfl⟩ := H
   go_enter Try.func40, Try.ntmps40
   go_wp2_with (first | ((with_reducible refine gate_callee (f := 41) rfl ?_); refine Yz 10 Try.func41 #[.int .i64 a0, .slice A2 l2.length c2] ?_; (with_reducible refine (spec_moTask.calls k a0 _ _ l2 true _ (Yc HR2.out) HC2.out A4.out).mono ?_); rintro e w11 ⟨rfl, hb⟩; refine ⟨_, rfl, ?_⟩; replace HB := Yh hb; (try clear hb)) | (go_at_call 78; (with_reducible refine (spec_moLists.calls k a0 _ _ l1 false _ (Yc (Z21 HR1.out HB.out)) HC1.out A6.out).mono ?_); rintro e w' ⟨rfl, ⟨nd, rfl⟩⟩))
   go_ret2
   exact ⟨_, Q2, Q11, Q0⟩
 ·replace c5 := Bool.eq_false_iff.mpr c5
  subst c5
  have H1 : (some (([] : List Int), false)) = some (r1, r2) := by rw [if_neg (show ¬ (false = true) by decide)] at H; exact H
  clear H
  have H := H1
  clear H1
  simp only [Option.some.injEq, Prod.mk.injEq] at H
  obtain ⟨rfl, rfl⟩ := H
  go_enter Try.func40, Try.ntmps40
  go_wp2_with (first | ((with_reducible refine gate_callee (f := 41) rfl ?_); refine Yz 10 Try.func41 #[.int .i64 a0, .slice A2 l2.length c2] ?_; (with_reducible refine (spec_moTask.calls k a0 _ _ l2 false _ (Yc HR2.out) HC2.out A4.out).mono ?_); rintro e w12 ⟨rfl, hb⟩; refine ⟨_, rfl, ?_⟩; replace HB := Yh hb; (try clear hb)))
  go_ret2
  exact ⟨_, Q2, Q11, Q0⟩
end Go.Proofs.Ytllhnnjkonghlaa.MFnGreedyLists
