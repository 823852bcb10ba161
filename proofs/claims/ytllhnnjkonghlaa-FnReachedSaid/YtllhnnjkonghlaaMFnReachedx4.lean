import Derived.Test.YtllhnnjkonghlaaMFnReachedx0
namespace Go.Proofs.Ytllhnnjkonghlaa.MFnReached
open Go.RowKit Go.Proofs.YtllhnnjkonghlaaW.PrintWords Go.Proofs.YtllhnnjkonghlaaW.PrintLast Go.Proofs.YtllhnnjkonghlaaW.PrintMore
attribute [local go_sem] max2_int min2_int max_two min_two max_three min_three max_four min_four   
set_option linter.unusedVariables false
set_option linter.unusedSimpArgs false
def laws_big.f (l0 : List Int) (l1 : List Int) : Option (Bool) := if (l0.length : Int) > 1048576 then (some true) else (some (decide ((l1.length : Int) > (wrap64 (1048576 - (l0.length : Int))))))
set_option maxHeartbeats 8000000 in
set_option maxRecDepth 100000 in
theorem laws_big.calls (A0 : Option Addr) (c0 : Nat) (l0 : List Int) (A1 : Option Addr) (c1 : Nat) (l1 : List Int) (r : Bool) (w : World) (hr0 : Kd.C (Kd.int .u8) w A0 l0.length l0) (hc0 : l0.length ≤ c0) (hr1 : Kd.C (Kd.int .u8) w A1 l1.length l1) (hc1 : l1.length ≤ c1) (h : laws_big.f l0 l1 = some r) :
  Calls Try.prog 15 #[.slice A0 l0.length c0, .slice A1 l1.length c1] w fun e w' => e = .returned (.bool r) ∧ Drawn0 w w' := by
 have HR0 := Ya hr0
 have HC0 := Ya hc0
 clear hr0 hc0
 have HR1 := Ya hr1
 have HC1 := Ya hc1
 clear hr1 hc1
 have H : (if (l0.length : Int) > 1048576 then (some true) else (some (decide ((l1.length : Int) > (wrap64 (1048576 - (l0.length : Int))))))) = some r := h
 clear h
 by_cases c3 : (l0.length : Int) > 1048576
 ·rw [if_pos c3] at H
  have c3b0 : decide (1048576 < (l0.length : Int)) = true := Z37 c3
  have c3b1 : decide (1048576 < l0.length) = true := Z37 (by omega)
  clear c3
  obtain rfl := Option.some.inj H
  go_enter Try.func15, Try.ntmps15
  go_wp2
  go_ret
  exact ⟨Q16, Q8⟩
 ·rw [if_neg c3] at H
  have c3b0 : decide (1048576 < (l0.length : Int)) = false := Z36 c3
  have c3b1 : decide (1048576 < l0.length) = false := Z36 (by omega)
  clear c3
  obtain rfl := Option.some.inj H
  go_enter Try.func15, Try.ntmps15
  go_wp2
  go_ret
  exact ⟨Q16, Q8⟩
def IsS88 (w0 W : World) (g : Nat) (f0 : List Int) (f1 : Int) (f2 : Int) : Prop := ∃ A0 c0, W.heap[g]? = some (.cells #[.slice A0 f0.length c0, .int .i64 f1, .int .u64 f2] 88 (0, 0)) ∧ w0.heap.size ≤ g ∧ Kd.C (Kd.int .u8) w0 A0 f0.length f0
theorem IsS88.grown {w0 W : World} {g : Nat} {f0 : List Int} {f1 : Int} {f2 : Int} {W1 : World} {row : Option Nat} (h : IsS88 w0 W g f0 f1 f2) (hw : W.grownBy W1 row) (hne : some g ≠ row) : IsS88 w0 W1 g f0 f1 f2 := by
 obtain ⟨A0, c0, hb, hg, hr0⟩ := h
 exact ⟨A0, c0, blk_grown hb hw hne, hg, hr0⟩
theorem IsS88.fresh {w0 W : World} {g : Nat} {f0 : List Int} {f1 : Int} {f2 : Int} (h : IsS88 w0 W g f0 f1 f2) : ∀ k, W.heap.size ≤ k → k ≠ g := by
 obtain ⟨A0, c0, hb, hg, hr0⟩ := h
 exact Kd.freshB hb
theorem IsS88.kept {w0 W : World} {g : Nat} {f0 : List Int} {f1 : Int} {f2 : Int} {W1 : World} {S : Nat → Prop} (h : IsS88 w0 W g f0 f1 f2) (hk : Kept W W1 S) (hne : ¬ S g) : IsS88 w0 W1 g f0 f1 f2 := by
 obtain ⟨A0, c0, hb, hg, hr0⟩ := h
 exact ⟨A0, c0, blk_kept hb hk hne, hg, hr0⟩
theorem IsS88.below {w0 W : World} {g : Nat} {f0 : List Int} {f1 : Int} {f2 : Int} {W1 : World} (h : IsS88 w0 W g f0 f1 f2) (hw : Below W.heap.size W W1) : IsS88 w0 W1 g f0 f1 f2 := h.grown (grown_of_below hw none) (by simp)
theorem IsS88.alloc {w0 W : World} {g : Nat} {f0 : List Int} {f1 : Int} {f2 : Int} (h : IsS88 w0 W g f0 f1 f2) (o : Obj) : IsS88 w0 (W.alloc o) g f0 f1 f2 := h.below (Z5 (Below.refl _ _) o)
theorem IsS88.drewN {w0 W : World} {g : Nat} {f0 : List Int} {f1 : Int} {f2 : Int} (h : IsS88 w0 W g f0 f1 f2) (m : Nat) : IsS88 w0 (W.drewN m) g f0 f1 f2 := h
theorem IsS88.drew {w0 W : World} {g : Nat} {f0 : List Int} {f1 : Int} {f2 : Int} (h : IsS88 w0 W g f0 f1 f2) : IsS88 w0 W.drew g f0 f1 f2 := h
theorem IsS88.at_ {w0 W : World} {g : Nat} {f0 : List Int} {f1 : Int} {f2 : Int} {w' : World} {m : Nat} (hq : W.drewN m = w') (h : IsS88 w0 W g f0 f1 f2) : IsS88 w0 w' g f0 f1 f2 := by subst hq; exact IsS88.drewN h m
theorem IsS88.apart {w0 W : World} {g : Nat} {f0 : List Int} {f1 : Int} {f2 : Int} {α : Type} {d : Kd α} {e : Nat} {base : Nat} {ok : Nat → Prop} {v : Value} {xs : List α} (h : IsS88 w0 W g f0 f1 f2) (ho : d.R e W base ok v xs) (ht : ∀ q, q ∈ e :: d.E → q ≠ 88) : d.R e W base (fun k => ok k ∧ k ≠ g) v xs := by
 obtain ⟨A0, c0, hb, hg, hr0⟩ := h
 exact Z15 ho hb ht
theorem IsS88.own_ne {w0 W : World} {g : Nat} {f0 : List Int} {f1 : Int} {f2 : Int} {α : Type} {d : Kd α} {e : Nat} {base : Nat} {ok : Nat → Prop} {v : Value} {xs : List α} (h : IsS88 w0 W g f0 f1 f2) (ho : d.R e W base ok v xs) (ht : e ≠ 88) : some g ≠ v.ownBlock := by
 obtain ⟨A0, c0, hb, hg, hr0⟩ := h
 exact Kd.R_ne ho hb ht
theorem IsS88.lt {w0 W : World} {g : Nat} {f0 : List Int} {f1 : Int} {f2 : Int} (h : IsS88 w0 W g f0 f1 f2) : g < W.heap.size := by
 obtain ⟨A0, c0, hb, hg, hr0⟩ := h
 exact blk_lt hb
theorem IsS88.ge {w0 W : World} {g : Nat} {f0 : List Int} {f1 : Int} {f2 : Int} (h : IsS88 w0 W g f0 f1 f2) : w0.heap.size ≤ g := by
 obtain ⟨A0, c0, hb, hg, hr0⟩ := h
 exact hg
theorem IsS88.far {w0 W : World} {g : Nat} {f0 : List Int} {f1 : Int} {f2 : Int} {p : Addr} (h : IsS88 w0 W g f0 f1 f2) (hne : g ≠ p.block) (u : Value) : IsS88 w0 (W.setCell p u) g f0 f1 f2 := by
 obtain ⟨A0, c0, hb, hg, hr0⟩ := h
 exact ⟨A0, c0, blk_far hb hne u, hg, hr0⟩
theorem cellS88_0 {W : World} {g : Nat} {A0 : Option Addr} {c0 : Nat} {f0 : List Int} {f1 : Int} {f2 : Int} (h : W.heap[g]? = some (.cells #[.slice A0 f0.length c0, .int .i64 f1, .int .u64 f2] 88 (0, 0))) : W.cell? ⟨g, 0, none⟩ = some (.slice A0 f0.length c0) := (Z22 h 0).trans rfl
theorem cellS88_1 {W : World} {g : Nat} {A0 : Option Addr} {c0 : Nat} {f0 : List Int} {f1 : Int} {f2 : Int} (h : W.heap[g]? = some (.cells #[.slice A0 f0.length c0, .int .i64 f1, .int .u64 f2] 88 (0, 0))) : W.cell? ⟨g, 1, none⟩ = some (.int .i64 f1) := (Z22 h 1).trans rfl
theorem IsS88.set_1 {w0 W : World} {g : Nat} {f0 : List Int} {f1 : Int} {f2 : Int} (h : IsS88 w0 W g f0 f1 f2) (x : Int) : IsS88 w0 (W.setCell ⟨g, 1, none⟩ (.int .i64 x)) g f0 x f2 := by
 obtain ⟨A0, c0, hb, hg, hr0⟩ := h
 exact ⟨A0, c0, by simpa using blk_set hb 1 (.int .i64 x), hg, hr0⟩
theorem cellS88_2 {W : World} {g : Nat} {A0 : Option Addr} {c0 : Nat} {f0 : List Int} {f1 : Int} {f2 : Int} (h : W.heap[g]? = some (.cells #[.slice A0 f0.length c0, .int .i64 f1, .int .u64 f2] 88 (0, 0))) : W.cell? ⟨g, 2, none⟩ = some (.int .u64 f2) := (Z22 h 2).trans rfl
theorem IsS88.set_2 {w0 W : World} {g : Nat} {f0 : List Int} {f1 : Int} {f2 : Int} (h : IsS88 w0 W g f0 f1 f2) (x : Int) : IsS88 w0 (W.setCell ⟨g, 2, none⟩ (.int .u64 x)) g f0 f1 x := by
 obtain ⟨A0, c0, hb, hg, hr0⟩ := h
 exact ⟨A0, c0, by simpa using blk_set hb 2 (.int .u64 x), hg, hr0⟩
theorem IsS88.new (w0 W : World) (A0 : Option Addr) (c0 : Nat) (f0 : List Int) (f1 : Int) (f2 : Int) (hB : Below w0.heap.size w0 W) (hr0 : Kd.C (Kd.int .u8) w0 A0 f0.length f0) : IsS88 w0 (W.alloc (.cells #[.slice A0 f0.length c0, .int .i64 f1, .int .u64 f2] 88)) W.heap.size f0 f1 f2 := ⟨A0, c0, by simpa using heap_alloc_new W _, hB.size, hr0⟩
def spec_l1Cur_next.f (s0_0 : List Int) (s0_1 : Int) (s0_2 : Int) : Option (Int × Int × Int) := if s0_1 < (s0_0.length : Int) then (if 0 ≤ s0_1 then (if (wrap64 (s0_1 + 1)) ≤ (s0_0.length : Int) then (some (wrap64 (rd s0_0 s0_1), wrap64 (s0_1 + 1), IntKind.u64.wrap ((IntKind.u64.wrap ((IntKind.u64.wrap (s0_2 * 6364136223846793005)) + (IntKind.u64.wrap (wrap64 (rd s0_0 s0_1))))) + 1442695040888963407))) else (some (wrap64 (Go.bits .and .u64 ((IntKind.u64.wrap ((IntKind.u64.wrap ((IntKind.u64.wrap (s0_2 * 6364136223846793005)) + (IntKind.u64.wrap (wrap64 (rd s0_0 s0_1))))) + 1442695040888963407)) / 1099511627776) 255), wrap64 (s0_1 + 1), IntKind.u64.wrap ((IntKind.u64.wrap ((IntKind.u64.wrap (s0_2 * 6364136223846793005)) + (IntKind.u64.wrap (wrap64 (rd s0_0 s0_1))))) + 1442695040888963407)))) else (none)) else (if (wrap64 (s0_1 + 1)) ≤ (s0_0.length : Int) then (some (0, wrap64 (s0_1 + 1), IntKind.u64.wrap ((IntKind.u64.wrap ((IntKind.u64.wrap (s0_2 * 6364136223846793005)))) + 1442695040888963407))) else (some (wrap64 (Go.bits .and .u64 ((IntKind.u64.wrap ((IntKind.u64.wrap ((IntKind.u64.wrap (s0_2 * 6364136223846793005)))) + 1442695040888963407)) / 1099511627776) 255), wrap64 (s0_1 + 1), IntKind.u64.wrap ((IntKind.u64.wrap ((IntKind.u64.wrap (s0_2 * 6364136223846793005)))) + 1442695040888963407))))
set_option maxHeartbeats 8000000 in
set_option maxRecDepth 100000 in
theorem spec_l1Cur_next.calls (g : Nat) (s0_0 : List Int) (s0_1 : Int) (s0_2 : Int) (r1 : Int) (r2 : Int) (r3 : Int) (w0 w : World) (hI : IsS88 w0 w g s0_0 s0_1 s0_2) (hB : Below w0.heap.size w0 w) (h : spec_l1Cur_next.f s0_0 s0_1 s0_2 = some (r1, r2, r3)) :
  Calls Try.prog 95 #[.pointer (some ⟨g, 0, none⟩)] w fun e w' => e = .returned (.int .i64 r1) ∧ IsS88 w0 w' g s0_0 r2 r3 ∧ Below w0.heap.size w0 w' ∧ KeepBut w w' g none := by
 have HI0 := Ya hI
 have HK := Ya (KeepBut.refl w g none)
 have HL := Ya hB.size
 clear hI
 have HW0 := Ya hB.size
 have HB := Ya hB
 clear hB
 have H : (if s0_1 < (s0_0.length : Int) then (if 0 ≤ s0_1 then (if (wrap64 (s0_1 + 1)) ≤ (s0_0.length : Int) then (some (wrap64 (rd s0_0 s0_1), wrap64 (s0_1 + 1), IntKind.u64.wrap ((IntKind.u64.wrap ((IntKind.u64.wrap (s0_2 * 6364136223846793005)) + (IntKind.u64.wrap (wrap64 (rd s0_0 s0_1))))) + 1442695040888963407))) else (some (wrap64 (Go.bits .and .u64 ((IntKind.u64.wrap ((IntKind.u64.wrap ((IntKind.u64.wrap (s0_2 * 6364136223846793005)) + (IntKind.u64.wrap (wrap64 (rd s0_0 s0_1))))) + 1442695040888963407)) / 1099511627776) 255), wrap64 (s0_1 + 1), IntKind.u64.wrap ((IntKind.u64.wrap ((IntKind.u64.wrap (s0_2 * 6364136223846793005)) + (IntKind.u64.wrap (wrap64 (rd s0_0 s0_1))))) + 1442695040888963407)))) else (none)) else (if (wrap64 (s0_1 + 1)) ≤ (s0_0.length : Int) then (some (0, wrap64 (s0_1 + 1), IntKind.u64.wrap ((IntKind.u64.wrap ((IntKind.u64.wrap (s0_2 * 6364136223846793005)))) + 1442695040888963407))) else (some (wrap64 (Go.bits .and .u64 ((IntKind.u64.wrap ((IntKind.u64.wrap ((IntKind.u64.wrap (s0_2 * 6364136223846793005)))) + 1442695040888963407)) / 1099511627776) 255), wrap64 (s0_1 + 1), IntKind.u64.wrap ((IntKind.u64.wrap ((IntKind.u64.wrap (s0_2 * 6364136223846793005)))) + 1442695040888963407))))) = some (r1, r2, r3) := h
 clear h
 by_cases c2 : s0_1 < (s0_0.length : Int)
 ·rw [if_pos c2] at H
  have c2b0 := Z37 c2
  clear c2
  by_cases c3 : 0 ≤ s0_1
  ·rw [if_pos c3] at H
   have c3b0 := Z37 c3
   clear c3
   by_cases c4 : (wrap64 (s0_1 + 1)) ≤ (s0_0.length : Int)
   ·rw [if_pos c4] at H
    have c4b0 := Z37 c4
    clear c4
    simp only [Option.some.injEq, Prod.mk.injEq] at H
    obtain ⟨rfl, rfl, rfl⟩ := H
    obtain ⟨ASz5_0, cSz5_0, HGz5, hgz5, HSz5_0⟩ := HI0.out
    have hcz5_0 := cellS88_0 HGz5
    have hcz5_1 := cellS88_1 HGz5
    have hcz5_2 := cellS88_2 HGz5
    have hfz5_1 := Z23 HGz5 1
    have hfz5_2 := Z23 HGz5 2
    clear HGz5 hgz5
    have p163 : 0 ≤ (s0_1 : Int) := Z29 Q1
    have q163 : s0_1 < (s0_0.length : Int) := Z29 Q1
    obtain ⟨ad163, e163, hx163_0⟩ := Kd.at_int HSz5_0 s0_1 p163 q163
    cases e163
    replace hx163_0 := pw_cell_below HB.out hx163_0
    replace p163 := eq_true p163
    replace q163 := eq_true q163
    go_enter Try.func95, Try.ntmps95
    go_wp2
    repeat (go_quiet (fail); try go_wp2)
    go_ret
    exact ⟨Q2, Q4, Q6, Q13⟩
   ·rw [if_neg c4] at H
    have c4b0 := Z36 c4
    clear c4
    simp only [Option.some.injEq, Prod.mk.injEq] at H
    obtain ⟨rfl, rfl, rfl⟩ := H
    obtain ⟨ASz6_0, cSz6_0, HGz6, hgz6, HSz6_0⟩ := HI0.out
    have hcz6_0 := cellS88_0 HGz6
    have hcz6_1 := cellS88_1 HGz6
    have hcz6_2 := cellS88_2 HGz6
    have hfz6_1 := Z23 HGz6 1
    have hfz6_2 := Z23 HGz6 2
    clear HGz6 hgz6
    have p163 : 0 ≤ (s0_1 : Int) := Z29 Q1
    have q163 : s0_1 < (s0_0.length : Int) := Z29 Q1
    obtain ⟨ad163, e163, hx163_0⟩ := Kd.at_int HSz6_0 s0_1 p163 q163
    cases e163
    replace hx163_0 := pw_cell_below HB.out hx163_0
    replace p163 := eq_true p163
    replace q163 := eq_true q163
    go_enter Try.func95, Try.ntmps95
    go_wp2
    repeat (go_quiet (fail); try go_wp2)
    go_ret
    exact ⟨Q2, Q4, Q6, Q13⟩
  ·rw [if_neg c3] at H
   exact absurd H (by simp)
 ·rw [if_neg c2] at H
  have c2b0 := Z36 c2
  clear c2
  by_cases c7 : (wrap64 (s0_1 + 1)) ≤ (s0_0.length : Int)
  ·rw [if_pos c7] at H
   have c7b0 := Z37 c7
   clear c7
   simp only [Option.some.injEq, Prod.mk.injEq] at H
   obtain ⟨rfl, rfl, rfl⟩ := H
   obtain ⟨ASz8_0, cSz8_0, HGz8, hgz8, HSz8_0⟩ := HI0.out
   have hcz8_0 := cellS88_0 HGz8
   have hcz8_1 := cellS88_1 HGz8
   have hcz8_2 := cellS88_2 HGz8
   have hfz8_1 := Z23 HGz8 1
   have hfz8_2 := Z23 HGz8 2
   clear HGz8 hgz8
   go_enter Try.func95, Try.ntmps95
   go_wp2
   repeat (go_quiet (fail); try go_wp2)
   go_ret
   exact ⟨Q2, Q4, Q6, Q13⟩
  ·rw [if_neg c7] at H
   have c7b0 := Z36 c7
   clear c7
   simp only [Option.some.injEq, Prod.mk.injEq] at H
   obtain ⟨rfl, rfl, rfl⟩ := H
   obtain ⟨ASz9_0, cSz9_0, HGz9, hgz9, HSz9_0⟩ := HI0.out
   have hcz9_0 := cellS88_0 HGz9
   have hcz9_1 := cellS88_1 HGz9
   have hcz9_2 := cellS88_2 HGz9
   have hfz9_1 := Z23 HGz9 1
   have hfz9_2 := Z23 HGz9 2
   clear HGz9 hgz9
   go_enter Try.func95, Try.ntmps95
   go_wp2
   repeat (go_quiet (fail); try go_wp2)
   go_ret
   exact ⟨Q2, Q4, Q6, Q13⟩
def spec_l1Cur_pick.f (s0_0 : List Int) (s0_1 : Int) (s0_2 : Int) (a1 : Int) : Option (Int × Int × Int) := if a1 ≤ 1 then (some (0, s0_1, s0_2)) else ((spec_l1Cur_next.f s0_0 s0_1 s0_2).bind fun bt164 => (if a1 > 200 then ((spec_l1Cur_next.f s0_0 bt164.2.1 bt164.2.2).bind fun bt167 => (if a1 = 0 then (none) else (some (Int.tmod (wrap64 ((wrap64 (bt164.1 * 256)) + bt167.1)) a1, bt167.2.1, bt167.2.2)))) else (if a1 = 0 then (none) else (some (Int.tmod bt164.1 a1, bt164.2.1, bt164.2.2)))))
set_option maxHeartbeats 8000000 in
set_option maxRecDepth 100000 in
theorem spec_l1Cur_pick.calls (g : Nat) (s0_0 : List Int) (s0_1 : Int) (s0_2 : Int) (a1 : Int) (r1 : Int) (r2 : Int) (r3 : Int) (w0 w : World) (hI : IsS88 w0 w g s0_0 s0_1 s0_2) (hB : Below w0.heap.size w0 w) (h : spec_l1Cur_pick.f s0_0 s0_1 s0_2 a1 = some (r1, r2, r3)) :
  Calls Try.prog 69 #[.pointer (some ⟨g, 0, none⟩), .int .i64 a1] w fun e w' => e = .returned (.int .i64 r1) ∧ IsS88 w0 w' g s0_0 r2 r3 ∧ Below w0.heap.size w0 w' ∧ KeepBut w w' g none := by
 have HI0 := Ya hI
 have HK := Ya (KeepBut.refl w g none)
 have HL := Ya hB.size
 clear hI
 have HW0 := Ya hB.size
 have HB := Ya hB
 clear hB
 have H : (if a1 ≤ 1 then (some (0, s0_1, s0_2)) else ((spec_l1Cur_next.f s0_0 s0_1 s0_2).bind fun bt164 => (if a1 > 200 then ((spec_l1Cur_next.f s0_0 bt164.2.1 bt164.2.2).bind fun bt167 => (if a1 = 0 then (none) else (some (Int.tmod (wrap64 ((wrap64 (bt164.1 * 256)) + bt167.1)) a1, bt167.2.1, bt167.2.2)))) else (if a1 = 0 then (none) else (some (Int.tmod bt164.1 a1, bt164.2.1, bt164.2.2)))))) = some (r1, r2, r3) := h
 clear h
 by_cases c3 : a1 ≤ 1
 ·rw [if_pos c3] at H
  have c3b0 := Z37 c3
  clear c3
  simp only [Option.some.injEq, Prod.mk.injEq] at H
  obtain ⟨rfl, rfl, rfl⟩ := H
  go_enter Try.func69, Try.ntmps69
  go_wp2
  go_ret
  exact ⟨Q2, Q4, Q6, Q13⟩
 ·rw [if_neg c3] at H
  have c3b0 := Z36 c3
  clear c3
  replace H := Z35.mp H
  obtain ⟨⟨t164, t165, t166⟩, A40, H⟩ := H
  replace H : (if a1 > 200 then ((spec_l1Cur_next.f s0_0 t165 t166).bind fun bt167 => (if a1 = 0 then (none) else (some (Int.tmod (wrap64 ((wrap64 (t164 * 256)) + bt167.1)) a1, bt167.2.1, bt167.2.2)))) else (if a1 = 0 then (none) else (some (Int.tmod t164 a1, t165, t166)))) = some (r1, r2, r3) := H
  have A4 := Ya A40
  clear A40
  by_cases c5 : a1 > 200
  ·rw [if_pos c5] at H
   have c5b0 : decide (200 < a1) = true := Z37 c5
   clear c5
   replace H := Z35.mp H
   obtain ⟨⟨t167, t168, t169⟩, A60, H⟩ := H
   replace H : (if a1 = 0 then (none) else (some (Int.tmod (wrap64 ((wrap64 (t164 * 256)) + t167)) a1, t168, t169))) = some (r1, r2, r3) := H
   have A6 := Ya A60
   clear A60
   by_cases c7 : a1 = 0
   ·rw [if_pos c7] at H
    exact absurd H (by simp)
   ·rw [if_neg c7] at H
    have c7b0 : (a1 == 0) = false := beq_eq_false_iff_ne.mpr c7
    have c7b1 : (a1 != 0) = true := bne_iff_ne.mpr c7
    simp only [Option.some.injEq, Prod.mk.injEq] at H
    obtain ⟨rfl, rfl, rfl⟩ := H
    go_enter Try.func69, Try.ntmps69
    go_wp2_with (first | ((with_reducible refine gate_callee (f := 95) rfl ?_); refine Yz 9 Try.func95 #[.pointer (some ⟨g, 0, none⟩)] ?_; (with_reducible refine (spec_l1Cur_next.calls g s0_0 s0_1 s0_2 t164 t165 t166 w0 _ ?side1 ?side2 A4.out).mono ?_); (case side1 => repeat (first | (with_reducible first | exact HI0.out | apply IsS88.alloc | apply IsS88.drewN | apply IsS88.drew | apply IsS88.set_1 | apply IsS88.set_2) | exact HI0.out)); (case side2 => repeat (first | (with_reducible first | exact HB.out | apply Z5 | apply Z3 | apply Z4 | refine Z6 ?_ (IsS88.ge HI0.out)) | exact HB.out)); rintro e w8 ⟨rfl, hi, hb, hk⟩; refine ⟨_, rfl, ?_⟩; replace HK := Ya (KeepBut.trans Q5 hk (.inl rfl)); replace HB := Ya hb; replace HI0 := Ya hi; (try clear hb hk hi)) | ((with_reducible refine gate_callee (f := 95) rfl ?_); refine Yz 15 Try.func95 #[.pointer (some ⟨g, 0, none⟩)] ?_; (with_reducible refine (spec_l1Cur_next.calls g s0_0 t165 t166 t167 t168 t169 w0 _ ?side1 ?side2 A6.out).mono ?_); (case side1 => repeat (first | (with_reducible first | exact HI0.out | apply IsS88.alloc | apply IsS88.drewN | apply IsS88.drew | apply IsS88.set_1 | apply IsS88.set_2) | exact HI0.out)); (case side2 => repeat (first | (with_reducible first | exact HB.out | apply Z5 | apply Z3 | apply Z4 | refine Z6 ?_ (IsS88.ge HI0.out)) | exact HB.out)); rintro e w9 ⟨rfl, hi, hb, hk⟩; refine ⟨_, rfl, ?_⟩; replace HK := Ya (KeepBut.trans Q5 hk (.inl rfl)); replace HB := Ya hb; replace HI0 := Ya hi; (try clear hb hk hi)))
    go_ret
    exact ⟨Q2, Q4, Q6, Q13⟩
  ·rw [if_neg c5] at H
   have c5b0 : decide (200 < a1) = false := Z36 c5
   clear c5
   by_cases c10 : a1 = 0
   ·rw [if_pos c10] at H
    exact absurd H (by simp)
   ·rw [if_neg c10] at H
    have c10b0 : (a1 == 0) = false := beq_eq_false_iff_ne.mpr c10
    have c10b1 : (a1 != 0) = true := bne_iff_ne.mpr c10
    simp only [Option.some.injEq, Prod.mk.injEq] at H
    obtain ⟨rfl, rfl, rfl⟩ := H
    go_enter Try.func69, Try.ntmps69
    go_wp2_with (first | ((with_reducible refine gate_callee (f := 95) rfl ?_); refine Yz 9 Try.func95 #[.pointer (some ⟨g, 0, none⟩)] ?_; (with_reducible refine (spec_l1Cur_next.calls g s0_0 s0_1 s0_2 t164 t165 t166 w0 _ ?side1 ?side2 A4.out).mono ?_); (case side1 => repeat (first | (with_reducible first | exact HI0.out | apply IsS88.alloc | apply IsS88.drewN | apply IsS88.drew | apply IsS88.set_1 | apply IsS88.set_2) | exact HI0.out)); (case side2 => repeat (first | (with_reducible first | exact HB.out | apply Z5 | apply Z3 | apply Z4 | refine Z6 ?_ (IsS88.ge HI0.out)) | exact HB.out)); rintro e w11 ⟨rfl, hi, hb, hk⟩; refine ⟨_, rfl, ?_⟩; replace HK := Ya (KeepBut.trans Q5 hk (.inl rfl)); replace HB := Ya hb; replace HI0 := Ya hi; (try clear hb hk hi)))
    go_ret
    exact ⟨Q2, Q4, Q6, Q13⟩
def spec_l1Cur_among.f (s0_0 : List Int) (s0_1 : Int) (s0_2 : Int) (l1 : List Int) : Option (Int × Int × Int) := (spec_l1Cur_pick.f s0_0 s0_1 s0_2 (l1.length : Int)).bind fun bt170 => (if 0 ≤ bt170.1 then (if bt170.1 < (l1.length : Int) then (some (rd l1 bt170.1, bt170.2.1, bt170.2.2)) else (none)) else (none))
set_option maxHeartbeats 8000000 in
set_option maxRecDepth 100000 in
theorem spec_l1Cur_among.calls (g : Nat) (s0_0 : List Int) (s0_1 : Int) (s0_2 : Int) (A1 : Option Addr) (c1 : Nat) (l1 : List Int) (r1 : Int) (r2 : Int) (r3 : Int) (w0 w : World) (hI : IsS88 w0 w g s0_0 s0_1 s0_2) (hB : Below w0.heap.size w0 w) (hr1 : Kd.C (Kd.int .i64) w A1 l1.length l1) (hc1 : l1.length ≤ c1) (hf1 : ∀ ad, A1 = some ad → 0 < l1.length → ad.block ≠ g) (h : spec_l1Cur_among.f s0_0 s0_1 s0_2 l1 = some (r1, r2, r3)) :
  Calls Try.prog 65 #[.pointer (some ⟨g, 0, none⟩), .slice A1 l1.length c1] w fun e w' => e = .returned (.int .i64 r1) ∧ IsS88 w0 w' g s0_0 r2 r3 ∧ Below w0.heap.size w0 w' ∧ KeepBut w w' g none := by
 have HR1 := Ya hr1
 have HC1 := Ya hc1
 clear hr1 hc1
 have HI0 := Ya hI
 have HK := Ya (KeepBut.refl w g none)
 have HL := Ya hB.size
 clear hI
 have HW0 := Ya hB.size
 have HB := Ya hB
 clear hB
 have H : ((spec_l1Cur_pick.f s0_0 s0_1 s0_2 (l1.length : Int)).bind fun bt170 => (if 0 ≤ bt170.1 then (if bt170.1 < (l1.length : Int) then (some (rd l1 bt170.1, bt170.2.1, bt170.2.2)) else (none)) else (none))) = some (r1, r2, r3) := h
 clear h
 replace H := Z35.mp H
 obtain ⟨⟨t170, t171, t172⟩, A30, H⟩ := H
 replace H : (if 0 ≤ t170 then (if t170 < (l1.length : Int) then (some (rd l1 t170, t171, t172)) else (none)) else (none)) = some (r1, r2, r3) := H
 have A3 := Ya A30
 clear A30
 by_cases c4 : 0 ≤ t170
 ·rw [if_pos c4] at H
  have c4b0 := Z37 c4
  clear c4
  by_cases c5 : t170 < (l1.length : Int)
  ·rw [if_pos c5] at H
   have c5b0 := Z37 c5
   clear c5
   simp only [Option.some.injEq, Prod.mk.injEq] at H
   obtain ⟨rfl, rfl, rfl⟩ := H
   go_enter Try.func65, Try.ntmps65
   go_wp2_with (first | ((with_reducible refine gate_callee (f := 69) rfl ?_); refine Yz 9 Try.func69 #[.pointer (some ⟨g, 0, none⟩), .int .i64 (l1.length : Int)] ?_; (with_reducible refine (spec_l1Cur_pick.calls g s0_0 s0_1 s0_2 (l1.length : Int) t170 t171 t172 w0 _ ?side1 ?side2 A3.out).mono ?_); (case side1 => repeat (first | (with_reducible first | exact HI0.out | apply IsS88.alloc | apply IsS88.drewN | apply IsS88.drew | apply IsS88.set_1 | apply IsS88.set_2) | exact HI0.out)); (case side2 => repeat (first | (with_reducible first | exact HB.out | apply Z5 | apply Z3 | apply Z4 | refine Z6 ?_ (IsS88.ge HI0.out)) | exact HB.out)); rintro e w6 ⟨rfl, hi, hb, hk⟩; refine ⟨_, rfl, ?_⟩; replace HK := Ya (KeepBut.trans Q5 hk (.inl rfl)); replace HB := Ya hb; replace HI0 := Ya hi; (try clear hb hk hi); have p173 : 0 ≤ (t170 : Int) := Z29 Q1; have q173 : t170 < (l1.length : Int) := Z29 Q1; obtain ⟨ad173, e173, hx173_0⟩ := Kd.at_int HR1.out t170 p173 q173; cases e173; replace hx173_0 := keep_cell HK.out hx173_0 (by first | (rw [add_block]; exact hf1 _ rfl (by omega)) | exact hf1 _ rfl (by omega) | exact hf1 ad173 rfl (by omega)); replace p173 := eq_true p173; replace q173 := eq_true q173))
   go_ret
   exact ⟨Q2, Q4, Q6, Q13⟩
  ·rw [if_neg c5] at H
   exact absurd H (by simp)
 ·rw [if_neg c4] at H
  exact absurd H (by simp)
def spec_l1Cur_one.f (s0_0 : List Int) (s0_1 : Int) (s0_2 : Int) (a1 : Int) : Option (Bool × Int × Int) := (spec_l1Cur_pick.f s0_0 s0_1 s0_2 a1).bind fun bt174 => (some ((bt174.1 == 0), bt174.2.1, bt174.2.2))
set_option maxHeartbeats 8000000 in
set_option maxRecDepth 100000 in
theorem spec_l1Cur_one.calls (g : Nat) (s0_0 : List Int) (s0_1 : Int) (s0_2 : Int) (a1 : Int) (r1 : Bool) (r2 : Int) (r3 : Int) (w0 w : World) (hI : IsS88 w0 w g s0_0 s0_1 s0_2) (hB : Below w0.heap.size w0 w) (h : spec_l1Cur_one.f s0_0 s0_1 s0_2 a1 = some (r1, r2, r3)) :
  Calls Try.prog 70 #[.pointer (some ⟨g, 0, none⟩), .int .i64 a1] w fun e w' => e = .returned (.bool r1) ∧ IsS88 w0 w' g s0_0 r2 r3 ∧ Below w0.heap.size w0 w' ∧ KeepBut w w' g none := by
 have HI0 := Ya hI
 have HK := Ya (KeepBut.refl w g none)
 have HL := Ya hB.size
 clear hI
 have HW0 := Ya hB.size
 have HB := Ya hB
 clear hB
 have H : ((spec_l1Cur_pick.f s0_0 s0_1 s0_2 a1).bind fun bt174 => (some ((bt174.1 == 0), bt174.2.1, bt174.2.2))) = some (r1, r2, r3) := h
 clear h
 replace H := Z35.mp H
 obtain ⟨⟨t174, t175, t176⟩, A30, H⟩ := H
 replace H : (some ((t174 == 0), t175, t176)) = some (r1, r2, r3) := H
 have A3 := Ya A30
 clear A30
 simp only [Option.some.injEq, Prod.mk.injEq] at H
 obtain ⟨rfl, rfl, rfl⟩ := H
 go_enter Try.func70, Try.ntmps70
 go_wp2_with (first | ((with_reducible refine gate_callee (f := 69) rfl ?_); refine Yz 7 Try.func69 #[.pointer (some ⟨g, 0, none⟩), .int .i64 a1] ?_; (with_reducible refine (spec_l1Cur_pick.calls g s0_0 s0_1 s0_2 a1 t174 t175 t176 w0 _ ?side1 ?side2 A3.out).mono ?_); (case side1 => repeat (first | (with_reducible first | exact HI0.out | apply IsS88.alloc | apply IsS88.drewN | apply IsS88.drew | apply IsS88.set_1 | apply IsS88.set_2) | exact HI0.out)); (case side2 => repeat (first | (with_reducible first | exact HB.out | apply Z5 | apply Z3 | apply Z4 | refine Z6 ?_ (IsS88.ge HI0.out)) | exact HB.out)); rintro e w4 ⟨rfl, hi, hb, hk⟩; refine ⟨_, rfl, ?_⟩; replace HK := Ya (KeepBut.trans Q5 hk (.inl rfl)); replace HB := Ya hb; replace HI0 := Ya hi; (try clear hb hk hi)))
 go_ret
 exact ⟨Q2, Q4, Q6, Q13⟩
def spec_l1Cur_move.j0 : Nat → Int → Bool → List Int → Int → Int → Option (Int × Int × Int × Int × Int)
 | 0, _, _, _, _, _ => none
 | k + 1, x1, x11, x1000, x1001, x1002 => if x11 = true then ((spec_l1Cur_among.f x1000 x1001 x1002 (([(-1), 0, 1, 2, 3] : List Int))).bind fun bt184 => ((spec_l1Cur_among.f x1000 bt184.2.1 bt184.2.2 (([(-1), 0, 1, 2, 99] : List Int))).bind fun bt190 => ((spec_l1Cur_among.f x1000 bt190.2.1 bt190.2.2 (([0, 1, (-9223372036854775808)] : List Int))).bind fun bt196 => (some (bt184.1, bt190.1, bt196.1, bt196.2.1, bt196.2.2))))) else ((spec_l1Cur_pick.f x1000 x1001 x1002 3).bind fun bt199 => (if bt199.1 = 0 then ((spec_l1Cur_pick.f x1000 bt199.2.1 bt199.2.2 (wrap64 (x1 - 1))).bind fun bt202 => ((spec_l1Cur_pick.f x1000 bt202.2.1 bt202.2.2 (wrap64 (1 + bt202.1))).bind fun bt205 => (some (0, bt205.1, wrap64 (1 + bt202.1), bt205.2.1, bt205.2.2)))) else (if bt199.1 = 1 then ((spec_l1Cur_pick.f x1000 bt199.2.1 bt199.2.2 (wrap64 (x1 - 1))).bind fun bt208 => (some (1, wrap64 (2 + bt208.1), 0, bt208.2.1, bt208.2.2))) else ((spec_l1Cur_pick.f x1000 bt199.2.1 bt199.2.2 (wrap64 (x1 - 1))).bind fun bt211 => (some (2, wrap64 (2 + bt211.1), 0, bt211.2.1, bt211.2.2))))))
def spec_l1Cur_move.f (k : Nat) (s0_0 : List Int) (s0_1 : Int) (s0_2 : Int) (a1 : Int) : Option (Int × Int × Int × Int × Int) := (spec_l1Cur_one.f s0_0 s0_1 s0_2 40).bind fun bt178 => (if bt178.1 = true then (spec_l1Cur_move.j0 k a1 true s0_0 bt178.2.1 bt178.2.2) else (spec_l1Cur_move.j0 k a1 (decide (a1 < 2)) s0_0 bt178.2.1 bt178.2.2))
theorem spec_l1Cur_move.mono_l : ∀ k, (∀ y0 y1 y2 y3 y4, LeO (spec_l1Cur_move.j0 k y0 y1 y2 y3 y4) (spec_l1Cur_move.j0 (k + 1) y0 y1 y2 y3 y4))
 | 0 => fun _ _ _ _ _ r h => by simp [spec_l1Cur_move.j0] at h
 | k + 1 => by
  have ih0 := spec_l1Cur_move.mono_l k
  ·intro y0 y1 y2 y3 y4
   unfold spec_l1Cur_move.j0
   repeat' first
   | (with_reducible exact ih0 _ _ _ _ _)
   | (with_reducible exact LeO.refl _)
   | (with_reducible exact LeO.none _)
   | (with_reducible refine LeO.ite ?_ ?_)
   | (with_reducible refine LeO.bind ?_ (fun _ => ?_))
   | exact ih0 _ _ _ _ _
   | exact LeO.none _
   | refine LeO.ite ?_ ?_
   | refine LeO.bind ?_ (fun _ => ?_)
theorem spec_l1Cur_move.mono : ∀ a0 a1 a2 a3 k, LeO (spec_l1Cur_move.f k a0 a1 a2 a3) (spec_l1Cur_move.f (k + 1) a0 a1 a2 a3) := by
 intro a0 a1 a2 a3 k
 have ih0 := spec_l1Cur_move.mono_l k
 unfold spec_l1Cur_move.f
 repeat' first
   | (with_reducible exact ih0 _ _ _ _ _)
   | (with_reducible exact LeO.refl _)
   | (with_reducible exact LeO.none _)
   | (with_reducible refine LeO.ite ?_ ?_)
   | (with_reducible refine LeO.bind ?_ (fun _ => ?_))
   | exact ih0 _ _ _ _ _
   | exact LeO.none _
   | refine LeO.ite ?_ ?_
   | refine LeO.bind ?_ (fun _ => ?_)
set_option maxHeartbeats 8000000 in
set_option maxRecDepth 100000 in
theorem spec_l1Cur_move.calls (k : Nat) (g : Nat) (s0_0 : List Int) (s0_1 : Int) (s0_2 : Int) (a1 : Int) (r1 : Int) (r2 : Int) (r3 : Int) (r4 : Int) (r5 : Int) (w0 w : World) (hI : IsS88 w0 w g s0_0 s0_1 s0_2) (hB : Below w0.heap.size w0 w) (h : spec_l1Cur_move.f k s0_0 s0_1 s0_2 a1 = some (r1, r2, r3, r4, r5)) :
  Calls Try.prog 93 #[.pointer (some ⟨g, 0, none⟩), .int .i64 a1] w fun e w' => e = .returned (.agg #[.int .i64 r1, .int .i64 r2, .int .i64 r3]) ∧ IsS88 w0 w' g s0_0 r4 r5 ∧ Below w0.heap.size w0 w' ∧ KeepBut w w' g none := by
 have hu45 := Try.underlying45
 have HI0 := Ya hI
 have HK := Ya (KeepBut.refl w g none)
 have HL := Ya hB.size
 clear hI
 have HW0 := Ya hB.size
 have HB := Ya hB
 clear hB
 have H : ((spec_l1Cur_one.f s0_0 s0_1 s0_2 40).bind fun bt178 => (if bt178.1 = true then (spec_l1Cur_move.j0 k a1 true s0_0 bt178.2.1 bt178.2.2) else (spec_l1Cur_move.j0 k a1 (decide (a1 < 2)) s0_0 bt178.2.1 bt178.2.2))) = some (r1, r2, r3, r4, r5) := h
 clear h
 have HC3 := Ya H
 clear H
 go_enter Try.func93, Try.ntmps93
 go_upto_region 1 with (first | ((with_reducible refine gate_dst (N := 4) rfl ?_); refine Yx 4 #[.int .i64 0, .int .i64 0, .int .i64 0] 45 ?_; intro gb177 hg w4 hbox hb; replace HB := Ya (Z8 Q18 hb); have BK177 := Ya hbox; have GW177 := Ya ((by rw [hg]; exact (keep_size (w := w) (g := g) (row := none) Q5) : w.heap.size ≤ gb177)); have GE177 := Ya ((Nat.le_trans HW0.out (by rw [hg]; exact (keep_size (w := w) (g := g) (row := none) Q5) : w.heap.size ≤ gb177) : w0.heap.size ≤ gb177)); replace HK := Ya (KeepBut.trans Q5 (KeepBut.of_below hb g none) (.inl rfl)); have NB0_177 := Ya ((by rw [hg]; exact Nat.ne_of_lt (IsS88.lt (show IsS88 w0 _ g s0_0 s0_1 s0_2 from by repeat (first | (with_reducible first | exact HI0.out | apply IsS88.alloc | apply IsS88.drewN | apply IsS88.drew | apply IsS88.set_1 | apply IsS88.set_2) | exact HI0.out))) : g ≠ gb177)); have NB177_0 := Ya ((by rw [hg]; exact Nat.ne_of_gt (IsS88.lt (show IsS88 w0 _ g s0_0 s0_1 s0_2 from by repeat (first | (with_reducible first | exact HI0.out | apply IsS88.alloc | apply IsS88.drewN | apply IsS88.drew | apply IsS88.set_1 | apply IsS88.set_2) | exact HI0.out))) : gb177 ≠ g)); replace HI0 := Ya (IsS88.below Q15 hb); clear hb hbox hg))
 (try simp only [Act.put, Z0, Z1, Z2])
 go_cut [11] (fun v11 wc => ∃ (kq : Nat) (x11_2 : Bool) (x1001_2 : Int) (x1002_2 : Int), v11 = .bool x11_2 ∧ Aside0 (spec_l1Cur_move.j0 kq a1 x11_2 s0_0 x1001_2 x1002_2 = some (r1, r2, r3, r4, r5)) ∧ Aside0 (kq ≤ k) ∧ Aside0 (wc.heap[gb177]? = some (.cells #[.int .i64 0, .int .i64 0, .int .i64 0] 45 (0, 0))) ∧ Aside0 (IsS88 w0 wc g s0_0 x1001_2 x1002_2) ∧ Aside0 (KeepBut w wc g none) ∧ Aside0 (Below w0.heap.size w0 wc))
 case first =>
  have H := HC3.out
  clear HC3
  replace H := Z35.mp H
  obtain ⟨⟨t178, t179, t180⟩, A50, H⟩ := H
  replace H : (if t178 = true then (spec_l1Cur_move.j0 k a1 true s0_0 t179 t180) else (spec_l1Cur_move.j0 k a1 (decide (a1 < 2)) s0_0 t179 t180)) = some (r1, r2, r3, r4, r5) := H
  have A5 := Ya A50
  clear A50
  by_cases c6 : t178 = true
  ·subst c6
   have H1 : (spec_l1Cur_move.j0 k a1 true s0_0 t179 t180) = some (r1, r2, r3, r4, r5) := by rw [if_pos rfl] at H; exact H
   clear H
   have H := H1
   clear H1
   have H' := Ya H
   clear H
   go_wp2_with (first | ((with_reducible refine gate_callee (f := 70) rfl ?_); refine Yz 7 Try.func70 #[.pointer (some ⟨g, 0, none⟩), .int .i64 40] ?_; (with_reducible refine (spec_l1Cur_one.calls g s0_0 s0_1 s0_2 40 true t179 t180 w0 _ ?side1 ?side2 A5.out).mono ?_); (case side1 => repeat (first | (with_reducible first | exact HI0.out | apply IsS88.alloc | apply IsS88.drewN | apply IsS88.drew | apply IsS88.set_1 | apply IsS88.set_2 | refine IsS88.far ?_ NB0_177.out _) | exact HI0.out)); (case side2 => repeat (first | (with_reducible first | exact HB.out | apply Z5 | apply Z3 | apply Z4 | refine Z6 ?_ (IsS88.ge HI0.out) | refine Z6 ?_ GE177.out) | exact HB.out)); rintro e w7 ⟨rfl, hi, hb, hk⟩; refine ⟨_, rfl, ?_⟩; replace BK177 := Ya (KeepBut.blk hk (g' := gb177) (o := .cells #[.int .i64 0, .int .i64 0, .int .i64 0] 45 (0, 0)) (Yk BK177.out) NB177_0.out (by simp)); replace HK := Ya (KeepBut.trans Q7 hk (.inl rfl)); replace HB := Ya hb; replace HI0 := Ya hi; (try clear hb hk hi)))
   go_meet
   case rel => exact ⟨_, (true), (t179), (t180), Q3, H', ⟨Q45⟩, ⟨by (with_reducible repeat (first | refine Z24 ?_ _ | refine Z25 ?_ | refine Z26 ?_ _)); exact BK177.out⟩, ⟨Q17⟩, ⟨Q19⟩, ⟨Q21⟩⟩
  ·replace c6 := Bool.eq_false_iff.mpr c6
   subst c6
   have H1 : (spec_l1Cur_move.j0 k a1 (decide (a1 < 2)) s0_0 t179 t180) = some (r1, r2, r3, r4, r5) := by rw [if_neg (show ¬ (false = true) by decide)] at H; exact H
   clear H
   have H := H1
   clear H1
   have H' := Ya H
   clear H
   go_wp2_with (first | ((with_reducible refine gate_callee (f := 70) rfl ?_); refine Yz 7 Try.func70 #[.pointer (some ⟨g, 0, none⟩), .int .i64 40] ?_; (with_reducible refine (spec_l1Cur_one.calls g s0_0 s0_1 s0_2 40 false t179 t180 w0 _ ?side1 ?side2 A5.out).mono ?_); (case side1 => repeat (first | (with_reducible first | exact HI0.out | apply IsS88.alloc | apply IsS88.drewN | apply IsS88.drew | apply IsS88.set_1 | apply IsS88.set_2 | refine IsS88.far ?_ NB0_177.out _) | exact HI0.out)); (case side2 => repeat (first | (with_reducible first | exact HB.out | apply Z5 | apply Z3 | apply Z4 | refine Z6 ?_ (IsS88.ge HI0.out) | refine Z6 ?_ GE177.out) | exact HB.out)); rintro e w8 ⟨rfl, hi, hb, hk⟩; refine ⟨_, rfl, ?_⟩; replace BK177 := Ya (KeepBut.blk hk (g' := gb177) (o := .cells #[.int .i64 0, .int .i64 0, .int .i64 0] 45 (0, 0)) (Yk BK177.out) NB177_0.out (by simp)); replace HK := Ya (KeepBut.trans Q7 hk (.inl rfl)); replace HB := Ya hb; replace HI0 := Ya hi; (try clear hb hk hi)))
   go_meet
   case rel => exact ⟨_, (decide (a1 < 2)), (t179), (t180), Q3, H', ⟨Q45⟩, ⟨by (with_reducible repeat (first | refine Z24 ?_ _ | refine Z25 ?_ | refine Z26 ?_ _)); exact BK177.out⟩, ⟨Q17⟩, ⟨Q19⟩, ⟨Q21⟩⟩
 case rest =>
  clear HC3
  try clear p2
  try clear c6
  try clear c7
  obtain ⟨kq, x11_2, x1001_2, x1002_2, rfl, HA, HJ2, BK177, HI0, HK, HB⟩ := hcut
  cases kq with
  | zero => exact absurd HA.out (by simp [spec_l1Cur_move.j0])
  | succ kj2 =>
   have H := HA.out
   clear HA
   simp only [spec_l1Cur_move.j0] at H
   by_cases c9 : x11_2 = true
   ·subst c9
    have H1 : ((spec_l1Cur_among.f s0_0 x1001_2 x1002_2 (([(-1), 0, 1, 2, 3] : List Int))).bind fun bt184 => ((spec_l1Cur_among.f s0_0 bt184.2.1 bt184.2.2 (([(-1), 0, 1, 2, 99] : List Int))).bind fun bt190 => ((spec_l1Cur_among.f s0_0 bt190.2.1 bt190.2.2 (([0, 1, (-9223372036854775808)] : List Int))).bind fun bt196 => (some (bt184.1, bt190.1, bt196.1, bt196.2.1, bt196.2.2))))) = some (r1, r2, r3, r4, r5) := by rw [if_pos rfl] at H; exact H
    clear H
    have H := H1
    clear H1
    obtain ⟨y181, hy181⟩ : ∃ y_ : List Int, y_ = (([(-1), 0, 1, 2, 3] : List Int)) := ⟨_, rfl⟩
    replace H : ((spec_l1Cur_among.f s0_0 x1001_2 x1002_2 y181).bind fun bt184 => ((spec_l1Cur_among.f s0_0 bt184.2.1 bt184.2.2 (([(-1), 0, 1, 2, 99] : List Int))).bind fun bt190 => ((spec_l1Cur_among.f s0_0 bt190.2.1 bt190.2.2 (([0, 1, (-9223372036854775808)] : List Int))).bind fun bt196 => (some (bt184.1, bt190.1, bt196.1, bt196.2.1, bt196.2.2))))) = some (r1, r2, r3, r4, r5) := by first | (rw [hy181]; with_reducible exact H) | (have H2_ := (Option.bind_some _ _).symm.trans H; rw [hy181]; with_reducible exact H2_) | (have H2_ := (Option.bind_some _ _).symm.trans H; with_reducible exact H2_) | with_reducible exact H | (rw [hy181]; exact H) | exact H
    have Ny181 := Ya hy181
    clear hy181
    replace H := Z35.mp H
    obtain ⟨⟨t184, t185, t186⟩, A100, H⟩ := H
    replace H : ((spec_l1Cur_among.f s0_0 t185 t186 (([(-1), 0, 1, 2, 99] : List Int))).bind fun bt190 => ((spec_l1Cur_among.f s0_0 bt190.2.1 bt190.2.2 (([0, 1, (-9223372036854775808)] : List Int))).bind fun bt196 => (some (t184, bt190.1, bt196.1, bt196.2.1, bt196.2.2)))) = some (r1, r2, r3, r4, r5) := H
    have A10 := Ya A100
    clear A100
    obtain ⟨y187, hy187⟩ : ∃ y_ : List Int, y_ = (([(-1), 0, 1, 2, 99] : List Int)) := ⟨_, rfl⟩
    replace H : ((spec_l1Cur_among.f s0_0 t185 t186 y187).bind fun bt190 => ((spec_l1Cur_among.f s0_0 bt190.2.1 bt190.2.2 (([0, 1, (-9223372036854775808)] : List Int))).bind fun bt196 => (some (t184, bt190.1, bt196.1, bt196.2.1, bt196.2.2)))) = some (r1, r2, r3, r4, r5) := by first | (rw [hy187]; with_reducible exact H) | (have H2_ := (Option.bind_some _ _).symm.trans H; rw [hy187]; with_reducible exact H2_) | (have H2_ := (Option.bind_some _ _).symm.trans H; with_reducible exact H2_) | with_reducible exact H | (rw [hy187]; exact H) | exact H
    have Ny187 := Ya hy187
    clear hy187
    replace H := Z35.mp H
    obtain ⟨⟨t190, t191, t192⟩, A110, H⟩ := H
    replace H : ((spec_l1Cur_among.f s0_0 t191 t192 (([0, 1, (-9223372036854775808)] : List Int))).bind fun bt196 => (some (t184, t190, bt196.1, bt196.2.1, bt196.2.2))) = some (r1, r2, r3, r4, r5) := H
    have A11 := Ya A110
    clear A110
    obtain ⟨y193, hy193⟩ : ∃ y_ : List Int, y_ = (([0, 1, (-9223372036854775808)] : List Int)) := ⟨_, rfl⟩
    replace H : ((spec_l1Cur_among.f s0_0 t191 t192 y193).bind fun bt196 => (some (t184, t190, bt196.1, bt196.2.1, bt196.2.2))) = some (r1, r2, r3, r4, r5) := by first | (rw [hy193]; with_reducible exact H) | (have H2_ := (Option.bind_some _ _).symm.trans H; rw [hy193]; with_reducible exact H2_) | (have H2_ := (Option.bind_some _ _).symm.trans H; with_reducible exact H2_) | with_reducible exact H | (rw [hy193]; exact H) | exact H
    have Ny193 := Ya hy193
    clear hy193
    replace H := Z35.mp H
    obtain ⟨⟨t196, t197, t198⟩, A120, H⟩ := H
    replace H : (some (t184, t190, t196, t197, t198)) = some (r1, r2, r3, r4, r5) := H
    have A12 := Ya A120
    clear A120
    simp only [Option.some.injEq, Prod.mk.injEq] at H
    obtain ⟨rfl, rfl, rfl, rfl, rfl⟩ := H
    go_wp2_with (first | ((with_reducible refine gate_dst (N := 13) rfl ?_); refine Kd.R_lit (Kd.int .i64) _ 3 ?hg (N := 13) ?hd (xs := ([(-1), 0, 1, 2, 3] : List Int)) (inner := [.int .i64 (-1), .int .i64 0, .int .i64 1, .int .i64 2, .int .i64 3]) (ok := fun _ => True) (okp := fun _ => True) ?hr ?hp (fun _ hk => hk) trivial (Below.refl _ _) (Nat.le_refl _) (by simp) ?_; (case hd => rfl); (case hg => rfl); (case hr => first | (go_simp; done) | (go_simp; rfl)); (case hp => exact (Reps.one (show Kd.M (Kd.int .i64) _ _ _ (-1) [.int .i64 (-1)] from rfl) (Reps.one (show Kd.M (Kd.int .i64) _ _ _ 0 [.int .i64 0] from rfl) (Reps.one (show Kd.M (Kd.int .i64) _ _ _ 1 [.int .i64 1] from rfl) (Reps.one (show Kd.M (Kd.int .i64) _ _ _ 2 [.int .i64 2] from rfl) (Reps.one (show Kd.M (Kd.int .i64) _ _ _ 3 [.int .i64 3] from rfl) (Reps.none _ _))))))); intro v182 w13 ho14 hb hg_ hnew_; clear hg_ hnew_; (first | rw [← Ny181.out] at ho14 | (simp only [Int.reduceToNat] at ho14; rw [← Ny181.out] at ho14)); have HO183 := Ya (Kd.R_lower ho14 (keep_size (w := w) (g := g) (row := none) Q7)); replace BK177 := Yb BK177 hb; replace HK := Ya (KeepBut.trans Q7 (KeepBut.of_below hb g none) (.inl rfl)); replace HB := Ya (Z8 Q39 hb); replace HI0 := Ya (IsS88.below Q33 hb); clear hb ho14; obtain ⟨Ao15, co15, rfl⟩ := Z17 HO183.out) | ((with_reducible refine gate_callee (f := 65) rfl ?_); refine Yz 14 Try.func65 #[.pointer (some ⟨g, 0, none⟩), .slice Ao15 y181.length co15] ?_; (with_reducible refine (spec_l1Cur_among.calls g s0_0 x1001_2 x1002_2 _ _ y181 t184 t185 t186 w0 _ ?side1 ?side2 (Yc (Kd.R_reads' HO183.out).2.2) ((Kd.R_reads' HO183.out).2.1) ?side5 A10.out).mono ?_); (case side1 => repeat (first | (with_reducible first | exact HI0.out | apply IsS88.alloc | apply IsS88.drewN | apply IsS88.drew | apply IsS88.set_1 | apply IsS88.set_2 | refine IsS88.far ?_ NB0_177.out _) | exact HI0.out)); (case side2 => repeat (first | (with_reducible first | exact HB.out | apply Z5 | apply Z3 | apply Z4 | refine Z6 ?_ (IsS88.ge HI0.out) | refine Z6 ?_ GE177.out) | exact HB.out)); (case side5 => exact far_slice (IsS88.own_ne HI0.out HO183.out (by decide))); rintro e w16 ⟨rfl, hi, hb, hk⟩; refine ⟨_, rfl, ?_⟩; replace BK177 := Ya (KeepBut.blk hk (g' := gb177) (o := .cells #[.int .i64 0, .int .i64 0, .int .i64 0] 45 (0, 0)) (Yk BK177.out) NB177_0.out (by simp)); replace HO183 := Ya (Z12 (Kd.R_keep (IsS88.apart (show IsS88 w0 _ g s0_0 x1001_2 x1002_2 from by repeat (first | (with_reducible first | exact HI0.out | apply IsS88.alloc | apply IsS88.drewN | apply IsS88.drew | apply IsS88.set_1 | apply IsS88.set_2 | refine IsS88.far ?_ NB0_177.out _) | exact HI0.out)) (Yr HO183.out) (by decide)) hk (fun _ h => h.2)) (fun _ h => h.1)); replace HK := Ya (KeepBut.trans Q7 hk (.inl rfl)); replace HB := Ya hb; replace HI0 := Ya hi; (try clear hb hk hi)) | ((with_reducible refine gate_dst (N := 16) rfl ?_); refine Kd.R_lit (Kd.int .i64) _ 3 ?hg (N := 16) ?hd (xs := ([(-1), 0, 1, 2, 99] : List Int)) (inner := [.int .i64 (-1), .int .i64 0, .int .i64 1, .int .i64 2, .int .i64 99]) (ok := fun _ => True) (okp := fun _ => True) ?hr ?hp (fun _ hk => hk) trivial (Below.refl _ _) (Nat.le_refl _) (by simp) ?_; (case hd => rfl); (case hg => rfl); (case hr => first | (go_simp; done) | (go_simp; rfl)); (case hp => exact (Reps.one (show Kd.M (Kd.int .i64) _ _ _ (-1) [.int .i64 (-1)] from rfl) (Reps.one (show Kd.M (Kd.int .i64) _ _ _ 0 [.int .i64 0] from rfl) (Reps.one (show Kd.M (Kd.int .i64) _ _ _ 1 [.int .i64 1] from rfl) (Reps.one (show Kd.M (Kd.int .i64) _ _ _ 2 [.int .i64 2] from rfl) (Reps.one (show Kd.M (Kd.int .i64) _ _ _ 99 [.int .i64 99] from rfl) (Reps.none _ _))))))); intro v188 w17 ho18 hb hg_ hnew_; clear hg_ hnew_; (first | rw [← Ny187.out] at ho18 | (simp only [Int.reduceToNat] at ho18; rw [← Ny187.out] at ho18)); have HO189 := Ya (Kd.R_lower (Kd.R_new' ho18 (Z16 (Yr HO183.out))) (keep_size (w := w) (g := g) (row := none) Q7)); replace HO183 := Ya (Kd.R_elder' (Yr HO183.out) (Kd.R_base ho18) hb); replace BK177 := Yb BK177 hb; replace HK := Ya (KeepBut.trans Q7 (KeepBut.of_below hb g none) (.inl rfl)); replace HB := Ya (Z8 Q39 hb); replace HI0 := Ya (IsS88.below Q33 hb); clear hb ho18; obtain ⟨Ao19, co19, rfl⟩ := Z17 HO189.out) | ((with_reducible refine gate_callee (f := 65) rfl ?_); refine Yz 17 Try.func65 #[.pointer (some ⟨g, 0, none⟩), .slice Ao19 y187.length co19] ?_; (with_reducible refine (spec_l1Cur_among.calls g s0_0 t185 t186 _ _ y187 t190 t191 t192 w0 _ ?side1 ?side2 (Yc (Kd.R_reads' HO189.out).2.2) ((Kd.R_reads' HO189.out).2.1) ?side5 A11.out).mono ?_); (case side1 => repeat (first | (with_reducible first | exact HI0.out | apply IsS88.alloc | apply IsS88.drewN | apply IsS88.drew | apply IsS88.set_1 | apply IsS88.set_2 | refine IsS88.far ?_ NB0_177.out _) | exact HI0.out)); (case side2 => repeat (first | (with_reducible first | exact HB.out | apply Z5 | apply Z3 | apply Z4 | refine Z6 ?_ (IsS88.ge HI0.out) | refine Z6 ?_ GE177.out) | exact HB.out)); (case side5 => exact far_slice (IsS88.own_ne HI0.out HO189.out (by decide))); rintro e w20 ⟨rfl, hi, hb, hk⟩; refine ⟨_, rfl, ?_⟩; replace BK177 := Ya (KeepBut.blk hk (g' := gb177) (o := .cells #[.int .i64 0, .int .i64 0, .int .i64 0] 45 (0, 0)) (Yk BK177.out) NB177_0.out (by simp)); replace HO183 := Ya (Z12 (Kd.R_keep (IsS88.apart (show IsS88 w0 _ g s0_0 t185 t186 from by repeat (first | (with_reducible first | exact HI0.out | apply IsS88.alloc | apply IsS88.drewN | apply IsS88.drew | apply IsS88.set_1 | apply IsS88.set_2 | refine IsS88.far ?_ NB0_177.out _) | exact HI0.out)) (Yr HO183.out) (by decide)) hk (fun _ h => h.2)) (fun _ h => h.1)); replace HO189 := Ya (Z12 (Kd.R_keep (IsS88.apart (show IsS88 w0 _ g s0_0 t185 t186 from by repeat (first | (with_reducible first | exact HI0.out | apply IsS88.alloc | apply IsS88.drewN | apply IsS88.drew | apply IsS88.set_1 | apply IsS88.set_2 | refine IsS88.far ?_ NB0_177.out _) | exact HI0.out)) (Yr HO189.out) (by decide)) hk (fun _ h => h.2)) (fun _ h => h.1)); replace HK := Ya (KeepBut.trans Q7 hk (.inl rfl)); replace HB := Ya hb; replace HI0 := Ya hi; (try clear hb hk hi)) | ((with_reducible refine gate_dst (N := 19) rfl ?_); refine Kd.R_lit (Kd.int .i64) _ 3 ?hg (N := 19) ?hd (xs := ([0, 1, (-9223372036854775808)] : List Int)) (inner := [.int .i64 0, .int .i64 1, .int .i64 (-9223372036854775808)]) (ok := fun _ => True) (okp := fun _ => True) ?hr ?hp (fun _ hk => hk) trivial (Below.refl _ _) (Nat.le_refl _) (by simp) ?_; (case hd => rfl); (case hg => rfl); (case hr => first | (go_simp; done) | (go_simp; rfl)); (case hp => exact (Reps.one (show Kd.M (Kd.int .i64) _ _ _ 0 [.int .i64 0] from rfl) (Reps.one (show Kd.M (Kd.int .i64) _ _ _ 1 [.int .i64 1] from rfl) (Reps.one (show Kd.M (Kd.int .i64) _ _ _ (-9223372036854775808) [.int .i64 (-9223372036854775808)] from rfl) (Reps.none _ _))))); intro v194 w21 ho22 hb hg_ hnew_; clear hg_ hnew_; (first | rw [← Ny193.out] at ho22 | (simp only [Int.reduceToNat] at ho22; rw [← Ny193.out] at ho22)); have HO195 := Ya (Kd.R_lower (Kd.R_new' (Kd.R_new' ho22 (Z16 (Yr HO183.out))) (Z16 (Yr HO189.out))) (keep_size (w := w) (g := g) (row := none) Q7)); replace HO183 := Ya (Kd.R_elder' (Yr HO183.out) (Kd.R_base ho22) hb); replace HO189 := Ya (Kd.R_elder' (Yr HO189.out) (Kd.R_base ho22) hb); replace BK177 := Yb BK177 hb; replace HK := Ya (KeepBut.trans Q7 (KeepBut.of_below hb g none) (.inl rfl)); replace HB := Ya (Z8 Q39 hb); replace HI0 := Ya (IsS88.below Q33 hb); clear hb ho22; obtain ⟨Ao23, co23, rfl⟩ := Z17 HO195.out) | ((with_reducible refine gate_callee (f := 65) rfl ?_); refine Yz 20 Try.func65 #[.pointer (some ⟨g, 0, none⟩), .slice Ao23 y193.length co23] ?_; (with_reducible refine (spec_l1Cur_among.calls g s0_0 t191 t192 _ _ y193 t196 t197 t198 w0 _ ?side1 ?side2 (Yc (Kd.R_reads' HO195.out).2.2) ((Kd.R_reads' HO195.out).2.1) ?side5 A12.out).mono ?_); (case side1 => repeat (first | (with_reducible first | exact HI0.out | apply IsS88.alloc | apply IsS88.drewN | apply IsS88.drew | apply IsS88.set_1 | apply IsS88.set_2 | refine IsS88.far ?_ NB0_177.out _) | exact HI0.out)); (case side2 => repeat (first | (with_reducible first | exact HB.out | apply Z5 | apply Z3 | apply Z4 | refine Z6 ?_ (IsS88.ge HI0.out) | refine Z6 ?_ GE177.out) | exact HB.out)); (case side5 => exact far_slice (IsS88.own_ne HI0.out HO195.out (by decide))); rintro e w24 ⟨rfl, hi, hb, hk⟩; refine ⟨_, rfl, ?_⟩; replace BK177 := Ya (KeepBut.blk hk (g' := gb177) (o := .cells #[.int .i64 0, .int .i64 0, .int .i64 0] 45 (0, 0)) (Yk BK177.out) NB177_0.out (by simp)); replace HO183 := Ya (Z12 (Kd.R_keep (IsS88.apart (show IsS88 w0 _ g s0_0 t191 t192 from by repeat (first | (with_reducible first | exact HI0.out | apply IsS88.alloc | apply IsS88.drewN | apply IsS88.drew | apply IsS88.set_1 | apply IsS88.set_2 | refine IsS88.far ?_ NB0_177.out _) | exact HI0.out)) (Yr HO183.out) (by decide)) hk (fun _ h => h.2)) (fun _ h => h.1)); replace HO189 := Ya (Z12 (Kd.R_keep (IsS88.apart (show IsS88 w0 _ g s0_0 t191 t192 from by repeat (first | (with_reducible first | exact HI0.out | apply IsS88.alloc | apply IsS88.drewN | apply IsS88.drew | apply IsS88.set_1 | apply IsS88.set_2 | refine IsS88.far ?_ NB0_177.out _) | exact HI0.out)) (Yr HO189.out) (by decide)) hk (fun _ h => h.2)) (fun _ h => h.1)); replace HO195 := Ya (Z12 (Kd.R_keep (IsS88.apart (show IsS88 w0 _ g s0_0 t191 t192 from by repeat (first | (with_reducible first | exact HI0.out | apply IsS88.alloc | apply IsS88.drewN | apply IsS88.drew | apply IsS88.set_1 | apply IsS88.set_2 | refine IsS88.far ?_ NB0_177.out _) | exact HI0.out)) (Yr HO195.out) (by decide)) hk (fun _ h => h.2)) (fun _ h => h.1)); replace HK := Ya (KeepBut.trans Q7 hk (.inl rfl)); replace HB := Ya hb; replace HI0 := Ya hi; (try clear hb hk hi); have hnb25 := NB177_0.out; have hnc25 := NB0_177.out; have hcz26_0 : w24.cell? ⟨gb177, 0, none⟩ = some (.int .i64 0) := (Z22 BK177.out 0).trans rfl; have hcz26_1 : w24.cell? ⟨gb177, 1, none⟩ = some (.int .i64 0) := (Z22 BK177.out 1).trans rfl; have hcz26_2 : w24.cell? ⟨gb177, 2, none⟩ = some (.int .i64 0) := (Z22 BK177.out 2).trans rfl; have hfz26_0 := Z23 BK177.out 0; have hfz26_1 := Z23 BK177.out 1; have hfz26_2 := Z23 BK177.out 2))
    refine bodyPost_ret (results_cell_row rfl _ _ gb177 45 #[.int .i64 t184, .int .i64 t190, .int .i64 t196] (0, 0) _ rfl (Yk (Yv3 BK177.out)) Try.underlying45 rfl (by kernel_rfl)) rfl ?_
    exact ⟨Q2, Q17, Q21, Q19⟩
   ·replace c9 := Bool.eq_false_iff.mpr c9
    subst c9
    have H1 : ((spec_l1Cur_pick.f s0_0 x1001_2 x1002_2 3).bind fun bt199 => (if bt199.1 = 0 then ((spec_l1Cur_pick.f s0_0 bt199.2.1 bt199.2.2 (wrap64 (a1 - 1))).bind fun bt202 => ((spec_l1Cur_pick.f s0_0 bt202.2.1 bt202.2.2 (wrap64 (1 + bt202.1))).bind fun bt205 => (some (0, bt205.1, wrap64 (1 + bt202.1), bt205.2.1, bt205.2.2)))) else (if bt199.1 = 1 then ((spec_l1Cur_pick.f s0_0 bt199.2.1 bt199.2.2 (wrap64 (a1 - 1))).bind fun bt208 => (some (1, wrap64 (2 + bt208.1), 0, bt208.2.1, bt208.2.2))) else ((spec_l1Cur_pick.f s0_0 bt199.2.1 bt199.2.2 (wrap64 (a1 - 1))).bind fun bt211 => (some (2, wrap64 (2 + bt211.1), 0, bt211.2.1, bt211.2.2)))))) = some (r1, r2, r3, r4, r5) := by rw [if_neg (show ¬ (false = true) by decide)] at H; exact H
    clear H
    have H := H1
    clear H1
    replace H := Z35.mp H
    obtain ⟨⟨t199, t200, t201⟩, A270, H⟩ := H
    replace H : (if t199 = 0 then ((spec_l1Cur_pick.f s0_0 t200 t201 (wrap64 (a1 - 1))).bind fun bt202 => ((spec_l1Cur_pick.f s0_0 bt202.2.1 bt202.2.2 (wrap64 (1 + bt202.1))).bind fun bt205 => (some (0, bt205.1, wrap64 (1 + bt202.1), bt205.2.1, bt205.2.2)))) else (if t199 = 1 then ((spec_l1Cur_pick.f s0_0 t200 t201 (wrap64 (a1 - 1))).bind fun bt208 => (some (1, wrap64 (2 + bt208.1), 0, bt208.2.1, bt208.2.2))) else ((spec_l1Cur_pick.f s0_0 t200 t201 (wrap64 (a1 - 1))).bind fun bt211 => (some (2, wrap64 (2 + bt211.1), 0, bt211.2.1, bt211.2.2))))) = some (r1, r2, r3, r4, r5) := H
    have A27 := Ya A270
    clear A270
    by_cases c28 : t199 = 0
    ·rw [if_pos c28] at H
     have c28b0 : (t199 == 0) = true := beq_iff_eq.mpr c28
     have c28b1 : (t199 != 0) = false := bne_eq_false_iff_eq.mpr c28
     clear c28
     replace H := Z35.mp H
     obtain ⟨⟨t202, t203, t204⟩, A290, H⟩ := H
     replace H : ((spec_l1Cur_pick.f s0_0 t203 t204 (wrap64 (1 + t202))).bind fun bt205 => (some (0, bt205.1, wrap64 (1 + t202), bt205.2.1, bt205.2.2))) = some (r1, r2, r3, r4, r5) := H
     have A29 := Ya A290
     clear A290
     replace H := Z35.mp H
     obtain ⟨⟨t205, t206, t207⟩, A300, H⟩ := H
     replace H : (some (0, t205, wrap64 (1 + t202), t206, t207)) = some (r1, r2, r3, r4, r5) := H
     have A30 := Ya A300
     clear A300
     simp only [Option.some.injEq, Prod.mk.injEq] at H
     obtain ⟨rfl, rfl, rfl, rfl, rfl⟩ := H
     go_wp2_with (first | ((with_reducible refine gate_callee (f := 69) rfl ?_); refine Yz 23 Try.func69 #[.pointer (some ⟨g, 0, none⟩), .int .i64 3] ?_; (with_reducible refine (spec_l1Cur_pick.calls g s0_0 x1001_2 x1002_2 3 t199 t200 t201 w0 _ ?side1 ?side2 A27.out).mono ?_); (case side1 => repeat (first | (with_reducible first | exact HI0.out | apply IsS88.alloc | apply IsS88.drewN | apply IsS88.drew | apply IsS88.set_1 | apply IsS88.set_2 | refine IsS88.far ?_ NB0_177.out _) | exact HI0.out)); (case side2 => repeat (first | (with_reducible first | exact HB.out | apply Z5 | apply Z3 | apply Z4 | refine Z6 ?_ (IsS88.ge HI0.out) | refine Z6 ?_ GE177.out) | exact HB.out)); rintro e w31 ⟨rfl, hi, hb, hk⟩; refine ⟨_, rfl, ?_⟩; replace BK177 := Ya (KeepBut.blk hk (g' := gb177) (o := .cells #[.int .i64 0, .int .i64 0, .int .i64 0] 45 (0, 0)) (Yk BK177.out) NB177_0.out (by simp)); replace HK := Ya (KeepBut.trans Q7 hk (.inl rfl)); replace HB := Ya hb; replace HI0 := Ya hi; (try clear hb hk hi)) | ((with_reducible refine gate_callee (f := 69) rfl ?_); refine Yz 29 Try.func69 #[.pointer (some ⟨g, 0, none⟩), .int .i64 (wrap64 (a1 - 1))] ?_; (with_reducible refine (spec_l1Cur_pick.calls g s0_0 t200 t201 (wrap64 (a1 - 1)) t202 t203 t204 w0 _ ?side1 ?side2 A29.out).mono ?_); (case side1 => repeat (first | (with_reducible first | exact HI0.out | apply IsS88.alloc | apply IsS88.drewN | apply IsS88.drew | apply IsS88.set_1 | apply IsS88.set_2 | refine IsS88.far ?_ NB0_177.out _) | exact HI0.out)); (case side2 => repeat (first | (with_reducible first | exact HB.out | apply Z5 | apply Z3 | apply Z4 | refine Z6 ?_ (IsS88.ge HI0.out) | refine Z6 ?_ GE177.out) | exact HB.out)); rintro e w32 ⟨rfl, hi, hb, hk⟩; refine ⟨_, rfl, ?_⟩; replace BK177 := Ya (KeepBut.blk hk (g' := gb177) (o := .cells #[.int .i64 0, .int .i64 0, .int .i64 0] 45 (0, 0)) (Yk BK177.out) NB177_0.out (by simp)); replace HK := Ya (KeepBut.trans Q7 hk (.inl rfl)); replace HB := Ya hb; replace HI0 := Ya hi; (try clear hb hk hi)) | ((with_reducible refine gate_callee (f := 69) rfl ?_); refine Yz 33 Try.func69 #[.pointer (some ⟨g, 0, none⟩), .int .i64 (wrap64 (1 + t202))] ?_; (with_reducible refine (spec_l1Cur_pick.calls g s0_0 t203 t204 (wrap64 (1 + t202)) t205 t206 t207 w0 _ ?side1 ?side2 A30.out).mono ?_); (case side1 => repeat (first | (with_reducible first | exact HI0.out | apply IsS88.alloc | apply IsS88.drewN | apply IsS88.drew | apply IsS88.set_1 | apply IsS88.set_2 | refine IsS88.far ?_ NB0_177.out _) | exact HI0.out)); (case side2 => repeat (first | (with_reducible first | exact HB.out | apply Z5 | apply Z3 | apply Z4 | refine Z6 ?_ (IsS88.ge HI0.out) | refine Z6 ?_ GE177.out) | exact HB.out)); rintro e w33 ⟨rfl, hi, hb, hk⟩; refine ⟨_, rfl, ?_⟩; replace BK177 := Ya (KeepBut.blk hk (g' := gb177) (o := .cells #[.int .i64 0, .int .i64 0, .int .i64 0] 45 (0, 0)) (Yk BK177.out) NB177_0.out (by simp)); replace HK := Ya (KeepBut.trans Q7 hk (.inl rfl)); replace HB := Ya hb; replace HI0 := Ya hi; (try clear hb hk hi); have hnb34 := NB177_0.out; have hnc34 := NB0_177.out; have hcz35_0 : w33.cell? ⟨gb177, 0, none⟩ = some (.int .i64 0) := (Z22 BK177.out 0).trans rfl; have hcz35_1 : w33.cell? ⟨gb177, 1, none⟩ = some (.int .i64 0) := (Z22 BK177.out 1).trans rfl; have hcz35_2 : w33.cell? ⟨gb177, 2, none⟩ = some (.int .i64 0) := (Z22 BK177.out 2).trans rfl; have hfz35_0 := Z23 BK177.out 0; have hfz35_1 := Z23 BK177.out 1; have hfz35_2 := Z23 BK177.out 2))
     refine bodyPost_ret (results_cell_row rfl _ _ gb177 45 #[.int .i64 0, .int .i64 t205, .int .i64 (wrap64 (1 + t202))] (0, 0) _ rfl (Yk (Yv3 BK177.out)) Try.underlying45 rfl (by kernel_rfl)) rfl ?_
     exact ⟨Q2, Q17, Q21, Q19⟩
    ·rw [if_neg c28] at H
     have c28b0 : (t199 == 0) = false := beq_eq_false_iff_ne.mpr c28
     have c28b1 : (t199 != 0) = true := bne_iff_ne.mpr c28
     by_cases c36 : t199 = 1
     ·rw [if_pos c36] at H
      have c36b0 : (t199 == 1) = true := beq_iff_eq.mpr c36
      have c36b1 : (t199 != 1) = false := bne_eq_false_iff_eq.mpr c36
      clear c36
      replace H := Z35.mp H
      obtain ⟨⟨t208, t209, t210⟩, A370, H⟩ := H
      replace H : (some (1, wrap64 (2 + t208), 0, t209, t210)) = some (r1, r2, r3, r4, r5) := H
      have A37 := Ya A370
      clear A370
      simp only [Option.some.injEq, Prod.mk.injEq] at H
      obtain ⟨rfl, rfl, rfl, rfl, rfl⟩ := H
      go_wp2_with (first | ((with_reducible refine gate_callee (f := 69) rfl ?_); refine Yz 23 Try.func69 #[.pointer (some ⟨g, 0, none⟩), .int .i64 3] ?_; (with_reducible refine (spec_l1Cur_pick.calls g s0_0 x1001_2 x1002_2 3 t199 t200 t201 w0 _ ?side1 ?side2 A27.out).mono ?_); (case side1 => repeat (first | (with_reducible first | exact HI0.out | apply IsS88.alloc | apply IsS88.drewN | apply IsS88.drew | apply IsS88.set_1 | apply IsS88.set_2 | refine IsS88.far ?_ NB0_177.out _) | exact HI0.out)); (case side2 => repeat (first | (with_reducible first | exact HB.out | apply Z5 | apply Z3 | apply Z4 | refine Z6 ?_ (IsS88.ge HI0.out) | refine Z6 ?_ GE177.out) | exact HB.out)); rintro e w38 ⟨rfl, hi, hb, hk⟩; refine ⟨_, rfl, ?_⟩; replace BK177 := Ya (KeepBut.blk hk (g' := gb177) (o := .cells #[.int .i64 0, .int .i64 0, .int .i64 0] 45 (0, 0)) (Yk BK177.out) NB177_0.out (by simp)); replace HK := Ya (KeepBut.trans Q7 hk (.inl rfl)); replace HB := Ya hb; replace HI0 := Ya hi; (try clear hb hk hi)) | ((with_reducible refine gate_callee (f := 69) rfl ?_); refine Yz 41 Try.func69 #[.pointer (some ⟨g, 0, none⟩), .int .i64 (wrap64 (a1 - 1))] ?_; (with_reducible refine (spec_l1Cur_pick.calls g s0_0 t200 t201 (wrap64 (a1 - 1)) t208 t209 t210 w0 _ ?side1 ?side2 A37.out).mono ?_); (case side1 => repeat (first | (with_reducible first | exact HI0.out | apply IsS88.alloc | apply IsS88.drewN | apply IsS88.drew | apply IsS88.set_1 | apply IsS88.set_2 | refine IsS88.far ?_ NB0_177.out _) | exact HI0.out)); (case side2 => repeat (first | (with_reducible first | exact HB.out | apply Z5 | apply Z3 | apply Z4 | refine Z6 ?_ (IsS88.ge HI0.out) | refine Z6 ?_ GE177.out) | exact HB.out)); rintro e w39 ⟨rfl, hi, hb, hk⟩; refine ⟨_, rfl, ?_⟩; replace BK177 := Ya (KeepBut.blk hk (g' := gb177) (o := .cells #[.int .i64 0, .int .i64 0, .int .i64 0] 45 (0, 0)) (Yk BK177.out) NB177_0.out (by simp)); replace HK := Ya (KeepBut.trans Q7 hk (.inl rfl)); replace HB := Ya hb; replace HI0 := Ya hi; (try clear hb hk hi); have hnb40 := NB177_0.out; have hnc40 := NB0_177.out; have hcz41_0 : w39.cell? ⟨gb177, 0, none⟩ = some (.int .i64 0) := (Z22 BK177.out 0).trans rfl; have hcz41_1 : w39.cell? ⟨gb177, 1, none⟩ = some (.int .i64 0) := (Z22 BK177.out 1).trans rfl; have hcz41_2 : w39.cell? ⟨gb177, 2, none⟩ = some (.int .i64 0) := (Z22 BK177.out 2).trans rfl; have hfz41_0 := Z23 BK177.out 0; have hfz41_1 := Z23 BK177.out 1; have hfz41_2 := Z23 BK177.out 2))
      refine bodyPost_ret (results_cell_row rfl _ _ gb177 45 #[.int .i64 1, .int .i64 (wrap64 (2 + t208)), .int .i64 0] (0, 0) _ rfl (Yk (Yv3 BK177.out)) Try.underlying45 rfl (by kernel_rfl)) rfl ?_
      exact ⟨Q2, Q17, Q21, Q19⟩
     ·rw [if_neg c36] at H
      have c36b0 : (t199 == 1) = false := beq_eq_false_iff_ne.mpr c36
      have c36b1 : (t199 != 1) = true := bne_iff_ne.mpr c36
      replace H := Z35.mp H
      obtain ⟨⟨t211, t212, t213⟩, A420, H⟩ := H
      replace H : (some (2, wrap64 (2 + t211), 0, t212, t213)) = some (r1, r2, r3, r4, r5) := H
      have A42 := Ya A420
      clear A420
      simp only [Option.some.injEq, Prod.mk.injEq] at H
      obtain ⟨rfl, rfl, rfl, rfl, rfl⟩ := H
      go_wp2_with (first | ((with_reducible refine gate_callee (f := 69) rfl ?_); refine Yz 23 Try.func69 #[.pointer (some ⟨g, 0, none⟩), .int .i64 3] ?_; (with_reducible refine (spec_l1Cur_pick.calls g s0_0 x1001_2 x1002_2 3 t199 t200 t201 w0 _ ?side1 ?side2 A27.out).mono ?_); (case side1 => repeat (first | (with_reducible first | exact HI0.out | apply IsS88.alloc | apply IsS88.drewN | apply IsS88.drew | apply IsS88.set_1 | apply IsS88.set_2 | refine IsS88.far ?_ NB0_177.out _) | exact HI0.out)); (case side2 => repeat (first | (with_reducible first | exact HB.out | apply Z5 | apply Z3 | apply Z4 | refine Z6 ?_ (IsS88.ge HI0.out) | refine Z6 ?_ GE177.out) | exact HB.out)); rintro e w43 ⟨rfl, hi, hb, hk⟩; refine ⟨_, rfl, ?_⟩; replace BK177 := Ya (KeepBut.blk hk (g' := gb177) (o := .cells #[.int .i64 0, .int .i64 0, .int .i64 0] 45 (0, 0)) (Yk BK177.out) NB177_0.out (by simp)); replace HK := Ya (KeepBut.trans Q7 hk (.inl rfl)); replace HB := Ya hb; replace HI0 := Ya hi; (try clear hb hk hi)) | ((with_reducible refine gate_callee (f := 69) rfl ?_); refine Yz 47 Try.func69 #[.pointer (some ⟨g, 0, none⟩), .int .i64 (wrap64 (a1 - 1))] ?_; (with_reducible refine (spec_l1Cur_pick.calls g s0_0 t200 t201 (wrap64 (a1 - 1)) t211 t212 t213 w0 _ ?side1 ?side2 A42.out).mono ?_); (case side1 => repeat (first | (with_reducible first | exact HI0.out | apply IsS88.alloc | apply IsS88.drewN | apply IsS88.drew | apply IsS88.set_1 | apply IsS88.set_2 | refine IsS88.far ?_ NB0_177.out _) | exact HI0.out)); (case side2 => repeat (first | (with_reducible first | exact HB.out | apply Z5 | apply Z3 | apply Z4 | refine Z6 ?_ (IsS88.ge HI0.out) | refine Z6 ?_ GE177.out) | exact HB.out)); rintro e w44 ⟨rfl, hi, hb, hk⟩; refine ⟨_, rfl, ?_⟩; replace BK177 := Ya (KeepBut.blk hk (g' := gb177) (o := .cells #[.int .i64 0, .int .i64 0, .int .i64 0] 45 (0, 0)) (Yk BK177.out) NB177_0.out (by simp)); replace HK := Ya (KeepBut.trans Q7 hk (.inl rfl)); replace HB := Ya hb; replace HI0 := Ya hi; (try clear hb hk hi); have hnb45 := NB177_0.out; have hnc45 := NB0_177.out; have hcz46_0 : w44.cell? ⟨gb177, 0, none⟩ = some (.int .i64 0) := (Z22 BK177.out 0).trans rfl; have hcz46_1 : w44.cell? ⟨gb177, 1, none⟩ = some (.int .i64 0) := (Z22 BK177.out 1).trans rfl; have hcz46_2 : w44.cell? ⟨gb177, 2, none⟩ = some (.int .i64 0) := (Z22 BK177.out 2).trans rfl; have hfz46_0 := Z23 BK177.out 0; have hfz46_1 := Z23 BK177.out 1; have hfz46_2 := Z23 BK177.out 2))
      refine bodyPost_ret (results_cell_row rfl _ _ gb177 45 #[.int .i64 2, .int .i64 (wrap64 (2 + t211)), .int .i64 0] (0, 0) _ rfl (Yk (Yv3 BK177.out)) Try.underlying45 rfl (by kernel_rfl)) rfl ?_
      exact ⟨Q2, Q17, Q21, Q19⟩
end Go.Proofs.Ytllhnnjkonghlaa.MFnReached
