import Derived.Test.YtllhnnjkonghlaaMFnGreedyListsx0
namespace Go.Proofs.Ytllhnnjkonghlaa.MFnGreedyLists
open Go.RowKit Go.Proofs.YtllhnnjkonghlaaW.PrintWords Go.Proofs.YtllhnnjkonghlaaW.PrintLast Go.Proofs.YtllhnnjkonghlaaW.PrintMore
attribute [local go_sem] max2_int min2_int max_two min_two max_three min_three max_four min_four   
set_option linter.unusedVariables false
set_option linter.unusedSimpArgs false
def IsS88 (w0 W : World) (g : Nat) (f0 : List Int) (f1 : Int) (f2 : Int) : Prop := ∃ A0 c0, W.heap[g]? = some (.cells #[.slice A0 f0.length c0, .int .i64 f1, .int .u64 f2] 88 (0, 0)) ∧ w0.heap.size ≤ g ∧ Kd.C (Kd.int .u8) w0 A0 f0.length f0
theorem IsS88.grown {w0 W : World} {g : Nat} {f0 : List Int} {f1 : Int} {f2 : Int} {W1 : World} {row : Option Nat} (h : IsS88 w0 W g f0 f1 f2) (hw : W.grownBy W1 row) (hne : some g ≠ row) : IsS88 w0 W1 g f0 f1 f2 := by
 obtain ⟨A0, c0, hb, hg, hr0⟩ := h
 exact ⟨A0, c0, blk_grown hb hw hne, hg, hr0⟩
theorem IsS88.own_neN {w0 W : World} {g : Nat} {f0 : List Int} {f1 : Int} {f2 : Int} {α : Type} {d : Kd α} {e : Nat} {base : Nat} {ok : Nat → Prop} {v : Value} {xs : List α} (h : IsS88 w0 W g f0 f1 f2) (ho : Kd.N d e W base ok v xs) (ht : e ≠ 88) : some g ≠ v.ownBlock := by
 obtain ⟨A0, c0, hb, hg, hr0⟩ := h
 exact Kd.N_ne ho hb ht
theorem IsS88.fresh {w0 W : World} {g : Nat} {f0 : List Int} {f1 : Int} {f2 : Int} (h : IsS88 w0 W g f0 f1 f2) : ∀ k, W.heap.size ≤ k → k ≠ g := by
 obtain ⟨A0, c0, hb, hg, hr0⟩ := h
 exact Kd.freshB hb
theorem IsS88.kept {w0 W : World} {g : Nat} {f0 : List Int} {f1 : Int} {f2 : Int} {W1 : World} {S : Nat → Prop} (h : IsS88 w0 W g f0 f1 f2) (hk : Kept W W1 S) (hne : ¬ S g) : IsS88 w0 W1 g f0 f1 f2 := by
 obtain ⟨A0, c0, hb, hg, hr0⟩ := h
 exact ⟨A0, c0, blk_kept hb hk hne, hg, hr0⟩
theorem IsS88.below {w0 W : World} {g : Nat} {f0 : List Int} {f1 : Int} {f2 : Int} {W1 : World} (h : IsS88 w0 W g f0 f1 f2) (hw : Below W.heap.size W W1) : IsS88 w0 W1 g f0 f1 f2 := h.grown (grown_of_below hw none) (by simp)
theorem IsS88.alloc {w0 W : World} {g : Nat} {f0 : List Int} {f1 : Int} {f2 : Int} (h : IsS88 w0 W g f0 f1 f2) (o : Obj) : IsS88 w0 (W.alloc o) g f0 f1 f2 := h.below (Z5 (Below.refl _ _) o)
theorem IsS88.drewN {w0 W : World} {g : Nat} {f0 : List Int} {f1 : Int} {f2 : Int} (h : IsS88 w0 W g f0 f1 f2) (m : Nat) : IsS88 w0 (W.drewN m) g f0 f1 f2 := h
theorem IsS88.drew {w0 W : World} {g : Nat} {f0 : List Int} {f1 : Int} {f2 : Int} (h : IsS88 w0 W g f0 f1 f2) : IsS88 w0 W.drew g f0 f1 f2 := h
theorem IsS88.at_ {w0 W : World} {g : Nat} {f0 : List Int} {f1 : Int} {f2 : Int} {w' : World} {m : Nat} (hq : W.drewN m = w') (h : IsS88 w0 W g f0 f1 f2) : IsS88 w0 w' g f0 f1 f2 := by subst hq; exact IsS88.drewN h m
theorem IsS88.apart {w0 W : World} {g : Nat} {f0 : List Int} {f1 : Int} {f2 : Int} {α : Type} {d : Kd α} {e : Nat} {base : Nat} {ok : Nat → Prop} {v : Value} {xs : List α} (h : IsS88 w0 W g f0 f1 f2) (ho : d.R e W base ok v xs) (ht : ∀ q, q ∈ e :: d.E → q ≠ 88) : d.R e W base (fun k => ok k ∧ k ≠ g) v xs := by
 obtain ⟨A0, c0, hb, hg, hr0⟩ := h
 exact Z15 ho hb ht
theorem IsS88.own_ne {w0 W : World} {g : Nat} {f0 : List Int} {f1 : Int} {f2 : Int} {α : Type} {d : Kd α} {e : Nat} {base : Nat} {ok : Nat → Prop} {v : Value} {xs : List α} (h : IsS88 w0 W g f0 f1 f2) (ho : d.R e W base ok v xs) (ht : e ≠ 88) : some g ≠ v.ownBlock := by
 obtain ⟨A0, c0, hb, hg, hr0⟩ := h
 exact Kd.R_ne ho hb ht
theorem IsS88.lt {w0 W : World} {g : Nat} {f0 : List Int} {f1 : Int} {f2 : Int} (h : IsS88 w0 W g f0 f1 f2) : g < W.heap.size := by
 obtain ⟨A0, c0, hb, hg, hr0⟩ := h
 exact blk_lt hb
theorem IsS88.ge {w0 W : World} {g : Nat} {f0 : List Int} {f1 : Int} {f2 : Int} (h : IsS88 w0 W g f0 f1 f2) : w0.heap.size ≤ g := by
 obtain ⟨A0, c0, hb, hg, hr0⟩ := h
 exact hg
theorem IsS88.far {w0 W : World} {g : Nat} {f0 : List Int} {f1 : Int} {f2 : Int} {p : Addr} (h : IsS88 w0 W g f0 f1 f2) (hne : g ≠ p.block) (u : Value) : IsS88 w0 (W.setCell p u) g f0 f1 f2 := by
 obtain ⟨A0, c0, hb, hg, hr0⟩ := h
 exact ⟨A0, c0, blk_far hb hne u, hg, hr0⟩
theorem cellS88_0 {W : World} {g : Nat} {A0 : Option Addr} {c0 : Nat} {f0 : List Int} {f1 : Int} {f2 : Int} (h : W.heap[g]? = some (.cells #[.slice A0 f0.length c0, .int .i64 f1, .int .u64 f2] 88 (0, 0))) : W.cell? ⟨g, 0, none⟩ = some (.slice A0 f0.length c0) := (Z22 h 0).trans rfl
theorem cellS88_1 {W : World} {g : Nat} {A0 : Option Addr} {c0 : Nat} {f0 : List Int} {f1 : Int} {f2 : Int} (h : W.heap[g]? = some (.cells #[.slice A0 f0.length c0, .int .i64 f1, .int .u64 f2] 88 (0, 0))) : W.cell? ⟨g, 1, none⟩ = some (.int .i64 f1) := (Z22 h 1).trans rfl
theorem IsS88.set_1 {w0 W : World} {g : Nat} {f0 : List Int} {f1 : Int} {f2 : Int} (h : IsS88 w0 W g f0 f1 f2) (x : Int) : IsS88 w0 (W.setCell ⟨g, 1, none⟩ (.int .i64 x)) g f0 x f2 := by
 obtain ⟨A0, c0, hb, hg, hr0⟩ := h
 exact ⟨A0, c0, by simpa using blk_set hb 1 (.int .i64 x), hg, hr0⟩
theorem cellS88_2 {W : World} {g : Nat} {A0 : Option Addr} {c0 : Nat} {f0 : List Int} {f1 : Int} {f2 : Int} (h : W.heap[g]? = some (.cells #[.slice A0 f0.length c0, .int .i64 f1, .int .u64 f2] 88 (0, 0))) : W.cell? ⟨g, 2, none⟩ = some (.int .u64 f2) := (Z22 h 2).trans rfl
theorem IsS88.set_2 {w0 W : World} {g : Nat} {f0 : List Int} {f1 : Int} {f2 : Int} (h : IsS88 w0 W g f0 f1 f2) (x : Int) : IsS88 w0 (W.setCell ⟨g, 2, none⟩ (.int .u64 x)) g f0 f1 x := by
 obtain ⟨A0, c0, hb, hg, hr0⟩ := h
 exact ⟨A0, c0, by simpa using blk_set hb 2 (.int .u64 x), hg, hr0⟩
def spec_l1Cur_next.f (s0_0 : List Int) (s0_1 : Int) (s0_2 : Int) : Option (Int × Int × Int) := if s0_1 < (s0_0.length : Int) then (if 0 ≤ s0_1 then (if (wrap64 (s0_1 + 1)) ≤ (s0_0.length : Int) then (some (wrap64 (rd s0_0 s0_1), wrap64 (s0_1 + 1), IntKind.u64.wrap ((IntKind.u64.wrap ((IntKind.u64.wrap (s0_2 * 6364136223846793005)) + (IntKind.u64.wrap (wrap64 (rd s0_0 s0_1))))) + 1442695040888963407))) else (some (wrap64 (Go.bits .and .u64 ((IntKind.u64.wrap ((IntKind.u64.wrap ((IntKind.u64.wrap (s0_2 * 6364136223846793005)) + (IntKind.u64.wrap (wrap64 (rd s0_0 s0_1))))) + 1442695040888963407)) / 1099511627776) 255), wrap64 (s0_1 + 1), IntKind.u64.wrap ((IntKind.u64.wrap ((IntKind.u64.wrap (s0_2 * 6364136223846793005)) + (IntKind.u64.wrap (wrap64 (rd s0_0 s0_1))))) + 1442695040888963407)))) else (none)) else (if (wrap64 (s0_1 + 1)) ≤ (s0_0.length : Int) then (some (0, wrap64 (s0_1 + 1), IntKind.u64.wrap ((IntKind.u64.wrap ((IntKind.u64.wrap (s0_2 * 6364136223846793005)))) + 1442695040888963407))) else (some (wrap64 (Go.bits .and .u64 ((IntKind.u64.wrap ((IntKind.u64.wrap ((IntKind.u64.wrap (s0_2 * 6364136223846793005)))) + 1442695040888963407)) / 1099511627776) 255), wrap64 (s0_1 + 1), IntKind.u64.wrap ((IntKind.u64.wrap ((IntKind.u64.wrap (s0_2 * 6364136223846793005)))) + 1442695040888963407))))
set_option maxHeartbeats 8000000 in
set_option maxRecDepth 100000 in
theorem spec_l1Cur_next.calls (g : Nat) (s0_0 : List Int) (s0_1 : Int) (s0_2 : Int) (r1 : Int) (r2 : Int) (r3 : Int) (w0 w : World) (hI : IsS88 w0 w g s0_0 s0_1 s0_2) (hB : Below w0.heap.size w0 w) (h : spec_l1Cur_next.f s0_0 s0_1 s0_2 = some (r1, r2, r3)) :
  Calls Try.prog 95 #[.pointer (some ⟨g, 0, none⟩)] w fun e w' => e = .returned (.int .i64 r1) ∧ IsS88 w0 w' g s0_0 r2 r3 ∧ Below w0.heap.size w0 w' ∧ KeepBut w w' g none := by
 have HI0 := Ya hI
 have HK := Ya (KeepBut.refl w g none)
 have HL := Ya hB.size
 clear hI
 have HW0 := Ya hB.size
 have HB := Ya hB
 clear hB
 have H : (if s0_1 < (s0_0.length : Int) then (if 0 ≤ s0_1 then (if (wrap64 (s0_1 + 1)) ≤ (s0_0.length : Int) then (some (wrap64 (rd s0_0 s0_1), wrap64 (s0_1 + 1), IntKind.u64.wrap ((IntKind.u64.wrap ((IntKind.u64.wrap (s0_2 * 6364136223846793005)) + (IntKind.u64.wrap (wrap64 (rd s0_0 s0_1))))) + 1442695040888963407))) else (some (wrap64 (Go.bits .and .u64 ((IntKind.u64.wrap ((IntKind.u64.wrap ((IntKind.u64.wrap (s0_2 * 6364136223846793005)) + (IntKind.u64.wrap (wrap64 (rd s0_0 s0_1))))) + 1442695040888963407)) / 1099511627776) 255), wrap64 (s0_1 + 1), IntKind.u64.wrap ((IntKind.u64.wrap ((IntKind.u64.wrap (s0_2 * 6364136223846793005)) + (IntKind.u64.wrap (wrap64 (rd s0_0 s0_1))))) + 1442695040888963407)))) else (none)) else (if (wrap64 (s0_1 + 1)) ≤ (s0_0.length : Int) then (some (0, wrap64 (s0_1 + 1), IntKind.u64.wrap ((IntKind.u64.wrap ((IntKind.u64.wrap (s0_2 * 6364136223846793005)))) + 1442695040888963407))) else (some (wrap64 (Go.bits .and .u64 ((IntKind.u64.wrap ((IntKind.u64.wrap ((IntKind.u64.wrap (s0_2 * 6364136223846793005)))) + 1442695040888963407)) / 1099511627776) 255), wrap64 (s0_1 + 1), IntKind.u64.wrap ((IntKind.u64.wrap ((IntKind.u64.wrap (s0_2 * 6364136223846793005)))) + 1442695040888963407))))) = some (r1, r2, r3) := h
 clear h
 by_cases c2 : s0_1 < (s0_0.length : Int)
 ·rw [if_pos c2] at H
  have c2b0 := Z37 c2
  clear c2
  by_cases c3 : 0 ≤ s0_1
  ·rw [if_pos c3] at H
   have c3b0 := Z37 c3
   clear c3
   by_cases c4 : (wrap64 (s0_1 + 1)) ≤ (s0_0.length : Int)
   ·rw [if_pos c4] at H
    have c4b0 := Z37 c4
    clear c4
    simp only [Option.some.injEq, Prod.mk.injEq] at H
    obtain ⟨rfl, rfl, rfl⟩ := H
    obtain ⟨ASz5_0, cSz5_0, HGz5, hgz5, HSz5_0⟩ := HI0.out
    have hcz5_0 := cellS88_0 HGz5
    have hcz5_1 := cellS88_1 HGz5
    have hcz5_2 := cellS88_2 HGz5
    have hfz5_1 := Z23 HGz5 1
    have hfz5_2 := Z23 HGz5 2
    clear HGz5 hgz5
    have p178 : 0 ≤ (s0_1 : Int) := Z29 Q1
    have q178 : s0_1 < (s0_0.length : Int) := Z29 Q1
    obtain ⟨ad178, e178, hx178_0⟩ := Kd.at_int HSz5_0 s0_1 p178 q178
    cases e178
    replace hx178_0 := pw_cell_below HB.out hx178_0
    replace p178 := eq_true p178
    replace q178 := eq_true q178
    go_enter Try.func95, Try.ntmps95
    go_wp2
    repeat (go_quiet (fail); try go_wp2)
    go_ret
    exact ⟨Q2, Q4, Q6, Q13⟩
   ·rw [if_neg c4] at H
    have c4b0 := Z36 c4
    clear c4
    simp only [Option.some.injEq, Prod.mk.injEq] at H
    obtain ⟨rfl, rfl, rfl⟩ := H
    obtain ⟨ASz6_0, cSz6_0, HGz6, hgz6, HSz6_0⟩ := HI0.out
    have hcz6_0 := cellS88_0 HGz6
    have hcz6_1 := cellS88_1 HGz6
    have hcz6_2 := cellS88_2 HGz6
    have hfz6_1 := Z23 HGz6 1
    have hfz6_2 := Z23 HGz6 2
    clear HGz6 hgz6
    have p178 : 0 ≤ (s0_1 : Int) := Z29 Q1
    have q178 : s0_1 < (s0_0.length : Int) := Z29 Q1
    obtain ⟨ad178, e178, hx178_0⟩ := Kd.at_int HSz6_0 s0_1 p178 q178
    cases e178
    replace hx178_0 := pw_cell_below HB.out hx178_0
    replace p178 := eq_true p178
    replace q178 := eq_true q178
    go_enter Try.func95, Try.ntmps95
    go_wp2
    repeat (go_quiet (fail); try go_wp2)
    go_ret
    exact ⟨Q2, Q4, Q6, Q13⟩
  ·rw [if_neg c3] at H
   exact absurd H (by simp)
 ·rw [if_neg c2] at H
  have c2b0 := Z36 c2
  clear c2
  by_cases c7 : (wrap64 (s0_1 + 1)) ≤ (s0_0.length : Int)
  ·rw [if_pos c7] at H
   have c7b0 := Z37 c7
   clear c7
   simp only [Option.some.injEq, Prod.mk.injEq] at H
   obtain ⟨rfl, rfl, rfl⟩ := H
   obtain ⟨ASz8_0, cSz8_0, HGz8, hgz8, HSz8_0⟩ := HI0.out
   have hcz8_0 := cellS88_0 HGz8
   have hcz8_1 := cellS88_1 HGz8
   have hcz8_2 := cellS88_2 HGz8
   have hfz8_1 := Z23 HGz8 1
   have hfz8_2 := Z23 HGz8 2
   clear HGz8 hgz8
   go_enter Try.func95, Try.ntmps95
   go_wp2
   repeat (go_quiet (fail); try go_wp2)
   go_ret
   exact ⟨Q2, Q4, Q6, Q13⟩
  ·rw [if_neg c7] at H
   have c7b0 := Z36 c7
   clear c7
   simp only [Option.some.injEq, Prod.mk.injEq] at H
   obtain ⟨rfl, rfl, rfl⟩ := H
   obtain ⟨ASz9_0, cSz9_0, HGz9, hgz9, HSz9_0⟩ := HI0.out
   have hcz9_0 := cellS88_0 HGz9
   have hcz9_1 := cellS88_1 HGz9
   have hcz9_2 := cellS88_2 HGz9
   have hfz9_1 := Z23 HGz9 1
   have hfz9_2 := Z23 HGz9 2
   clear HGz9 hgz9
   go_enter Try.func95, Try.ntmps95
   go_wp2
   repeat (go_quiet (fail); try go_wp2)
   go_ret
   exact ⟨Q2, Q4, Q6, Q13⟩
def spec_l1Cur_pick.f (s0_0 : List Int) (s0_1 : Int) (s0_2 : Int) (a1 : Int) : Option (Int × Int × Int) := if a1 ≤ 1 then (some (0, s0_1, s0_2)) else ((spec_l1Cur_next.f s0_0 s0_1 s0_2).bind fun bt179 => (if a1 > 200 then ((spec_l1Cur_next.f s0_0 bt179.2.1 bt179.2.2).bind fun bt182 => (if a1 = 0 then (none) else (some (Int.tmod (wrap64 ((wrap64 (bt179.1 * 256)) + bt182.1)) a1, bt182.2.1, bt182.2.2)))) else (if a1 = 0 then (none) else (some (Int.tmod bt179.1 a1, bt179.2.1, bt179.2.2)))))
set_option maxHeartbeats 8000000 in
set_option maxRecDepth 100000 in
theorem spec_l1Cur_pick.calls (g : Nat) (s0_0 : List Int) (s0_1 : Int) (s0_2 : Int) (a1 : Int) (r1 : Int) (r2 : Int) (r3 : Int) (w0 w : World) (hI : IsS88 w0 w g s0_0 s0_1 s0_2) (hB : Below w0.heap.size w0 w) (h : spec_l1Cur_pick.f s0_0 s0_1 s0_2 a1 = some (r1, r2, r3)) :
  Calls Try.prog 69 #[.pointer (some ⟨g, 0, none⟩), .int .i64 a1] w fun e w' => e = .returned (.int .i64 r1) ∧ IsS88 w0 w' g s0_0 r2 r3 ∧ Below w0.heap.size w0 w' ∧ KeepBut w w' g none := by
 have HI0 := Ya hI
 have HK := Ya (KeepBut.refl w g none)
 have HL := Ya hB.size
 clear hI
 have HW0 := Ya hB.size
 have HB := Ya hB
 clear hB
 have H : (if a1 ≤ 1 then (some (0, s0_1, s0_2)) else ((spec_l1Cur_next.f s0_0 s0_1 s0_2).bind fun bt179 => (if a1 > 200 then ((spec_l1Cur_next.f s0_0 bt179.2.1 bt179.2.2).bind fun bt182 => (if a1 = 0 then (none) else (some (Int.tmod (wrap64 ((wrap64 (bt179.1 * 256)) + bt182.1)) a1, bt182.2.1, bt182.2.2)))) else (if a1 = 0 then (none) else (some (Int.tmod bt179.1 a1, bt179.2.1, bt179.2.2)))))) = some (r1, r2, r3) := h
 clear h
 by_cases c3 : a1 ≤ 1
 ·rw [if_pos c3] at H
  have c3b0 := Z37 c3
  clear c3
  simp only [Option.some.injEq, Prod.mk.injEq] at H
  obtain ⟨rfl, rfl, rfl⟩ := H
  go_enter Try.func69, Try.ntmps69
  go_wp2
  go_ret
  exact ⟨Q2, Q4, Q6, Q13⟩
 ·rw [if_neg c3] at H
  have c3b0 := Z36 c3
  clear c3
  replace H := Z35.mp H
  obtain ⟨⟨t179, t180, t181⟩, A40, H⟩ := H
  replace H : (if a1 > 200 then ((spec_l1Cur_next.f s0_0 t180 t181).bind fun bt182 => (if a1 = 0 then (none) else (some (Int.tmod (wrap64 ((wrap64 (t179 * 256)) + bt182.1)) a1, bt182.2.1, bt182.2.2)))) else (if a1 = 0 then (none) else (some (Int.tmod t179 a1, t180, t181)))) = some (r1, r2, r3) := H
  have A4 := Ya A40
  clear A40
  by_cases c5 : a1 > 200
  ·rw [if_pos c5] at H
   have c5b0 : decide (200 < a1) = true := Z37 c5
   clear c5
   replace H := Z35.mp H
   obtain ⟨⟨t182, t183, t184⟩, A60, H⟩ := H
   replace H : (if a1 = 0 then (none) else (some (Int.tmod (wrap64 ((wrap64 (t179 * 256)) + t182)) a1, t183, t184))) = some (r1, r2, r3) := H
   have A6 := Ya A60
   clear A60
   by_cases c7 : a1 = 0
   ·rw [if_pos c7] at H
    exact absurd H (by simp)
   ·rw [if_neg c7] at H
    have c7b0 : (a1 == 0) = false := beq_eq_false_iff_ne.mpr c7
    have c7b1 : (a1 != 0) = true := bne_iff_ne.mpr c7
    simp only [Option.some.injEq, Prod.mk.injEq] at H
    obtain ⟨rfl, rfl, rfl⟩ := H
    go_enter Try.func69, Try.ntmps69
    go_wp2_with (first | ((with_reducible refine gate_callee (f := 95) rfl ?_); refine Yz 9 Try.func95 #[.pointer (some ⟨g, 0, none⟩)] ?_; (with_reducible refine (spec_l1Cur_next.calls g s0_0 s0_1 s0_2 t179 t180 t181 w0 _ ?side1 ?side2 A4.out).mono ?_); (case side1 => repeat (first | (with_reducible first | exact HI0.out | apply IsS88.alloc | apply IsS88.drewN | apply IsS88.drew | apply IsS88.set_1 | apply IsS88.set_2) | exact HI0.out)); (case side2 => repeat (first | (with_reducible first | exact HB.out | apply Z5 | apply Z3 | apply Z4 | refine Z6 ?_ (IsS88.ge HI0.out)) | exact HB.out)); rintro e w8 ⟨rfl, hi, hb, hk⟩; refine ⟨_, rfl, ?_⟩; replace HK := Ya (KeepBut.trans Q3 hk (.inl rfl)); replace HB := Ya hb; replace HI0 := Ya hi; (try clear hb hk hi)) | ((with_reducible refine gate_callee (f := 95) rfl ?_); refine Yz 15 Try.func95 #[.pointer (some ⟨g, 0, none⟩)] ?_; (with_reducible refine (spec_l1Cur_next.calls g s0_0 t180 t181 t182 t183 t184 w0 _ ?side1 ?side2 A6.out).mono ?_); (case side1 => repeat (first | (with_reducible first | exact HI0.out | apply IsS88.alloc | apply IsS88.drewN | apply IsS88.drew | apply IsS88.set_1 | apply IsS88.set_2) | exact HI0.out)); (case side2 => repeat (first | (with_reducible first | exact HB.out | apply Z5 | apply Z3 | apply Z4 | refine Z6 ?_ (IsS88.ge HI0.out)) | exact HB.out)); rintro e w9 ⟨rfl, hi, hb, hk⟩; refine ⟨_, rfl, ?_⟩; replace HK := Ya (KeepBut.trans Q3 hk (.inl rfl)); replace HB := Ya hb; replace HI0 := Ya hi; (try clear hb hk hi)))
    go_ret
    exact ⟨Q2, Q4, Q6, Q13⟩
  ·rw [if_neg c5] at H
   have c5b0 : decide (200 < a1) = false := Z36 c5
   clear c5
   by_cases c10 : a1 = 0
   ·rw [if_pos c10] at H
    exact absurd H (by simp)
   ·rw [if_neg c10] at H
    have c10b0 : (a1 == 0) = false := beq_eq_false_iff_ne.mpr c10
    have c10b1 : (a1 != 0) = true := bne_iff_ne.mpr c10
    simp only [Option.some.injEq, Prod.mk.injEq] at H
    obtain ⟨rfl, rfl, rfl⟩ := H
    go_enter Try.func69, Try.ntmps69
    go_wp2_with (first | ((with_reducible refine gate_callee (f := 95) rfl ?_); refine Yz 9 Try.func95 #[.pointer (some ⟨g, 0, none⟩)] ?_; (with_reducible refine (spec_l1Cur_next.calls g s0_0 s0_1 s0_2 t179 t180 t181 w0 _ ?side1 ?side2 A4.out).mono ?_); (case side1 => repeat (first | (with_reducible first | exact HI0.out | apply IsS88.alloc | apply IsS88.drewN | apply IsS88.drew | apply IsS88.set_1 | apply IsS88.set_2) | exact HI0.out)); (case side2 => repeat (first | (with_reducible first | exact HB.out | apply Z5 | apply Z3 | apply Z4 | refine Z6 ?_ (IsS88.ge HI0.out)) | exact HB.out)); rintro e w11 ⟨rfl, hi, hb, hk⟩; refine ⟨_, rfl, ?_⟩; replace HK := Ya (KeepBut.trans Q3 hk (.inl rfl)); replace HB := Ya hb; replace HI0 := Ya hi; (try clear hb hk hi)))
    go_ret
    exact ⟨Q2, Q4, Q6, Q13⟩
def spec_l1Cur_among.f (s0_0 : List Int) (s0_1 : Int) (s0_2 : Int) (l1 : List Int) : Option (Int × Int × Int) := (spec_l1Cur_pick.f s0_0 s0_1 s0_2 (l1.length : Int)).bind fun bt185 => (if 0 ≤ bt185.1 then (if bt185.1 < (l1.length : Int) then (some (rd l1 bt185.1, bt185.2.1, bt185.2.2)) else (none)) else (none))
set_option maxHeartbeats 8000000 in
set_option maxRecDepth 100000 in
theorem spec_l1Cur_among.calls (g : Nat) (s0_0 : List Int) (s0_1 : Int) (s0_2 : Int) (A1 : Option Addr) (c1 : Nat) (l1 : List Int) (r1 : Int) (r2 : Int) (r3 : Int) (w0 w : World) (hI : IsS88 w0 w g s0_0 s0_1 s0_2) (hB : Below w0.heap.size w0 w) (hr1 : Kd.C (Kd.int .i64) w A1 l1.length l1) (hc1 : l1.length ≤ c1) (hf1 : ∀ ad, A1 = some ad → 0 < l1.length → ad.block ≠ g) (h : spec_l1Cur_among.f s0_0 s0_1 s0_2 l1 = some (r1, r2, r3)) :
  Calls Try.prog 65 #[.pointer (some ⟨g, 0, none⟩), .slice A1 l1.length c1] w fun e w' => e = .returned (.int .i64 r1) ∧ IsS88 w0 w' g s0_0 r2 r3 ∧ Below w0.heap.size w0 w' ∧ KeepBut w w' g none := by
 have HR1 := Ya hr1
 have HC1 := Ya hc1
 clear hr1 hc1
 have HI0 := Ya hI
 have HK := Ya (KeepBut.refl w g none)
 have HL := Ya hB.size
 clear hI
 have HW0 := Ya hB.size
 have HB := Ya hB
 clear hB
 have H : ((spec_l1Cur_pick.f s0_0 s0_1 s0_2 (l1.length : Int)).bind fun bt185 => (if 0 ≤ bt185.1 then (if bt185.1 < (l1.length : Int) then (some (rd l1 bt185.1, bt185.2.1, bt185.2.2)) else (none)) else (none))) = some (r1, r2, r3) := h
 clear h
 replace H := Z35.mp H
 obtain ⟨⟨t185, t186, t187⟩, A30, H⟩ := H
 replace H : (if 0 ≤ t185 then (if t185 < (l1.length : Int) then (some (rd l1 t185, t186, t187)) else (none)) else (none)) = some (r1, r2, r3) := H
 have A3 := Ya A30
 clear A30
 by_cases c4 : 0 ≤ t185
 ·rw [if_pos c4] at H
  have c4b0 := Z37 c4
  clear c4
  by_cases c5 : t185 < (l1.length : Int)
  ·rw [if_pos c5] at H
   have c5b0 := Z37 c5
   clear c5
   simp only [Option.some.injEq, Prod.mk.injEq] at H
   obtain ⟨rfl, rfl, rfl⟩ := H
   go_enter Try.func65, Try.ntmps65
   go_wp2_with (first | ((with_reducible refine gate_callee (f := 69) rfl ?_); refine Yz 9 Try.func69 #[.pointer (some ⟨g, 0, none⟩), .int .i64 (l1.length : Int)] ?_; (with_reducible refine (spec_l1Cur_pick.calls g s0_0 s0_1 s0_2 (l1.length : Int) t185 t186 t187 w0 _ ?side1 ?side2 A3.out).mono ?_); (case side1 => repeat (first | (with_reducible first | exact HI0.out | apply IsS88.alloc | apply IsS88.drewN | apply IsS88.drew | apply IsS88.set_1 | apply IsS88.set_2) | exact HI0.out)); (case side2 => repeat (first | (with_reducible first | exact HB.out | apply Z5 | apply Z3 | apply Z4 | refine Z6 ?_ (IsS88.ge HI0.out)) | exact HB.out)); rintro e w6 ⟨rfl, hi, hb, hk⟩; refine ⟨_, rfl, ?_⟩; replace HK := Ya (KeepBut.trans Q3 hk (.inl rfl)); replace HB := Ya hb; replace HI0 := Ya hi; (try clear hb hk hi); have p188 : 0 ≤ (t185 : Int) := Z29 Q1; have q188 : t185 < (l1.length : Int) := Z29 Q1; obtain ⟨ad188, e188, hx188_0⟩ := Kd.at_int HR1.out t185 p188 q188; cases e188; replace hx188_0 := keep_cell HK.out hx188_0 (by first | (rw [add_block]; exact hf1 _ rfl (by omega)) | exact hf1 _ rfl (by omega) | exact hf1 ad188 rfl (by omega)); replace p188 := eq_true p188; replace q188 := eq_true q188))
   go_ret
   exact ⟨Q2, Q4, Q6, Q13⟩
  ·rw [if_neg c5] at H
   exact absurd H (by simp)
 ·rw [if_neg c4] at H
  exact absurd H (by simp)
def spec_l1Cur_one.f (s0_0 : List Int) (s0_1 : Int) (s0_2 : Int) (a1 : Int) : Option (Bool × Int × Int) := (spec_l1Cur_pick.f s0_0 s0_1 s0_2 a1).bind fun bt189 => (some ((bt189.1 == 0), bt189.2.1, bt189.2.2))
set_option maxHeartbeats 8000000 in
set_option maxRecDepth 100000 in
theorem spec_l1Cur_one.calls (g : Nat) (s0_0 : List Int) (s0_1 : Int) (s0_2 : Int) (a1 : Int) (r1 : Bool) (r2 : Int) (r3 : Int) (w0 w : World) (hI : IsS88 w0 w g s0_0 s0_1 s0_2) (hB : Below w0.heap.size w0 w) (h : spec_l1Cur_one.f s0_0 s0_1 s0_2 a1 = some (r1, r2, r3)) :
  Calls Try.prog 70 #[.pointer (some ⟨g, 0, none⟩), .int .i64 a1] w fun e w' => e = .returned (.bool r1) ∧ IsS88 w0 w' g s0_0 r2 r3 ∧ Below w0.heap.size w0 w' ∧ KeepBut w w' g none := by
 have HI0 := Ya hI
 have HK := Ya (KeepBut.refl w g none)
 have HL := Ya hB.size
 clear hI
 have HW0 := Ya hB.size
 have HB := Ya hB
 clear hB
 have H : ((spec_l1Cur_pick.f s0_0 s0_1 s0_2 a1).bind fun bt189 => (some ((bt189.1 == 0), bt189.2.1, bt189.2.2))) = some (r1, r2, r3) := h
 clear h
 replace H := Z35.mp H
 obtain ⟨⟨t189, t190, t191⟩, A30, H⟩ := H
 replace H : (some ((t189 == 0), t190, t191)) = some (r1, r2, r3) := H
 have A3 := Ya A30
 clear A30
 simp only [Option.some.injEq, Prod.mk.injEq] at H
 obtain ⟨rfl, rfl, rfl⟩ := H
 go_enter Try.func70, Try.ntmps70
 go_wp2_with (first | ((with_reducible refine gate_callee (f := 69) rfl ?_); refine Yz 7 Try.func69 #[.pointer (some ⟨g, 0, none⟩), .int .i64 a1] ?_; (with_reducible refine (spec_l1Cur_pick.calls g s0_0 s0_1 s0_2 a1 t189 t190 t191 w0 _ ?side1 ?side2 A3.out).mono ?_); (case side1 => repeat (first | (with_reducible first | exact HI0.out | apply IsS88.alloc | apply IsS88.drewN | apply IsS88.drew | apply IsS88.set_1 | apply IsS88.set_2) | exact HI0.out)); (case side2 => repeat (first | (with_reducible first | exact HB.out | apply Z5 | apply Z3 | apply Z4 | refine Z6 ?_ (IsS88.ge HI0.out)) | exact HB.out)); rintro e w4 ⟨rfl, hi, hb, hk⟩; refine ⟨_, rfl, ?_⟩; replace HK := Ya (KeepBut.trans Q3 hk (.inl rfl)); replace HB := Ya hb; replace HI0 := Ya hi; (try clear hb hk hi)))
 go_ret
 exact ⟨Q2, Q4, Q6, Q13⟩
def spec_l1Cur_move.j0 : Nat → Int → Bool → List Int → Int → Int → Option (Int × Int × Int × Int × Int)
 | 0, _, _, _, _, _ => none
 | k + 1, x1, x11, x1000, x1001, x1002 => if x11 = true then ((spec_l1Cur_among.f x1000 x1001 x1002 (([(-1), 0, 1, 2, 3] : List Int))).bind fun bt199 => ((spec_l1Cur_among.f x1000 bt199.2.1 bt199.2.2 (([(-1), 0, 1, 2, 99] : List Int))).bind fun bt205 => ((spec_l1Cur_among.f x1000 bt205.2.1 bt205.2.2 (([0, 1, (-9223372036854775808)] : List Int))).bind fun bt211 => (some (bt199.1, bt205.1, bt211.1, bt211.2.1, bt211.2.2))))) else ((spec_l1Cur_pick.f x1000 x1001 x1002 3).bind fun bt214 => (if bt214.1 = 0 then ((spec_l1Cur_pick.f x1000 bt214.2.1 bt214.2.2 (wrap64 (x1 - 1))).bind fun bt217 => ((spec_l1Cur_pick.f x1000 bt217.2.1 bt217.2.2 (wrap64 (1 + bt217.1))).bind fun bt220 => (some (0, bt220.1, wrap64 (1 + bt217.1), bt220.2.1, bt220.2.2)))) else (if bt214.1 = 1 then ((spec_l1Cur_pick.f x1000 bt214.2.1 bt214.2.2 (wrap64 (x1 - 1))).bind fun bt223 => (some (1, wrap64 (2 + bt223.1), 0, bt223.2.1, bt223.2.2))) else ((spec_l1Cur_pick.f x1000 bt214.2.1 bt214.2.2 (wrap64 (x1 - 1))).bind fun bt226 => (some (2, wrap64 (2 + bt226.1), 0, bt226.2.1, bt226.2.2))))))
def spec_l1Cur_move.f (k : Nat) (s0_0 : List Int) (s0_1 : Int) (s0_2 : Int) (a1 : Int) : Option (Int × Int × Int × Int × Int) := (spec_l1Cur_one.f s0_0 s0_1 s0_2 40).bind fun bt193 => (if bt193.1 = true then (spec_l1Cur_move.j0 k a1 true s0_0 bt193.2.1 bt193.2.2) else (spec_l1Cur_move.j0 k a1 (decide (a1 < 2)) s0_0 bt193.2.1 bt193.2.2))
theorem spec_l1Cur_move.mono_l : ∀ k, (∀ y0 y1 y2 y3 y4, LeO (spec_l1Cur_move.j0 k y0 y1 y2 y3 y4) (spec_l1Cur_move.j0 (k + 1) y0 y1 y2 y3 y4))
 | 0 => fun _ _ _ _ _ r h => by simp [spec_l1Cur_move.j0] at h
 | k + 1 => by
  have ih0 := spec_l1Cur_move.mono_l k
  ·intro y0 y1 y2 y3 y4
   unfold spec_l1Cur_move.j0
   repeat' first
   | (with_reducible exact ih0 _ _ _ _ _)
   | (with_reducible exact LeO.refl _)
   | (with_reducible exact LeO.none _)
   | (with_reducible refine LeO.ite ?_ ?_)
   | (with_reducible refine LeO.bind ?_ (fun _ => ?_))
   | exact ih0 _ _ _ _ _
   | exact LeO.none _
   | refine LeO.ite ?_ ?_
   | refine LeO.bind ?_ (fun _ => ?_)
theorem spec_l1Cur_move.mono : ∀ a0 a1 a2 a3 k, LeO (spec_l1Cur_move.f k a0 a1 a2 a3) (spec_l1Cur_move.f (k + 1) a0 a1 a2 a3) := by
 intro a0 a1 a2 a3 k
 have ih0 := spec_l1Cur_move.mono_l k
 unfold spec_l1Cur_move.f
 repeat' first
   | (with_reducible exact ih0 _ _ _ _ _)
   | (with_reducible exact LeO.refl _)
   | (with_reducible exact LeO.none _)
   | (with_reducible refine LeO.ite ?_ ?_)
   | (with_reducible refine LeO.bind ?_ (fun _ => ?_))
   | exact ih0 _ _ _ _ _
   | exact LeO.none _
   | refine LeO.ite ?_ ?_
   | refine LeO.bind ?_ (fun _ => ?_)
set_option maxHeartbeats 8000000 in
set_option maxRecDepth 100000 in
theorem spec_l1Cur_move.calls (k : Nat) (g : Nat) (s0_0 : List Int) (s0_1 : Int) (s0_2 : Int) (a1 : Int) (r1 : Int) (r2 : Int) (r3 : Int) (r4 : Int) (r5 : Int) (w0 w : World) (hI : IsS88 w0 w g s0_0 s0_1 s0_2) (hB : Below w0.heap.size w0 w) (h : spec_l1Cur_move.f k s0_0 s0_1 s0_2 a1 = some (r1, r2, r3, r4, r5)) :
  Calls Try.prog 93 #[.pointer (some ⟨g, 0, none⟩), .int .i64 a1] w fun e w' => e = .returned (.agg #[.int .i64 r1, .int .i64 r2, .int .i64 r3]) ∧ IsS88 w0 w' g s0_0 r4 r5 ∧ Below w0.heap.size w0 w' ∧ KeepBut w w' g none := by
 have hu45 := Try.underlying45
 have HI0 := Ya hI
 have HK := Ya (KeepBut.refl w g none)
 have HL := Ya hB.size
 clear hI
 have HW0 := Ya hB.size
 have HB := Ya hB
 clear hB
 have H : ((spec_l1Cur_one.f s0_0 s0_1 s0_2 40).bind fun bt193 => (if bt193.1 = true then (spec_l1Cur_move.j0 k a1 true s0_0 bt193.2.1 bt193.2.2) else (spec_l1Cur_move.j0 k a1 (decide (a1 < 2)) s0_0 bt193.2.1 bt193.2.2))) = some (r1, r2, r3, r4, r5) := h
 clear h
 have HC3 := Ya H
 clear H
 go_enter Try.func93, Try.ntmps93
 go_upto_region 1 with (first | ((with_reducible refine gate_dst (N := 4) rfl ?_); refine Yx 4 #[.int .i64 0, .int .i64 0, .int .i64 0] 45 ?_; intro gb192 hg w4 hbox hb; replace HB := Ya (Z8 Q20 hb); have BK192 := Ya hbox; have GW192 := Ya ((by rw [hg]; exact (keep_size (w := w) (g := g) (row := none) Q3) : w.heap.size ≤ gb192)); have GE192 := Ya ((Nat.le_trans HW0.out (by rw [hg]; exact (keep_size (w := w) (g := g) (row := none) Q3) : w.heap.size ≤ gb192) : w0.heap.size ≤ gb192)); replace HK := Ya (KeepBut.trans Q3 (KeepBut.of_below hb g none) (.inl rfl)); have NB0_192 := Ya ((by rw [hg]; exact Nat.ne_of_lt (IsS88.lt (show IsS88 w0 _ g s0_0 s0_1 s0_2 from by repeat (first | (with_reducible first | exact HI0.out | apply IsS88.alloc | apply IsS88.drewN | apply IsS88.drew | apply IsS88.set_1 | apply IsS88.set_2) | exact HI0.out))) : g ≠ gb192)); have NB192_0 := Ya ((by rw [hg]; exact Nat.ne_of_gt (IsS88.lt (show IsS88 w0 _ g s0_0 s0_1 s0_2 from by repeat (first | (with_reducible first | exact HI0.out | apply IsS88.alloc | apply IsS88.drewN | apply IsS88.drew | apply IsS88.set_1 | apply IsS88.set_2) | exact HI0.out))) : gb192 ≠ g)); replace HI0 := Ya (IsS88.below Q14 hb); clear hb hbox hg))
 (try simp only [Act.put, Z0, Z1, Z2])
 go_cut [11] (fun v11 wc => ∃ (kq : Nat) (x11_2 : Bool) (x1001_2 : Int) (x1002_2 : Int), v11 = .bool x11_2 ∧ Aside0 (spec_l1Cur_move.j0 kq a1 x11_2 s0_0 x1001_2 x1002_2 = some (r1, r2, r3, r4, r5)) ∧ Aside0 (kq ≤ k) ∧ Aside0 (wc.heap[gb192]? = some (.cells #[.int .i64 0, .int .i64 0, .int .i64 0] 45 (0, 0))) ∧ Aside0 (IsS88 w0 wc g s0_0 x1001_2 x1002_2) ∧ Aside0 (KeepBut w wc g none) ∧ Aside0 (Below w0.heap.size w0 wc))
 case first =>
  have H := HC3.out
  clear HC3
  replace H := Z35.mp H
  obtain ⟨⟨t193, t194, t195⟩, A50, H⟩ := H
  replace H : (if t193 = true then (spec_l1Cur_move.j0 k a1 true s0_0 t194 t195) else (spec_l1Cur_move.j0 k a1 (decide (a1 < 2)) s0_0 t194 t195)) = some (r1, r2, r3, r4, r5) := H
  have A5 := Ya A50
  clear A50
  by_cases c6 : t193 = true
  ·subst c6
   have H1 : (spec_l1Cur_move.j0 k a1 true s0_0 t194 t195) = some (r1, r2, r3, r4, r5) := by rw [if_pos rfl] at H; exact H
   clear H
   have H := H1
   clear H1
   have H' := Ya H
   clear H
   go_wp2_with (first | ((with_reducible refine gate_callee (f := 70) rfl ?_); refine Yz 7 Try.func70 #[.pointer (some ⟨g, 0, none⟩), .int .i64 40] ?_; (with_reducible refine (spec_l1Cur_one.calls g s0_0 s0_1 s0_2 40 true t194 t195 w0 _ ?side1 ?side2 A5.out).mono ?_); (case side1 => repeat (first | (with_reducible first | exact HI0.out | apply IsS88.alloc | apply IsS88.drewN | apply IsS88.drew | apply IsS88.set_1 | apply IsS88.set_2 | refine IsS88.far ?_ NB0_192.out _) | exact HI0.out)); (case side2 => repeat (first | (with_reducible first | exact HB.out | apply Z5 | apply Z3 | apply Z4 | refine Z6 ?_ (IsS88.ge HI0.out) | refine Z6 ?_ GE192.out) | exact HB.out)); rintro e w7 ⟨rfl, hi, hb, hk⟩; refine ⟨_, rfl, ?_⟩; replace BK192 := Ya (KeepBut.blk hk (g' := gb192) (o := .cells #[.int .i64 0, .int .i64 0, .int .i64 0] 45 (0, 0)) (Yk BK192.out) NB192_0.out (by simp)); replace HK := Ya (KeepBut.trans Q9 hk (.inl rfl)); replace HB := Ya hb; replace HI0 := Ya hi; (try clear hb hk hi)))
   go_meet
   case rel => exact ⟨_, (true), (t194), (t195), Q5, H', ⟨Q46⟩, ⟨by (with_reducible repeat (first | refine Z24 ?_ _ | refine Z25 ?_ | refine Z26 ?_ _)); exact BK192.out⟩, ⟨Q25⟩, ⟨Q26⟩, ⟨Q27⟩⟩
  ·replace c6 := Bool.eq_false_iff.mpr c6
   subst c6
   have H1 : (spec_l1Cur_move.j0 k a1 (decide (a1 < 2)) s0_0 t194 t195) = some (r1, r2, r3, r4, r5) := by rw [if_neg (show ¬ (false = true) by decide)] at H; exact H
   clear H
   have H := H1
   clear H1
   have H' := Ya H
   clear H
   go_wp2_with (first | ((with_reducible refine gate_callee (f := 70) rfl ?_); refine Yz 7 Try.func70 #[.pointer (some ⟨g, 0, none⟩), .int .i64 40] ?_; (with_reducible refine (spec_l1Cur_one.calls g s0_0 s0_1 s0_2 40 false t194 t195 w0 _ ?side1 ?side2 A5.out).mono ?_); (case side1 => repeat (first | (with_reducible first | exact HI0.out | apply IsS88.alloc | apply IsS88.drewN | apply IsS88.drew | apply IsS88.set_1 | apply IsS88.set_2 | refine IsS88.far ?_ NB0_192.out _) | exact HI0.out)); (case side2 => repeat (first | (with_reducible first | exact HB.out | apply Z5 | apply Z3 | apply Z4 | refine Z6 ?_ (IsS88.ge HI0.out) | refine Z6 ?_ GE192.out) | exact HB.out)); rintro e w8 ⟨rfl, hi, hb, hk⟩; refine ⟨_, rfl, ?_⟩; replace BK192 := Ya (KeepBut.blk hk (g' := gb192) (o := .cells #[.int .i64 0, .int .i64 0, .int .i64 0] 45 (0, 0)) (Yk BK192.out) NB192_0.out (by simp)); replace HK := Ya (KeepBut.trans Q9 hk (.inl rfl)); replace HB := Ya hb; replace HI0 := Ya hi; (try clear hb hk hi)))
   go_meet
   case rel => exact ⟨_, (decide (a1 < 2)), (t194), (t195), Q5, H', ⟨Q46⟩, ⟨by (with_reducible repeat (first | refine Z24 ?_ _ | refine Z25 ?_ | refine Z26 ?_ _)); exact BK192.out⟩, ⟨Q25⟩, ⟨Q26⟩, ⟨Q27⟩⟩
 case rest =>
  clear HC3
  try clear p2
  try clear c6
  try clear c7
  obtain ⟨kq, x11_2, x1001_2, x1002_2, rfl, HA, HJ2, BK192, HI0, HK, HB⟩ := hcut
  cases kq with
  | zero => exact absurd HA.out (by simp [spec_l1Cur_move.j0])
  | succ kj2 =>
   have H := HA.out
   clear HA
   simp only [spec_l1Cur_move.j0] at H
   by_cases c9 : x11_2 = true
   ·subst c9
    have H1 : ((spec_l1Cur_among.f s0_0 x1001_2 x1002_2 (([(-1), 0, 1, 2, 3] : List Int))).bind fun bt199 => ((spec_l1Cur_among.f s0_0 bt199.2.1 bt199.2.2 (([(-1), 0, 1, 2, 99] : List Int))).bind fun bt205 => ((spec_l1Cur_among.f s0_0 bt205.2.1 bt205.2.2 (([0, 1, (-9223372036854775808)] : List Int))).bind fun bt211 => (some (bt199.1, bt205.1, bt211.1, bt211.2.1, bt211.2.2))))) = some (r1, r2, r3, r4, r5) := by rw [if_pos rfl] at H; exact H
    clear H
    have H := H1
    clear H1
    obtain ⟨y196, hy196⟩ : ∃ y_ : List Int, y_ = (([(-1), 0, 1, 2, 3] : List Int)) := ⟨_, rfl⟩
    replace H : ((spec_l1Cur_among.f s0_0 x1001_2 x1002_2 y196).bind fun bt199 => ((spec_l1Cur_among.f s0_0 bt199.2.1 bt199.2.2 (([(-1), 0, 1, 2, 99] : List Int))).bind fun bt205 => ((spec_l1Cur_among.f s0_0 bt205.2.1 bt205.2.2 (([0, 1, (-9223372036854775808)] : List Int))).bind fun bt211 => (some (bt199.1, bt205.1, bt211.1, bt211.2.1, bt211.2.2))))) = some (r1, r2, r3, r4, r5) := by first | (rw [hy196]; with_reducible exact H) | (have H2_ := (Option.bind_some _ _).symm.trans H; rw [hy196]; with_reducible exact H2_) | (have H2_ := (Option.bind_some _ _).symm.trans H; with_reducible exact H2_) | with_reducible exact H | (rw [hy196]; exact H) | exact H
    have Ny196 := Ya hy196
    clear hy196
    replace H := Z35.mp H
    obtain ⟨⟨t199, t200, t201⟩, A100, H⟩ := H
    replace H : ((spec_l1Cur_among.f s0_0 t200 t201 (([(-1), 0, 1, 2, 99] : List Int))).bind fun bt205 => ((spec_l1Cur_among.f s0_0 bt205.2.1 bt205.2.2 (([0, 1, (-9223372036854775808)] : List Int))).bind fun bt211 => (some (t199, bt205.1, bt211.1, bt211.2.1, bt211.2.2)))) = some (r1, r2, r3, r4, r5) := H
    have A10 := Ya A100
    clear A100
    obtain ⟨y202, hy202⟩ : ∃ y_ : List Int, y_ = (([(-1), 0, 1, 2, 99] : List Int)) := ⟨_, rfl⟩
    replace H : ((spec_l1Cur_among.f s0_0 t200 t201 y202).bind fun bt205 => ((spec_l1Cur_among.f s0_0 bt205.2.1 bt205.2.2 (([0, 1, (-9223372036854775808)] : List Int))).bind fun bt211 => (some (t199, bt205.1, bt211.1, bt211.2.1, bt211.2.2)))) = some (r1, r2, r3, r4, r5) := by first | (rw [hy202]; with_reducible exact H) | (have H2_ := (Option.bind_some _ _).symm.trans H; rw [hy202]; with_reducible exact H2_) | (have H2_ := (Option.bind_some _ _).symm.trans H; with_reducible exact H2_) | with_reducible exact H | (rw [hy202]; exact H) | exact H
    have Ny202 := Ya hy202
    clear hy202
    replace H := Z35.mp H
    obtain ⟨⟨t205, t206, t207⟩, A110, H⟩ := H
    replace H : ((spec_l1Cur_among.f s0_0 t206 t207 (([0, 1, (-9223372036854775808)] : List Int))).bind fun bt211 => (some (t199, t205, bt211.1, bt211.2.1, bt211.2.2))) = some (r1, r2, r3, r4, r5) := H
    have A11 := Ya A110
    clear A110
    obtain ⟨y208, hy208⟩ : ∃ y_ : List Int, y_ = (([0, 1, (-9223372036854775808)] : List Int)) := ⟨_, rfl⟩
    replace H : ((spec_l1Cur_among.f s0_0 t206 t207 y208).bind fun bt211 => (some (t199, t205, bt211.1, bt211.2.1, bt211.2.2))) = some (r1, r2, r3, r4, r5) := by first | (rw [hy208]; with_reducible exact H) | (have H2_ := (Option.bind_some _ _).symm.trans H; rw [hy208]; with_reducible exact H2_) | (have H2_ := (Option.bind_some _ _).symm.trans H; with_reducible exact H2_) | with_reducible exact H | (rw [hy208]; exact H) | exact H
    have Ny208 := Ya hy208
    clear hy208
    replace H := Z35.mp H
    obtain ⟨⟨t211, t212, t213⟩, A120, H⟩ := H
    replace H : (some (t199, t205, t211, t212, t213)) = some (r1, r2, r3, r4, r5) := H
    have A12 := Ya A120
    clear A120
    simp only [Option.some.injEq, Prod.mk.injEq] at H
    obtain ⟨rfl, rfl, rfl, rfl, rfl⟩ := H
    go_wp2_with (first | ((with_reducible refine gate_dst (N := 13) rfl ?_); refine Kd.R_lit (Kd.int .i64) _ 3 ?hg (N := 13) ?hd (xs := ([(-1), 0, 1, 2, 3] : List Int)) (inner := [.int .i64 (-1), .int .i64 0, .int .i64 1, .int .i64 2, .int .i64 3]) (ok := fun _ => True) (okp := fun _ => True) ?hr ?hp (fun _ hk => hk) trivial (Below.refl _ _) (Nat.le_refl _) (by simp) ?_; (case hd => rfl); (case hg => rfl); (case hr => first | (go_simp; done) | (go_simp; rfl)); (case hp => exact (Reps.one (show Kd.M (Kd.int .i64) _ _ _ (-1) [.int .i64 (-1)] from rfl) (Reps.one (show Kd.M (Kd.int .i64) _ _ _ 0 [.int .i64 0] from rfl) (Reps.one (show Kd.M (Kd.int .i64) _ _ _ 1 [.int .i64 1] from rfl) (Reps.one (show Kd.M (Kd.int .i64) _ _ _ 2 [.int .i64 2] from rfl) (Reps.one (show Kd.M (Kd.int .i64) _ _ _ 3 [.int .i64 3] from rfl) (Reps.none _ _))))))); intro v197 w13 ho14 hb hg_ hnew_; clear hg_ hnew_; (first | rw [← Ny196.out] at ho14 | (simp only [Int.reduceToNat] at ho14; rw [← Ny196.out] at ho14)); have HO198 := Ya (Kd.R_lower ho14 (keep_size (w := w) (g := g) (row := none) Q9)); replace BK192 := Yb BK192 hb; replace HK := Ya (KeepBut.trans Q9 (KeepBut.of_below hb g none) (.inl rfl)); replace HB := Ya (Z8 Q42 hb); replace HI0 := Ya (IsS88.below Q36 hb); clear hb ho14; obtain ⟨Ao15, co15, rfl⟩ := Z17 HO198.out) | ((with_reducible refine gate_callee (f := 65) rfl ?_); refine Yz 14 Try.func65 #[.pointer (some ⟨g, 0, none⟩), .slice Ao15 y196.length co15] ?_; (with_reducible refine (spec_l1Cur_among.calls g s0_0 x1001_2 x1002_2 _ _ y196 t199 t200 t201 w0 _ ?side1 ?side2 (Yc (Kd.R_reads' HO198.out).2.2) ((Kd.R_reads' HO198.out).2.1) ?side5 A10.out).mono ?_); (case side1 => repeat (first | (with_reducible first | exact HI0.out | apply IsS88.alloc | apply IsS88.drewN | apply IsS88.drew | apply IsS88.set_1 | apply IsS88.set_2 | refine IsS88.far ?_ NB0_192.out _) | exact HI0.out)); (case side2 => repeat (first | (with_reducible first | exact HB.out | apply Z5 | apply Z3 | apply Z4 | refine Z6 ?_ (IsS88.ge HI0.out) | refine Z6 ?_ GE192.out) | exact HB.out)); (case side5 => exact far_slice (IsS88.own_ne HI0.out HO198.out (by decide))); rintro e w16 ⟨rfl, hi, hb, hk⟩; refine ⟨_, rfl, ?_⟩; replace BK192 := Ya (KeepBut.blk hk (g' := gb192) (o := .cells #[.int .i64 0, .int .i64 0, .int .i64 0] 45 (0, 0)) (Yk BK192.out) NB192_0.out (by simp)); replace HO198 := Ya (Z12 (Kd.R_keep (IsS88.apart (show IsS88 w0 _ g s0_0 x1001_2 x1002_2 from by repeat (first | (with_reducible first | exact HI0.out | apply IsS88.alloc | apply IsS88.drewN | apply IsS88.drew | apply IsS88.set_1 | apply IsS88.set_2 | refine IsS88.far ?_ NB0_192.out _) | exact HI0.out)) (Yr HO198.out) (by decide)) hk (fun _ h => h.2)) (fun _ h => h.1)); replace HK := Ya (KeepBut.trans Q9 hk (.inl rfl)); replace HB := Ya hb; replace HI0 := Ya hi; (try clear hb hk hi)) | ((with_reducible refine gate_dst (N := 16) rfl ?_); refine Kd.R_lit (Kd.int .i64) _ 3 ?hg (N := 16) ?hd (xs := ([(-1), 0, 1, 2, 99] : List Int)) (inner := [.int .i64 (-1), .int .i64 0, .int .i64 1, .int .i64 2, .int .i64 99]) (ok := fun _ => True) (okp := fun _ => True) ?hr ?hp (fun _ hk => hk) trivial (Below.refl _ _) (Nat.le_refl _) (by simp) ?_; (case hd => rfl); (case hg => rfl); (case hr => first | (go_simp; done) | (go_simp; rfl)); (case hp => exact (Reps.one (show Kd.M (Kd.int .i64) _ _ _ (-1) [.int .i64 (-1)] from rfl) (Reps.one (show Kd.M (Kd.int .i64) _ _ _ 0 [.int .i64 0] from rfl) (Reps.one (show Kd.M (Kd.int .i64) _ _ _ 1 [.int .i64 1] from rfl) (Reps.one (show Kd.M (Kd.int .i64) _ _ _ 2 [.int .i64 2] from rfl) (Reps.one (show Kd.M (Kd.int .i64) _ _ _ 99 [.int .i64 99] from rfl) (Reps.none _ _))))))); intro v203 w17 ho18 hb hg_ hnew_; clear hg_ hnew_; (first | rw [← Ny202.out] at ho18 | (simp only [Int.reduceToNat] at ho18; rw [← Ny202.out] at ho18)); have HO204 := Ya (Kd.R_lower (Kd.R_new' ho18 (Z16 (Yr HO198.out))) (keep_size (w := w) (g := g) (row := none) Q9)); replace HO198 := Ya (Kd.R_elder' (Yr HO198.out) (Kd.R_base ho18) hb); replace BK192 := Yb BK192 hb; replace HK := Ya (KeepBut.trans Q9 (KeepBut.of_below hb g none) (.inl rfl)); replace HB := Ya (Z8 Q42 hb); replace HI0 := Ya (IsS88.below Q36 hb); clear hb ho18; obtain ⟨Ao19, co19, rfl⟩ := Z17 HO204.out) | ((with_reducible refine gate_callee (f := 65) rfl ?_); refine Yz 17 Try.func65 #[.pointer (some ⟨g, 0, none⟩), .slice Ao19 y202.length co19] ?_; (with_reducible refine (spec_l1Cur_among.calls g s0_0 t200 t201 _ _ y202 t205 t206 t207 w0 _ ?side1 ?side2 (Yc (Kd.R_reads' HO204.out).2.2) ((Kd.R_reads' HO204.out).2.1) ?side5 A11.out).mono ?_); (case side1 => repeat (first | (with_reducible first | exact HI0.out | apply IsS88.alloc | apply IsS88.drewN | apply IsS88.drew | apply IsS88.set_1 | apply IsS88.set_2 | refine IsS88.far ?_ NB0_192.out _) | exact HI0.out)); (case side2 => repeat (first | (with_reducible first | exact HB.out | apply Z5 | apply Z3 | apply Z4 | refine Z6 ?_ (IsS88.ge HI0.out) | refine Z6 ?_ GE192.out) | exact HB.out)); (case side5 => exact far_slice (IsS88.own_ne HI0.out HO204.out (by decide))); rintro e w20 ⟨rfl, hi, hb, hk⟩; refine ⟨_, rfl, ?_⟩; replace BK192 := Ya (KeepBut.blk hk (g' := gb192) (o := .cells #[.int .i64 0, .int .i64 0, .int .i64 0] 45 (0, 0)) (Yk BK192.out) NB192_0.out (by simp)); replace HO198 := Ya (Z12 (Kd.R_keep (IsS88.apart (show IsS88 w0 _ g s0_0 t200 t201 from by repeat (first | (with_reducible first | exact HI0.out | apply IsS88.alloc | apply IsS88.drewN | apply IsS88.drew | apply IsS88.set_1 | apply IsS88.set_2 | refine IsS88.far ?_ NB0_192.out _) | exact HI0.out)) (Yr HO198.out) (by decide)) hk (fun _ h => h.2)) (fun _ h => h.1)); replace HO204 := Ya (Z12 (Kd.R_keep (IsS88.apart (show IsS88 w0 _ g s0_0 t200 t201 from by repeat (first | (with_reducible first | exact HI0.out | apply IsS88.alloc | apply IsS88.drewN | apply IsS88.drew | apply IsS88.set_1 | apply IsS88.set_2 | refine IsS88.far ?_ NB0_192.out _) | exact HI0.out)) (Yr HO204.out) (by decide)) hk (fun _ h => h.2)) (fun _ h => h.1)); replace HK := Ya (KeepBut.trans Q9 hk (.inl rfl)); replace HB := Ya hb; replace HI0 := Ya hi; (try clear hb hk hi)) | ((with_reducible refine gate_dst (N := 19) rfl ?_); refine Kd.R_lit (Kd.int .i64) _ 3 ?hg (N := 19) ?hd (xs := ([0, 1, (-9223372036854775808)] : List Int)) (inner := [.int .i64 0, .int .i64 1, .int .i64 (-9223372036854775808)]) (ok := fun _ => True) (okp := fun _ => True) ?hr ?hp (fun _ hk => hk) trivial (Below.refl _ _) (Nat.le_refl _) (by simp) ?_; (case hd => rfl); (case hg => rfl); (case hr => first | (go_simp; done) | (go_simp; rfl)); (case hp => exact (Reps.one (show Kd.M (Kd.int .i64) _ _ _ 0 [.int .i64 0] from rfl) (Reps.one (show Kd.M (Kd.int .i64) _ _ _ 1 [.int .i64 1] from rfl) (Reps.one (show Kd.M (Kd.int .i64) _ _ _ (-9223372036854775808) [.int .i64 (-9223372036854775808)] from rfl) (Reps.none _ _))))); intro v209 w21 ho22 hb hg_ hnew_; clear hg_ hnew_; (first | rw [← Ny208.out] at ho22 | (simp only [Int.reduceToNat] at ho22; rw [← Ny208.out] at ho22)); have HO210 := Ya (Kd.R_lower (Kd.R_new' (Kd.R_new' ho22 (Z16 (Yr HO198.out))) (Z16 (Yr HO204.out))) (keep_size (w := w) (g := g) (row := none) Q9)); replace HO198 := Ya (Kd.R_elder' (Yr HO198.out) (Kd.R_base ho22) hb); replace HO204 := Ya (Kd.R_elder' (Yr HO204.out) (Kd.R_base ho22) hb); replace BK192 := Yb BK192 hb; replace HK := Ya (KeepBut.trans Q9 (KeepBut.of_below hb g none) (.inl rfl)); replace HB := Ya (Z8 Q42 hb); replace HI0 := Ya (IsS88.below Q36 hb); clear hb ho22; obtain ⟨Ao23, co23, rfl⟩ := Z17 HO210.out) | ((with_reducible refine gate_callee (f := 65) rfl ?_); refine Yz 20 Try.func65 #[.pointer (some ⟨g, 0, none⟩), .slice Ao23 y208.length co23] ?_; (with_reducible refine (spec_l1Cur_among.calls g s0_0 t206 t207 _ _ y208 t211 t212 t213 w0 _ ?side1 ?side2 (Yc (Kd.R_reads' HO210.out).2.2) ((Kd.R_reads' HO210.out).2.1) ?side5 A12.out).mono ?_); (case side1 => repeat (first | (with_reducible first | exact HI0.out | apply IsS88.alloc | apply IsS88.drewN | apply IsS88.drew | apply IsS88.set_1 | apply IsS88.set_2 | refine IsS88.far ?_ NB0_192.out _) | exact HI0.out)); (case side2 => repeat (first | (with_reducible first | exact HB.out | apply Z5 | apply Z3 | apply Z4 | refine Z6 ?_ (IsS88.ge HI0.out) | refine Z6 ?_ GE192.out) | exact HB.out)); (case side5 => exact far_slice (IsS88.own_ne HI0.out HO210.out (by decide))); rintro e w24 ⟨rfl, hi, hb, hk⟩; refine ⟨_, rfl, ?_⟩; replace BK192 := Ya (KeepBut.blk hk (g' := gb192) (o := .cells #[.int .i64 0, .int .i64 0, .int .i64 0] 45 (0, 0)) (Yk BK192.out) NB192_0.out (by simp)); replace HO198 := Ya (Z12 (Kd.R_keep (IsS88.apart (show IsS88 w0 _ g s0_0 t206 t207 from by repeat (first | (with_reducible first | exact HI0.out | apply IsS88.alloc | apply IsS88.drewN | apply IsS88.drew | apply IsS88.set_1 | apply IsS88.set_2 | refine IsS88.far ?_ NB0_192.out _) | exact HI0.out)) (Yr HO198.out) (by decide)) hk (fun _ h => h.2)) (fun _ h => h.1)); replace HO204 := Ya (Z12 (Kd.R_keep (IsS88.apart (show IsS88 w0 _ g s0_0 t206 t207 from by repeat (first | (with_reducible first | exact HI0.out | apply IsS88.alloc | apply IsS88.drewN | apply IsS88.drew | apply IsS88.set_1 | apply IsS88.set_2 | refine IsS88.far ?_ NB0_192.out _) | exact HI0.out)) (Yr HO204.out) (by decide)) hk (fun _ h => h.2)) (fun _ h => h.1)); replace HO210 := Ya (Z12 (Kd.R_keep (IsS88.apart (show IsS88 w0 _ g s0_0 t206 t207 from by repeat (first | (with_reducible first | exact HI0.out | apply IsS88.alloc | apply IsS88.drewN | apply IsS88.drew | apply IsS88.set_1 | apply IsS88.set_2 | refine IsS88.far ?_ NB0_192.out _) | exact HI0.out)) (Yr HO210.out) (by decide)) hk (fun _ h => h.2)) (fun _ h => h.1)); replace HK := Ya (KeepBut.trans Q9 hk (.inl rfl)); replace HB := Ya hb; replace HI0 := Ya hi; (try clear hb hk hi); have hnb25 := NB192_0.out; have hnc25 := NB0_192.out; have hcz26_0 : w24.cell? ⟨gb192, 0, none⟩ = some (.int .i64 0) := (Z22 BK192.out 0).trans rfl; have hcz26_1 : w24.cell? ⟨gb192, 1, none⟩ = some (.int .i64 0) := (Z22 BK192.out 1).trans rfl; have hcz26_2 : w24.cell? ⟨gb192, 2, none⟩ = some (.int .i64 0) := (Z22 BK192.out 2).trans rfl; have hfz26_0 := Z23 BK192.out 0; have hfz26_1 := Z23 BK192.out 1; have hfz26_2 := Z23 BK192.out 2))
    refine bodyPost_ret (results_cell_row rfl _ _ gb192 45 #[.int .i64 t199, .int .i64 t205, .int .i64 t211] (0, 0) _ rfl (Yk (Yv3 BK192.out)) Try.underlying45 rfl (by kernel_rfl)) rfl ?_
    exact ⟨Q2, Q25, Q27, Q26⟩
   ·replace c9 := Bool.eq_false_iff.mpr c9
    subst c9
    have H1 : ((spec_l1Cur_pick.f s0_0 x1001_2 x1002_2 3).bind fun bt214 => (if bt214.1 = 0 then ((spec_l1Cur_pick.f s0_0 bt214.2.1 bt214.2.2 (wrap64 (a1 - 1))).bind fun bt217 => ((spec_l1Cur_pick.f s0_0 bt217.2.1 bt217.2.2 (wrap64 (1 + bt217.1))).bind fun bt220 => (some (0, bt220.1, wrap64 (1 + bt217.1), bt220.2.1, bt220.2.2)))) else (if bt214.1 = 1 then ((spec_l1Cur_pick.f s0_0 bt214.2.1 bt214.2.2 (wrap64 (a1 - 1))).bind fun bt223 => (some (1, wrap64 (2 + bt223.1), 0, bt223.2.1, bt223.2.2))) else ((spec_l1Cur_pick.f s0_0 bt214.2.1 bt214.2.2 (wrap64 (a1 - 1))).bind fun bt226 => (some (2, wrap64 (2 + bt226.1), 0, bt226.2.1, bt226.2.2)))))) = some (r1, r2, r3, r4, r5) := by rw [if_neg (show ¬ (false = true) by decide)] at H; exact H
    clear H
    have H := H1
    clear H1
    replace H := Z35.mp H
    obtain ⟨⟨t214, t215, t216⟩, A270, H⟩ := H
    replace H : (if t214 = 0 then ((spec_l1Cur_pick.f s0_0 t215 t216 (wrap64 (a1 - 1))).bind fun bt217 => ((spec_l1Cur_pick.f s0_0 bt217.2.1 bt217.2.2 (wrap64 (1 + bt217.1))).bind fun bt220 => (some (0, bt220.1, wrap64 (1 + bt217.1), bt220.2.1, bt220.2.2)))) else (if t214 = 1 then ((spec_l1Cur_pick.f s0_0 t215 t216 (wrap64 (a1 - 1))).bind fun bt223 => (some (1, wrap64 (2 + bt223.1), 0, bt223.2.1, bt223.2.2))) else ((spec_l1Cur_pick.f s0_0 t215 t216 (wrap64 (a1 - 1))).bind fun bt226 => (some (2, wrap64 (2 + bt226.1), 0, bt226.2.1, bt226.2.2))))) = some (r1, r2, r3, r4, r5) := H
    have A27 := Ya A270
    clear A270
    by_cases c28 : t214 = 0
    ·rw [if_pos c28] at H
     have c28b0 : (t214 == 0) = true := beq_iff_eq.mpr c28
     have c28b1 : (t214 != 0) = false := bne_eq_false_iff_eq.mpr c28
     clear c28
     replace H := Z35.mp H
     obtain ⟨⟨t217, t218, t219⟩, A290, H⟩ := H
     replace H : ((spec_l1Cur_pick.f s0_0 t218 t219 (wrap64 (1 + t217))).bind fun bt220 => (some (0, bt220.1, wrap64 (1 + t217), bt220.2.1, bt220.2.2))) = some (r1, r2, r3, r4, r5) := H
     have A29 := Ya A290
     clear A290
     replace H := Z35.mp H
     obtain ⟨⟨t220, t221, t222⟩, A300, H⟩ := H
     replace H : (some (0, t220, wrap64 (1 + t217), t221, t222)) = some (r1, r2, r3, r4, r5) := H
     have A30 := Ya A300
     clear A300
     simp only [Option.some.injEq, Prod.mk.injEq] at H
     obtain ⟨rfl, rfl, rfl, rfl, rfl⟩ := H
     go_wp2_with (first | ((with_reducible refine gate_callee (f := 69) rfl ?_); refine Yz 23 Try.func69 #[.pointer (some ⟨g, 0, none⟩), .int .i64 3] ?_; (with_reducible refine (spec_l1Cur_pick.calls g s0_0 x1001_2 x1002_2 3 t214 t215 t216 w0 _ ?side1 ?side2 A27.out).mono ?_); (case side1 => repeat (first | (with_reducible first | exact HI0.out | apply IsS88.alloc | apply IsS88.drewN | apply IsS88.drew | apply IsS88.set_1 | apply IsS88.set_2 | refine IsS88.far ?_ NB0_192.out _) | exact HI0.out)); (case side2 => repeat (first | (with_reducible first | exact HB.out | apply Z5 | apply Z3 | apply Z4 | refine Z6 ?_ (IsS88.ge HI0.out) | refine Z6 ?_ GE192.out) | exact HB.out)); rintro e w31 ⟨rfl, hi, hb, hk⟩; refine ⟨_, rfl, ?_⟩; replace BK192 := Ya (KeepBut.blk hk (g' := gb192) (o := .cells #[.int .i64 0, .int .i64 0, .int .i64 0] 45 (0, 0)) (Yk BK192.out) NB192_0.out (by simp)); replace HK := Ya (KeepBut.trans Q9 hk (.inl rfl)); replace HB := Ya hb; replace HI0 := Ya hi; (try clear hb hk hi)) | ((with_reducible refine gate_callee (f := 69) rfl ?_); refine Yz 29 Try.func69 #[.pointer (some ⟨g, 0, none⟩), .int .i64 (wrap64 (a1 - 1))] ?_; (with_reducible refine (spec_l1Cur_pick.calls g s0_0 t215 t216 (wrap64 (a1 - 1)) t217 t218 t219 w0 _ ?side1 ?side2 A29.out).mono ?_); (case side1 => repeat (first | (with_reducible first | exact HI0.out | apply IsS88.alloc | apply IsS88.drewN | apply IsS88.drew | apply IsS88.set_1 | apply IsS88.set_2 | refine IsS88.far ?_ NB0_192.out _) | exact HI0.out)); (case side2 => repeat (first | (with_reducible first | exact HB.out | apply Z5 | apply Z3 | apply Z4 | refine Z6 ?_ (IsS88.ge HI0.out) | refine Z6 ?_ GE192.out) | exact HB.out)); rintro e w32 ⟨rfl, hi, hb, hk⟩; refine ⟨_, rfl, ?_⟩; replace BK192 := Ya (KeepBut.blk hk (g' := gb192) (o := .cells #[.int .i64 0, .int .i64 0, .int .i64 0] 45 (0, 0)) (Yk BK192.out) NB192_0.out (by simp)); replace HK := Ya (KeepBut.trans Q9 hk (.inl rfl)); replace HB := Ya hb; replace HI0 := Ya hi; (try clear hb hk hi)) | ((with_reducible refine gate_callee (f := 69) rfl ?_); refine Yz 33 Try.func69 #[.pointer (some ⟨g, 0, none⟩), .int .i64 (wrap64 (1 + t217))] ?_; (with_reducible refine (spec_l1Cur_pick.calls g s0_0 t218 t219 (wrap64 (1 + t217)) t220 t221 t222 w0 _ ?side1 ?side2 A30.out).mono ?_); (case side1 => repeat (first | (with_reducible first | exact HI0.out | apply IsS88.alloc | apply IsS88.drewN | apply IsS88.drew | apply IsS88.set_1 | apply IsS88.set_2 | refine IsS88.far ?_ NB0_192.out _) | exact HI0.out)); (case side2 => repeat (first | (with_reducible first | exact HB.out | apply Z5 | apply Z3 | apply Z4 | refine Z6 ?_ (IsS88.ge HI0.out) | refine Z6 ?_ GE192.out) | exact HB.out)); rintro e w33 ⟨rfl, hi, hb, hk⟩; refine ⟨_, rfl, ?_⟩; replace BK192 := Ya (KeepBut.blk hk (g' := gb192) (o := .cells #[.int .i64 0, .int .i64 0, .int .i64 0] 45 (0, 0)) (Yk BK192.out) NB192_0.out (by simp)); replace HK := Ya (KeepBut.trans Q9 hk (.inl rfl)); replace HB := Ya hb; replace HI0 := Ya hi; (try clear hb hk hi); have hnb34 := NB192_0.out; have hnc34 := NB0_192.out; have hcz35_0 : w33.cell? ⟨gb192, 0, none⟩ = some (.int .i64 0) := (Z22 BK192.out 0).trans rfl; have hcz35_1 : w33.cell? ⟨gb192, 1, none⟩ = some (.int .i64 0) := (Z22 BK192.out 1).trans rfl; have hcz35_2 : w33.cell? ⟨gb192, 2, none⟩ = some (.int .i64 0) := (Z22 BK192.out 2).trans rfl; have hfz35_0 := Z23 BK192.out 0; have hfz35_1 := Z23 BK192.out 1; have hfz35_2 := Z23 BK192.out 2))
     refine bodyPost_ret (results_cell_row rfl _ _ gb192 45 #[.int .i64 0, .int .i64 t220, .int .i64 (wrap64 (1 + t217))] (0, 0) _ rfl (Yk (Yv3 BK192.out)) Try.underlying45 rfl (by kernel_rfl)) rfl ?_
     exact ⟨Q2, Q25, Q27, Q26⟩
    ·rw [if_neg c28] at H
     have c28b0 : (t214 == 0) = false := beq_eq_false_iff_ne.mpr c28
     have c28b1 : (t214 != 0) = true := bne_iff_ne.mpr c28
     by_cases c36 : t214 = 1
     ·rw [if_pos c36] at H
      have c36b0 : (t214 == 1) = true := beq_iff_eq.mpr c36
      have c36b1 : (t214 != 1) = false := bne_eq_false_iff_eq.mpr c36
      clear c36
      replace H := Z35.mp H
      obtain ⟨⟨t223, t224, t225⟩, A370, H⟩ := H
      replace H : (some (1, wrap64 (2 + t223), 0, t224, t225)) = some (r1, r2, r3, r4, r5) := H
      have A37 := Ya A370
      clear A370
      simp only [Option.some.injEq, Prod.mk.injEq] at H
      obtain ⟨rfl, rfl, rfl, rfl, rfl⟩ := H
      go_wp2_with (first | ((with_reducible refine gate_callee (f := 69) rfl ?_); refine Yz 23 Try.func69 #[.pointer (some ⟨g, 0, none⟩), .int .i64 3] ?_; (with_reducible refine (spec_l1Cur_pick.calls g s0_0 x1001_2 x1002_2 3 t214 t215 t216 w0 _ ?side1 ?side2 A27.out).mono ?_); (case side1 => repeat (first | (with_reducible first | exact HI0.out | apply IsS88.alloc | apply IsS88.drewN | apply IsS88.drew | apply IsS88.set_1 | apply IsS88.set_2 | refine IsS88.far ?_ NB0_192.out _) | exact HI0.out)); (case side2 => repeat (first | (with_reducible first | exact HB.out | apply Z5 | apply Z3 | apply Z4 | refine Z6 ?_ (IsS88.ge HI0.out) | refine Z6 ?_ GE192.out) | exact HB.out)); rintro e w38 ⟨rfl, hi, hb, hk⟩; refine ⟨_, rfl, ?_⟩; replace BK192 := Ya (KeepBut.blk hk (g' := gb192) (o := .cells #[.int .i64 0, .int .i64 0, .int .i64 0] 45 (0, 0)) (Yk BK192.out) NB192_0.out (by simp)); replace HK := Ya (KeepBut.trans Q9 hk (.inl rfl)); replace HB := Ya hb; replace HI0 := Ya hi; (try clear hb hk hi)) | ((with_reducible refine gate_callee (f := 69) rfl ?_); refine Yz 41 Try.func69 #[.pointer (some ⟨g, 0, none⟩), .int .i64 (wrap64 (a1 - 1))] ?_; (with_reducible refine (spec_l1Cur_pick.calls g s0_0 t215 t216 (wrap64 (a1 - 1)) t223 t224 t225 w0 _ ?side1 ?side2 A37.out).mono ?_); (case side1 => repeat (first | (with_reducible first | exact HI0.out | apply IsS88.alloc | apply IsS88.drewN | apply IsS88.drew | apply IsS88.set_1 | apply IsS88.set_2 | refine IsS88.far ?_ NB0_192.out _) | exact HI0.out)); (case side2 => repeat (first | (with_reducible first | exact HB.out | apply Z5 | apply Z3 | apply Z4 | refine Z6 ?_ (IsS88.ge HI0.out) | refine Z6 ?_ GE192.out) | exact HB.out)); rintro e w39 ⟨rfl, hi, hb, hk⟩; refine ⟨_, rfl, ?_⟩; replace BK192 := Ya (KeepBut.blk hk (g' := gb192) (o := .cells #[.int .i64 0, .int .i64 0, .int .i64 0] 45 (0, 0)) (Yk BK192.out) NB192_0.out (by simp)); replace HK := Ya (KeepBut.trans Q9 hk (.inl rfl)); replace HB := Ya hb; replace HI0 := Ya hi; (try clear hb hk hi); have hnb40 := NB192_0.out; have hnc40 := NB0_192.out; have hcz41_0 : w39.cell? ⟨gb192, 0, none⟩ = some (.int .i64 0) := (Z22 BK192.out 0).trans rfl; have hcz41_1 : w39.cell? ⟨gb192, 1, none⟩ = some (.int .i64 0) := (Z22 BK192.out 1).trans rfl; have hcz41_2 : w39.cell? ⟨gb192, 2, none⟩ = some (.int .i64 0) := (Z22 BK192.out 2).trans rfl; have hfz41_0 := Z23 BK192.out 0; have hfz41_1 := Z23 BK192.out 1; have hfz41_2 := Z23 BK192.out 2))
      refine bodyPost_ret (results_cell_row rfl _ _ gb192 45 #[.int .i64 1, .int .i64 (wrap64 (2 + t223)), .int .i64 0] (0, 0) _ rfl (Yk (Yv3 BK192.out)) Try.underlying45 rfl (by kernel_rfl)) rfl ?_
      exact ⟨Q2, Q25, Q27, Q26⟩
     ·rw [if_neg c36] at H
      have c36b0 : (t214 == 1) = false := beq_eq_false_iff_ne.mpr c36
      have c36b1 : (t214 != 1) = true := bne_iff_ne.mpr c36
      replace H := Z35.mp H
      obtain ⟨⟨t226, t227, t228⟩, A420, H⟩ := H
      replace H : (some (2, wrap64 (2 + t226), 0, t227, t228)) = some (r1, r2, r3, r4, r5) := H
      have A42 := Ya A420
      clear A420
      simp only [Option.some.injEq, Prod.mk.injEq] at H
      obtain ⟨rfl, rfl, rfl, rfl, rfl⟩ := H
      go_wp2_with (first | ((with_reducible refine gate_callee (f := 69) rfl ?_); refine Yz 23 Try.func69 #[.pointer (some ⟨g, 0, none⟩), .int .i64 3] ?_; (with_reducible refine (spec_l1Cur_pick.calls g s0_0 x1001_2 x1002_2 3 t214 t215 t216 w0 _ ?side1 ?side2 A27.out).mono ?_); (case side1 => repeat (first | (with_reducible first | exact HI0.out | apply IsS88.alloc | apply IsS88.drewN | apply IsS88.drew | apply IsS88.set_1 | apply IsS88.set_2 | refine IsS88.far ?_ NB0_192.out _) | exact HI0.out)); (case side2 => repeat (first | (with_reducible first | exact HB.out | apply Z5 | apply Z3 | apply Z4 | refine Z6 ?_ (IsS88.ge HI0.out) | refine Z6 ?_ GE192.out) | exact HB.out)); rintro e w43 ⟨rfl, hi, hb, hk⟩; refine ⟨_, rfl, ?_⟩; replace BK192 := Ya (KeepBut.blk hk (g' := gb192) (o := .cells #[.int .i64 0, .int .i64 0, .int .i64 0] 45 (0, 0)) (Yk BK192.out) NB192_0.out (by simp)); replace HK := Ya (KeepBut.trans Q9 hk (.inl rfl)); replace HB := Ya hb; replace HI0 := Ya hi; (try clear hb hk hi)) | ((with_reducible refine gate_callee (f := 69) rfl ?_); refine Yz 47 Try.func69 #[.pointer (some ⟨g, 0, none⟩), .int .i64 (wrap64 (a1 - 1))] ?_; (with_reducible refine (spec_l1Cur_pick.calls g s0_0 t215 t216 (wrap64 (a1 - 1)) t226 t227 t228 w0 _ ?side1 ?side2 A42.out).mono ?_); (case side1 => repeat (first | (with_reducible first | exact HI0.out | apply IsS88.alloc | apply IsS88.drewN | apply IsS88.drew | apply IsS88.set_1 | apply IsS88.set_2 | refine IsS88.far ?_ NB0_192.out _) | exact HI0.out)); (case side2 => repeat (first | (with_reducible first | exact HB.out | apply Z5 | apply Z3 | apply Z4 | refine Z6 ?_ (IsS88.ge HI0.out) | refine Z6 ?_ GE192.out) | exact HB.out)); rintro e w44 ⟨rfl, hi, hb, hk⟩; refine ⟨_, rfl, ?_⟩; replace BK192 := Ya (KeepBut.blk hk (g' := gb192) (o := .cells #[.int .i64 0, .int .i64 0, .int .i64 0] 45 (0, 0)) (Yk BK192.out) NB192_0.out (by simp)); replace HK := Ya (KeepBut.trans Q9 hk (.inl rfl)); replace HB := Ya hb; replace HI0 := Ya hi; (try clear hb hk hi); have hnb45 := NB192_0.out; have hnc45 := NB0_192.out; have hcz46_0 : w44.cell? ⟨gb192, 0, none⟩ = some (.int .i64 0) := (Z22 BK192.out 0).trans rfl; have hcz46_1 : w44.cell? ⟨gb192, 1, none⟩ = some (.int .i64 0) := (Z22 BK192.out 1).trans rfl; have hcz46_2 : w44.cell? ⟨gb192, 2, none⟩ = some (.int .i64 0) := (Z22 BK192.out 2).trans rfl; have hfz46_0 := Z23 BK192.out 0; have hfz46_1 := Z23 BK192.out 1; have hfz46_2 := Z23 BK192.out 2))
      refine bodyPost_ret (results_cell_row rfl _ _ gb192 45 #[.int .i64 2, .int .i64 (wrap64 (2 + t226)), .int .i64 0] (0, 0) _ rfl (Yk (Yv3 BK192.out)) Try.underlying45 rfl (by kernel_rfl)) rfl ?_
      exact ⟨Q2, Q25, Q27, Q26⟩
end Go.Proofs.Ytllhnnjkonghlaa.MFnGreedyLists
