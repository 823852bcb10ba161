import Derived.Test.YtapbbmicfkbafaaGreatMFnSwappersx0
namespace Go.Proofs.YtapbbmicfkbafaaGreat.MFnSwappers
open Go.RowKit Go.Proofs.YtapbbmicfkbafaaGreatW.PrintWords Go.Proofs.YtapbbmicfkbafaaGreatW.PrintLast Go.Proofs.YtapbbmicfkbafaaGreatW.PrintMore
attribute [local go_sem] max2_int min2_int max_two min_two max_three min_three max_four min_four   
set_option linter.unusedVariables false
set_option maxHeartbeats 16000000
set_option maxRecDepth 100000
set_option linter.unusedSimpArgs false
def laws_big.f (l0 : List Int) (l1 : List Int) : Option (Bool) := if (l0.length : Int) > 1048576 then (some true) else (some (decide ((l1.length : Int) > (wrap64 (1048576 - (l0.length : Int))))))
theorem laws_big.calls (A0 : Option Addr) (c0 : Nat) (l0 : List Int) (A1 : Option Addr) (c1 : Nat) (l1 : List Int) (r : Bool) (w : World) (ac : Kd.C (Kd.int .u8) w A0 l0.length l0) (ad : l0.length ≤ c0) (ae : Kd.C (Kd.int .u8) w A1 l1.length l1) (af : l1.length ≤ c1) (h : laws_big.f l0 l1 = some r) :
  Calls Tryz.prog 4 #[.slice A0 l0.length c0, .slice A1 l1.length c1] w fun e w' => e = .returned (.bool r) ∧ Drawn0 w w' := by
 have HR0 := Ya ac
 have ag := Ya ad
 clear ac ad
 have ah := Ya ae
 have ai := Ya af
 clear ae af
 have H : (if (l0.length : Int) > 1048576 then (some true) else (some (decide ((l1.length : Int) > (wrap64 (1048576 - (l0.length : Int))))))) = some r := h
 clear h
 by_cases c3 : (l0.length : Int) > 1048576
 ·rw [if_pos c3] at H
  have aa : decide (1048576 < (l0.length : Int)) = true := Z35 c3
  have ab : decide (1048576 < l0.length) = true := Z35 (by omega)
  clear c3
  obtain rfl := Option.some.inj H
  go_enter Tryz.func4, Tryz.ntmps4
  go_wp2
  go_ret
  exact ⟨Q24, Q16⟩
 ·rw [if_neg c3] at H
  have aa : decide (1048576 < (l0.length : Int)) = false := Z34 c3
  have ab : decide (1048576 < l0.length) = false := Z34 (by omega)
  clear c3
  obtain rfl := Option.some.inj H
  go_enter Tryz.func4, Tryz.ntmps4
  go_wp2
  go_ret
  exact ⟨Q24, Q16⟩
def IsS66 (w0 W : World) (g : Nat) (f0 : List Int) (f1 : Int) (f2 : Int) : Prop := ∃ A0 c0, W.heap[g]? = some (.cells #[.slice A0 f0.length c0, .int .i64 f1, .int .u64 f2] 66 (0, 0)) ∧ w0.heap.size ≤ g ∧ Kd.C (Kd.int .u8) w0 A0 f0.length f0
theorem IsS66.grown {w0 W : World} {g : Nat} {f0 : List Int} {f1 : Int} {f2 : Int} {W1 : World} {row : Option Nat} (h : IsS66 w0 W g f0 f1 f2) (hw : W.grownBy W1 row) (hne : some g ≠ row) : IsS66 w0 W1 g f0 f1 f2 := by
 obtain ⟨A0, c0, hb, hg, aa⟩ := h
 exact ⟨A0, c0, blk_grown hb hw hne, hg, aa⟩
theorem IsS66.kept {w0 W : World} {g : Nat} {f0 : List Int} {f1 : Int} {f2 : Int} {W1 : World} {S : Nat → Prop} (h : IsS66 w0 W g f0 f1 f2) (hk : Kept W W1 S) (hne : ¬ S g) : IsS66 w0 W1 g f0 f1 f2 := by
 obtain ⟨A0, c0, hb, hg, aa⟩ := h
 exact ⟨A0, c0, blk_kept hb hk hne, hg, aa⟩
theorem IsS66.below {w0 W : World} {g : Nat} {f0 : List Int} {f1 : Int} {f2 : Int} {W1 : World} (h : IsS66 w0 W g f0 f1 f2) (hw : Below W.heap.size W W1) : IsS66 w0 W1 g f0 f1 f2 := h.grown (grown_of_below hw none) (by simp)
theorem IsS66.alloc {w0 W : World} {g : Nat} {f0 : List Int} {f1 : Int} {f2 : Int} (h : IsS66 w0 W g f0 f1 f2) (o : Obj) : IsS66 w0 (W.alloc o) g f0 f1 f2 := h.below (Z5 (Below.refl _ _) o)
theorem IsS66.drewN {w0 W : World} {g : Nat} {f0 : List Int} {f1 : Int} {f2 : Int} (h : IsS66 w0 W g f0 f1 f2) (m : Nat) : IsS66 w0 (W.drewN m) g f0 f1 f2 := h
theorem IsS66.drew {w0 W : World} {g : Nat} {f0 : List Int} {f1 : Int} {f2 : Int} (h : IsS66 w0 W g f0 f1 f2) : IsS66 w0 W.drew g f0 f1 f2 := h
theorem IsS66.at_ {w0 W : World} {g : Nat} {f0 : List Int} {f1 : Int} {f2 : Int} {w' : World} {m : Nat} (hq : W.drewN m = w') (h : IsS66 w0 W g f0 f1 f2) : IsS66 w0 w' g f0 f1 f2 := by subst hq; exact IsS66.drewN h m
theorem IsS66.apart {w0 W : World} {g : Nat} {f0 : List Int} {f1 : Int} {f2 : Int} {α : Type} {d : Kd α} {e : Nat} {base : Nat} {ok : Nat → Prop} {v : Value} {xs : List α} (h : IsS66 w0 W g f0 f1 f2) (ho : d.R e W base ok v xs) (ht : ∀ q, q ∈ e :: d.E → q ≠ 66) : d.R e W base (fun k => ok k ∧ k ≠ g) v xs := by
 obtain ⟨A0, c0, hb, hg, aa⟩ := h
 exact Kd.R_types ho hb ht
theorem YK66 {w0 W w' : World} {g : Nat} {f0 : List Int} {f1 : Int} {f2 : Int} {α : Type} {d : Kd α} {e : Nat} {base : Nat} {ok : Nat → Prop} {v : Value} {xs : List α} (h : IsS66 w0 W g f0 f1 f2) (ho : d.R e W base ok v xs) (hk : KeepBut W w' g none) (ht : ∀ q, q ∈ e :: d.E → q ≠ 66 := by decide) : Aside0 (d.R e w' base ok v xs) := ⟨Z12 (Kd.R_keep (IsS66.apart h ho ht) hk (fun _ h => h.2)) (fun _ h => h.1)⟩
theorem IsS66.own_ne {w0 W : World} {g : Nat} {f0 : List Int} {f1 : Int} {f2 : Int} {α : Type} {d : Kd α} {e : Nat} {base : Nat} {ok : Nat → Prop} {v : Value} {xs : List α} (h : IsS66 w0 W g f0 f1 f2) (ho : d.R e W base ok v xs) (ht : e ≠ 66) : some g ≠ v.ownBlock := by
 obtain ⟨A0, c0, hb, hg, aa⟩ := h
 exact Kd.R_ne ho hb ht
theorem IsS66.lt {w0 W : World} {g : Nat} {f0 : List Int} {f1 : Int} {f2 : Int} (h : IsS66 w0 W g f0 f1 f2) : g < W.heap.size := by
 obtain ⟨A0, c0, hb, hg, aa⟩ := h
 exact blk_lt hb
theorem IsS66.ge {w0 W : World} {g : Nat} {f0 : List Int} {f1 : Int} {f2 : Int} (h : IsS66 w0 W g f0 f1 f2) : w0.heap.size ≤ g := by
 obtain ⟨A0, c0, hb, hg, aa⟩ := h
 exact hg
theorem IsS66.ne_blk {w0 W : World} {g : Nat} {f0 : List Int} {f1 : Int} {f2 : Int} {a : Nat} {cs : Array Value} {t : TypeId} {fr : Nat × Nat} (h : IsS66 w0 W g f0 f1 f2) (hb2 : W.heap[a]? = some (.cells cs t fr)) (ht : t ≠ 66) : g ≠ a := by
 obtain ⟨A0, c0, hb, hg, aa⟩ := h
 rintro rfl
 rw [hb] at hb2
 injection hb2 with hb2
 injection hb2 with _ ht2
 exact ht ht2.symm
theorem IsS66.far {w0 W : World} {g : Nat} {f0 : List Int} {f1 : Int} {f2 : Int} {p : Addr} (h : IsS66 w0 W g f0 f1 f2) (hne : g ≠ p.block) (u : Value) : IsS66 w0 (W.setCell p u) g f0 f1 f2 := by
 obtain ⟨A0, c0, hb, hg, aa⟩ := h
 exact ⟨A0, c0, blk_far hb hne u, hg, aa⟩
theorem cellS66_0 {W : World} {g : Nat} {A0 : Option Addr} {c0 : Nat} {f0 : List Int} {f1 : Int} {f2 : Int} (h : W.heap[g]? = some (.cells #[.slice A0 f0.length c0, .int .i64 f1, .int .u64 f2] 66 (0, 0))) : W.cell? ⟨g, 0, none⟩ = some (.slice A0 f0.length c0) := (Z20 h 0).trans rfl
theorem cellS66_1 {W : World} {g : Nat} {A0 : Option Addr} {c0 : Nat} {f0 : List Int} {f1 : Int} {f2 : Int} (h : W.heap[g]? = some (.cells #[.slice A0 f0.length c0, .int .i64 f1, .int .u64 f2] 66 (0, 0))) : W.cell? ⟨g, 1, none⟩ = some (.int .i64 f1) := (Z20 h 1).trans rfl
theorem IsS66.set_1 {w0 W : World} {g : Nat} {f0 : List Int} {f1 : Int} {f2 : Int} (h : IsS66 w0 W g f0 f1 f2) (x : Int) : IsS66 w0 (W.setCell ⟨g, 1, none⟩ (.int .i64 x)) g f0 x f2 := by
 obtain ⟨A0, c0, hb, hg, aa⟩ := h
 exact ⟨A0, c0, by simpa using blk_set hb 1 (.int .i64 x), hg, aa⟩
theorem cellS66_2 {W : World} {g : Nat} {A0 : Option Addr} {c0 : Nat} {f0 : List Int} {f1 : Int} {f2 : Int} (h : W.heap[g]? = some (.cells #[.slice A0 f0.length c0, .int .i64 f1, .int .u64 f2] 66 (0, 0))) : W.cell? ⟨g, 2, none⟩ = some (.int .u64 f2) := (Z20 h 2).trans rfl
theorem IsS66.set_2 {w0 W : World} {g : Nat} {f0 : List Int} {f1 : Int} {f2 : Int} (h : IsS66 w0 W g f0 f1 f2) (x : Int) : IsS66 w0 (W.setCell ⟨g, 2, none⟩ (.int .u64 x)) g f0 f1 x := by
 obtain ⟨A0, c0, hb, hg, aa⟩ := h
 exact ⟨A0, c0, by simpa using blk_set hb 2 (.int .u64 x), hg, aa⟩
theorem IsS66.new (w0 W : World) (A0 : Option Addr) (c0 : Nat) (f0 : List Int) (f1 : Int) (f2 : Int) (hB : Below w0.heap.size w0 W) (aa : Kd.C (Kd.int .u8) w0 A0 f0.length f0) : IsS66 w0 (W.alloc (.cells #[.slice A0 f0.length c0, .int .i64 f1, .int .u64 f2] 66)) W.heap.size f0 f1 f2 := ⟨A0, c0, by simpa using heap_alloc_new W _, hB.size, aa⟩
def spec_l1Cur_next.f (ab : List Int) (aa : Int) (ac : Int) : Option (Int × Int × Int) := if aa < (ab.length : Int) then (if 0 ≤ aa then (if (wrap64 (aa + 1)) ≤ (ab.length : Int) then (some (wrap64 (rd ab aa), wrap64 (aa + 1), IntKind.u64.wrap ((IntKind.u64.wrap ((IntKind.u64.wrap (ac * 6364136223846793005)) + (IntKind.u64.wrap (wrap64 (rd ab aa))))) + 1442695040888963407))) else (some (wrap64 (Go.bits .and .u64 ((IntKind.u64.wrap ((IntKind.u64.wrap ((IntKind.u64.wrap (ac * 6364136223846793005)) + (IntKind.u64.wrap (wrap64 (rd ab aa))))) + 1442695040888963407)) / 1099511627776) 255), wrap64 (aa + 1), IntKind.u64.wrap ((IntKind.u64.wrap ((IntKind.u64.wrap (ac * 6364136223846793005)) + (IntKind.u64.wrap (wrap64 (rd ab aa))))) + 1442695040888963407)))) else (none)) else (if (wrap64 (aa + 1)) ≤ (ab.length : Int) then (some (0, wrap64 (aa + 1), IntKind.u64.wrap ((IntKind.u64.wrap ((IntKind.u64.wrap (ac * 6364136223846793005)))) + 1442695040888963407))) else (some (wrap64 (Go.bits .and .u64 ((IntKind.u64.wrap ((IntKind.u64.wrap ((IntKind.u64.wrap (ac * 6364136223846793005)))) + 1442695040888963407)) / 1099511627776) 255), wrap64 (aa + 1), IntKind.u64.wrap ((IntKind.u64.wrap ((IntKind.u64.wrap (ac * 6364136223846793005)))) + 1442695040888963407))))
theorem spec_l1Cur_next.calls (g : Nat) (ab : List Int) (aa : Int) (ad : Int) (r1 : Int) (r2 : Int) (r3 : Int) (w0 w : World) (hI : IsS66 w0 w g ab aa ad) (hB : Below w0.heap.size w0 w) (h : spec_l1Cur_next.f ab aa ad = some (r1, r2, r3)) :
  Calls Tryz.prog 91 #[.pointer (some ⟨g, 0, none⟩)] w fun e w' => e = .returned (.int .i64 r1) ∧ IsS66 w0 w' g ab r2 r3 ∧ Below w0.heap.size w0 w' ∧ KeepBut w w' g none := by
 have HI0 := Ya hI
 have HK := Ya (KeepBut.refl w g none)
 have HL := Ya hB.size
 clear hI
 have aI := Ya hB.size
 have HB := Ya hB
 clear hB
 have H : (if aa < (ab.length : Int) then (if 0 ≤ aa then (if (wrap64 (aa + 1)) ≤ (ab.length : Int) then (some (wrap64 (rd ab aa), wrap64 (aa + 1), IntKind.u64.wrap ((IntKind.u64.wrap ((IntKind.u64.wrap (ad * 6364136223846793005)) + (IntKind.u64.wrap (wrap64 (rd ab aa))))) + 1442695040888963407))) else (some (wrap64 (Go.bits .and .u64 ((IntKind.u64.wrap ((IntKind.u64.wrap ((IntKind.u64.wrap (ad * 6364136223846793005)) + (IntKind.u64.wrap (wrap64 (rd ab aa))))) + 1442695040888963407)) / 1099511627776) 255), wrap64 (aa + 1), IntKind.u64.wrap ((IntKind.u64.wrap ((IntKind.u64.wrap (ad * 6364136223846793005)) + (IntKind.u64.wrap (wrap64 (rd ab aa))))) + 1442695040888963407)))) else (none)) else (if (wrap64 (aa + 1)) ≤ (ab.length : Int) then (some (0, wrap64 (aa + 1), IntKind.u64.wrap ((IntKind.u64.wrap ((IntKind.u64.wrap (ad * 6364136223846793005)))) + 1442695040888963407))) else (some (wrap64 (Go.bits .and .u64 ((IntKind.u64.wrap ((IntKind.u64.wrap ((IntKind.u64.wrap (ad * 6364136223846793005)))) + 1442695040888963407)) / 1099511627776) 255), wrap64 (aa + 1), IntKind.u64.wrap ((IntKind.u64.wrap ((IntKind.u64.wrap (ad * 6364136223846793005)))) + 1442695040888963407))))) = some (r1, r2, r3) := h
 clear h
 by_cases c2 : aa < (ab.length : Int)
 ·rw [if_pos c2] at H
  have ai := Z35 c2
  clear c2
  by_cases c3 : 0 ≤ aa
  ·rw [if_pos c3] at H
   have aH := Z35 c3
   clear c3
   by_cases c4 : (wrap64 (aa + 1)) ≤ (ab.length : Int)
   ·rw [if_pos c4] at H
    have aj := Z35 c4
    clear c4
    simp only [Option.some.injEq, Prod.mk.injEq] at H
    obtain ⟨rfl, rfl, rfl⟩ := H
    obtain ⟨ASz5_0, cSz5_0, HGz5, hgz5, HSz5_0⟩ := HI0.1
    have ak := cellS66_0 HGz5
    have al := cellS66_1 HGz5
    have am := cellS66_2 HGz5
    have an := Z21 HGz5 1
    have ao := Z21 HGz5 2
    clear HGz5 hgz5
    have ae : 0 ≤ (aa : Int) := Z27 Q5
    have af : aa < (ab.length : Int) := Z27 Q5
    obtain ⟨ah, ag, ac⟩ := Kd.at_int HSz5_0 aa ae af
    cases ag
    replace ac := pw_cell_below HB.1 ac
    replace ae := eq_true ae
    replace af := eq_true af
    go_enter Tryz.func91, Tryz.ntmps91
    go_wp2
    repeat (go_quiet (fail); try go_wp2)
    go_ret
    exact ⟨Q2, Q13, Q15, Q14⟩
   ·rw [if_neg c4] at H
    have aj := Z34 c4
    clear c4
    simp only [Option.some.injEq, Prod.mk.injEq] at H
    obtain ⟨rfl, rfl, rfl⟩ := H
    obtain ⟨ASz6_0, cSz6_0, HGz6, hgz6, HSz6_0⟩ := HI0.1
    have ap := cellS66_0 HGz6
    have aq := cellS66_1 HGz6
    have ar := cellS66_2 HGz6
    have au := Z21 HGz6 1
    have av := Z21 HGz6 2
    clear HGz6 hgz6
    have ae : 0 ≤ (aa : Int) := Z27 Q5
    have af : aa < (ab.length : Int) := Z27 Q5
    obtain ⟨ah, ag, ac⟩ := Kd.at_int HSz6_0 aa ae af
    cases ag
    replace ac := pw_cell_below HB.1 ac
    replace ae := eq_true ae
    replace af := eq_true af
    go_enter Tryz.func91, Tryz.ntmps91
    go_wp2
    repeat (go_quiet (fail); try go_wp2)
    go_ret
    exact ⟨Q2, Q13, Q15, Q14⟩
  ·rw [if_neg c3] at H
   exact absurd H (by simp)
 ·rw [if_neg c2] at H
  have ai := Z34 c2
  clear c2
  by_cases c7 : (wrap64 (aa + 1)) ≤ (ab.length : Int)
  ·rw [if_pos c7] at H
   have aw := Z35 c7
   clear c7
   simp only [Option.some.injEq, Prod.mk.injEq] at H
   obtain ⟨rfl, rfl, rfl⟩ := H
   obtain ⟨ASz8_0, cSz8_0, HGz8, hgz8, HSz8_0⟩ := HI0.1
   have ax := cellS66_0 HGz8
   have ay := cellS66_1 HGz8
   have az := cellS66_2 HGz8
   have aA := Z21 HGz8 1
   have aB := Z21 HGz8 2
   clear HGz8 hgz8
   go_enter Tryz.func91, Tryz.ntmps91
   go_wp2
   repeat (go_quiet (fail); try go_wp2)
   go_ret
   exact ⟨Q2, Q13, Q15, Q14⟩
  ·rw [if_neg c7] at H
   have aw := Z34 c7
   clear c7
   simp only [Option.some.injEq, Prod.mk.injEq] at H
   obtain ⟨rfl, rfl, rfl⟩ := H
   obtain ⟨ASz9_0, cSz9_0, HGz9, hgz9, HSz9_0⟩ := HI0.1
   have aC := cellS66_0 HGz9
   have aD := cellS66_1 HGz9
   have aE := cellS66_2 HGz9
   have aF := Z21 HGz9 1
   have aG := Z21 HGz9 2
   clear HGz9 hgz9
   go_enter Tryz.func91, Tryz.ntmps91
   go_wp2
   repeat (go_quiet (fail); try go_wp2)
   go_ret
   exact ⟨Q2, Q13, Q15, Q14⟩
def spec_l1Cur_pick.f (ac : List Int) (ad : Int) (ae : Int) (a1 : Int) : Option (Int × Int × Int) := if a1 ≤ 1 then (some (0, ad, ae)) else ((spec_l1Cur_next.f ac ad ae).bind fun aa => (if a1 > 200 then ((spec_l1Cur_next.f ac aa.2.1 aa.2.2).bind fun ab => (if a1 = 0 then (none) else (some (Int.tmod (wrap64 ((wrap64 (aa.1 * 256)) + ab.1)) a1, ab.2.1, ab.2.2)))) else (if a1 = 0 then (none) else (some (Int.tmod aa.1 a1, aa.2.1, aa.2.2)))))
theorem spec_l1Cur_pick.calls (g : Nat) (ab : List Int) (ae : Int) (af : Int) (a1 : Int) (r1 : Int) (r2 : Int) (r3 : Int) (w0 w : World) (hI : IsS66 w0 w g ab ae af) (hB : Below w0.heap.size w0 w) (h : spec_l1Cur_pick.f ab ae af a1 = some (r1, r2, r3)) :
  Calls Tryz.prog 72 #[.pointer (some ⟨g, 0, none⟩), .int .i64 a1] w fun e w' => e = .returned (.int .i64 r1) ∧ IsS66 w0 w' g ab r2 r3 ∧ Below w0.heap.size w0 w' ∧ KeepBut w w' g none := by
 have HI0 := Ya hI
 have HK := Ya (KeepBut.refl w g none)
 have HL := Ya hB.size
 clear hI
 have av := Ya hB.size
 have HB := Ya hB
 clear hB
 have H : (if a1 ≤ 1 then (some (0, ae, af)) else ((spec_l1Cur_next.f ab ae af).bind fun aa => (if a1 > 200 then ((spec_l1Cur_next.f ab aa.2.1 aa.2.2).bind fun ag => (if a1 = 0 then (none) else (some (Int.tmod (wrap64 ((wrap64 (aa.1 * 256)) + ag.1)) a1, ag.2.1, ag.2.2)))) else (if a1 = 0 then (none) else (some (Int.tmod aa.1 a1, aa.2.1, aa.2.2)))))) = some (r1, r2, r3) := h
 clear h
 by_cases c3 : a1 ≤ 1
 ·rw [if_pos c3] at H
  have ak := Z35 c3
  clear c3
  simp only [Option.some.injEq, Prod.mk.injEq] at H
  obtain ⟨rfl, rfl, rfl⟩ := H
  go_enter Tryz.func72, Tryz.ntmps72
  go_wp2
  go_ret
  exact ⟨Q2, Q13, Q15, Q14⟩
 ·rw [if_neg c3] at H
  have ak := Z34 c3
  clear c3
  replace H := YB H
  obtain ⟨⟨aj, ah, ai⟩, A4, H⟩ := H
  dsimp only at H
  by_cases c5 : a1 > 200
  ·rw [if_pos c5] at H
   have al : decide (200 < a1) = true := Z35 c5
   clear c5
   replace H := YB H
   obtain ⟨⟨am, an, ao⟩, A6, H⟩ := H
   dsimp only at H
   by_cases c7 : a1 = 0
   ·rw [if_pos c7] at H
    exact absurd H (by simp)
   ·rw [if_neg c7] at H
    have ar : (a1 == 0) = false := beq_eq_false_iff_ne.mpr c7
    have au : (a1 != 0) = true := bne_iff_ne.mpr c7
    simp only [Option.some.injEq, Prod.mk.injEq] at H
    obtain ⟨rfl, rfl, rfl⟩ := H
    go_enter Tryz.func72, Tryz.ntmps72
    go_wp2_with (first | ((with_reducible refine gate_callee (f := 91) rfl ?_); refine Yz 9 Tryz.func91 #[.pointer (some ⟨g, 0, none⟩)] ?_; (with_reducible refine (spec_l1Cur_next.calls g ab ae af aj ah ai w0 _ ?ac ?ad A4.1).mono ?_); (case ac => exact Q1); (case ad => exact Q6); rintro e w8 ⟨rfl, hi, hb, hk⟩; refine ⟨_, rfl, ?_⟩; replace HK := Ya (KeepBut.trans Q4 hk (.inl rfl)); replace HB := Ya hb; replace HI0 := Ya hi; (try clear hb hk hi)) | ((with_reducible refine gate_callee (f := 91) rfl ?_); refine Yz 15 Tryz.func91 #[.pointer (some ⟨g, 0, none⟩)] ?_; (with_reducible refine (spec_l1Cur_next.calls g ab ah ai am an ao w0 _ ?ac ?ad A6.1).mono ?_); (case ac => exact Q1); (case ad => exact Q6); rintro e w9 ⟨rfl, hi, hb, hk⟩; refine ⟨_, rfl, ?_⟩; replace HK := Ya (KeepBut.trans Q4 hk (.inl rfl)); replace HB := Ya hb; replace HI0 := Ya hi; (try clear hb hk hi)))
    go_ret
    exact ⟨Q2, Q13, Q15, Q14⟩
  ·rw [if_neg c5] at H
   have al : decide (200 < a1) = false := Z34 c5
   clear c5
   by_cases c10 : a1 = 0
   ·rw [if_pos c10] at H
    exact absurd H (by simp)
   ·rw [if_neg c10] at H
    have ap : (a1 == 0) = false := beq_eq_false_iff_ne.mpr c10
    have aq : (a1 != 0) = true := bne_iff_ne.mpr c10
    simp only [Option.some.injEq, Prod.mk.injEq] at H
    obtain ⟨rfl, rfl, rfl⟩ := H
    go_enter Tryz.func72, Tryz.ntmps72
    go_wp2_with (first | ((with_reducible refine gate_callee (f := 91) rfl ?_); refine Yz 9 Tryz.func91 #[.pointer (some ⟨g, 0, none⟩)] ?_; (with_reducible refine (spec_l1Cur_next.calls g ab ae af aj ah ai w0 _ ?ac ?ad A4.1).mono ?_); (case ac => exact Q1); (case ad => exact Q6); rintro e aw ⟨rfl, hi, hb, hk⟩; refine ⟨_, rfl, ?_⟩; replace HK := Ya (KeepBut.trans Q4 hk (.inl rfl)); replace HB := Ya hb; replace HI0 := Ya hi; (try clear hb hk hi)))
    go_ret
    exact ⟨Q2, Q13, Q15, Q14⟩
def spec_l1Cur_among.f (ab : List Int) (ac : Int) (ad : Int) (l1 : List Int) : Option (Int × Int × Int) := (spec_l1Cur_pick.f ab ac ad (l1.length : Int)).bind fun aa => (if 0 ≤ aa.1 then (if aa.1 < (l1.length : Int) then (some (rd l1 aa.1, aa.2.1, aa.2.2)) else (none)) else (none))
theorem spec_l1Cur_among.calls (g : Nat) (ae : List Int) (af : Int) (ag : Int) (A1 : Option Addr) (c1 : Nat) (l1 : List Int) (r1 : Int) (r2 : Int) (r3 : Int) (w0 w : World) (hI : IsS66 w0 w g ae af ag) (hB : Below w0.heap.size w0 w) (ap : Kd.C (Kd.int .i64) w A1 l1.length l1) (aq : l1.length ≤ c1) (hf1 : ∀ ad, A1 = some ad → 0 < l1.length → ad.block ≠ g) (h : spec_l1Cur_among.f ae af ag l1 = some (r1, r2, r3)) :
  Calls Tryz.prog 39 #[.pointer (some ⟨g, 0, none⟩), .slice A1 l1.length c1] w fun e w' => e = .returned (.int .i64 r1) ∧ IsS66 w0 w' g ae r2 r3 ∧ Below w0.heap.size w0 w' ∧ KeepBut w w' g none := by
 have ar := Ya ap
 have aw := Ya aq
 clear ap aq
 have HI0 := Ya hI
 have HK := Ya (KeepBut.refl w g none)
 have HL := Ya hB.size
 clear hI
 have ax := Ya hB.size
 have HB := Ya hB
 clear hB
 have H : ((spec_l1Cur_pick.f ae af ag (l1.length : Int)).bind fun aa => (if 0 ≤ aa.1 then (if aa.1 < (l1.length : Int) then (some (rd l1 aa.1, aa.2.1, aa.2.2)) else (none)) else (none))) = some (r1, r2, r3) := h
 clear h
 replace H := YB H
 obtain ⟨⟨ac, am, an⟩, A3, H⟩ := H
 dsimp only at H
 by_cases c4 : 0 ≤ ac
 ·rw [if_pos c4] at H
  have au := Z35 c4
  clear c4
  by_cases c5 : ac < (l1.length : Int)
  ·rw [if_pos c5] at H
   have av := Z35 c5
   clear c5
   simp only [Option.some.injEq, Prod.mk.injEq] at H
   obtain ⟨rfl, rfl, rfl⟩ := H
   go_enter Tryz.func39, Tryz.ntmps39
   go_wp2_with (first | ((with_reducible refine gate_callee (f := 72) rfl ?_); refine Yz 9 Tryz.func72 #[.pointer (some ⟨g, 0, none⟩), .int .i64 (l1.length : Int)] ?_; (with_reducible refine (spec_l1Cur_pick.calls g ae af ag (l1.length : Int) ac am an w0 _ ?aj ?ak A3.1).mono ?_); (case aj => exact Q1); (case ak => exact Q6); rintro e w6 ⟨rfl, hi, hb, hk⟩; refine ⟨_, rfl, ?_⟩; replace HK := Ya (KeepBut.trans Q4 hk (.inl rfl)); replace HB := Ya hb; replace HI0 := Ya hi; (try clear hb hk hi); have ah : 0 ≤ (ac : Int) := Z27 Q5; have ai : ac < (l1.length : Int) := Z27 Q5; obtain ⟨al, ao, ab⟩ := Kd.at_int ar.1 ac ah ai; cases ao; replace ab := keep_cell HK.1 ab (by first | (rw [add_block]; exact hf1 _ rfl (by omega)) | exact hf1 _ rfl (by omega) | exact hf1 al rfl (by omega)); replace ah := eq_true ah; replace ai := eq_true ai))
   go_ret
   exact ⟨Q2, Q13, Q15, Q14⟩
  ·rw [if_neg c5] at H
   exact absurd H (by simp)
 ·rw [if_neg c4] at H
  exact absurd H (by simp)
def spec_raFactorial.f : Nat → Int → Option (Int)
 | 0, _ => none
 | k + 1, a0 => if a0 = 0 then (some 1) else ((spec_raFactorial.f k (wrap64 (a0 - 1))).bind fun aa => (some (wrap64 (a0 * aa))))
theorem spec_raFactorial.mono_l : ∀ k, (∀ y0, LeO (spec_raFactorial.f k y0) (spec_raFactorial.f (k + 1) y0))
 | 0 => fun _ r h => by simp [spec_raFactorial.f] at h
 | k + 1 => by
  have ih0 := spec_raFactorial.mono_l k
  ·intro y0
   unfold spec_raFactorial.f
   repeat' first | (with_reducible exact ih0 ..) | (with_reducible exact LeO.refl _) | (with_reducible exact LeO.none _) | (with_reducible refine LeO.ite ?_ ?_) | (with_reducible refine LeO.bind ?_ (fun _ => ?_))
theorem spec_raFactorial.mono : ∀ a0 k, LeO (spec_raFactorial.f k a0) (spec_raFactorial.f (k + 1) a0) := by
 intro a0 k
 have ih0 := spec_raFactorial.mono_l k
 exact ih0 a0
theorem spec_raFactorial.calls (k : Nat) : ∀ (a0 : Int) (r : Int) (w : World) (h : spec_raFactorial.f k a0 = some r),
  Calls Tryz.prog 41 #[.int .i64 a0] w fun e w' => e = .returned (.int .i64 r) ∧ Drawn0 w w' := by
 induction k using Nat.strongRecOn with
 | _ k ih =>
 intro a0 r w h
 cases k with
 | zero => exact absurd h (by simp [spec_raFactorial.f])
 | succ k =>
 simp only [spec_raFactorial.f] at h
 have H : (if a0 = 0 then (some 1) else ((spec_raFactorial.f k (wrap64 (a0 - 1))).bind fun aa => (some (wrap64 (a0 * aa))))) = some r := h
 clear h
 by_cases c2 : a0 = 0
 ·rw [if_pos c2] at H
  have ab : (a0 == 0) = true := beq_iff_eq.mpr c2
  have ac : (a0 != 0) = false := bne_eq_false_iff_eq.mpr c2
  clear c2
  obtain rfl := Option.some.inj H
  go_enter Tryz.func41, Tryz.ntmps41
  go_wp2
  go_ret
  exact ⟨Q24, Q16⟩
 ·rw [if_neg c2] at H
  have ab : (a0 == 0) = false := beq_eq_false_iff_ne.mpr c2
  have ac : (a0 != 0) = true := bne_iff_ne.mpr c2
  replace H := YB H
  obtain ⟨aa, A3, H⟩ := H
  obtain rfl := Option.some.inj H
  go_enter Tryz.func41, Tryz.ntmps41
  go_wp2_with (first | ((with_reducible refine gate_callee (f := 41) rfl ?_); refine Yz 8 Tryz.func41 #[.int .i64 (wrap64 (a0 - 1))] ?_; (with_reducible refine (ih k (by omega) (wrap64 (a0 - 1)) aa _ A3.1).mono ?_); rintro e w' ⟨rfl, ⟨nd, rfl⟩⟩; refine ⟨_, rfl, ?_⟩))
  go_ret
  exact ⟨Q24, Q16⟩
def spec_l1Own.f (l0 : List Int) : Option (List Int) := (some (([] : List Int) : List Int)).bind fun aa => (if aa.length + l0.length < 17592186044416 then (some (aa ++ l0)) else (none))
theorem spec_l1Own.calls (A0 : Option Addr) (c0 : Nat) (l0 : List Int) (r : List Int) (w : World) (ak : Kd.C (Kd.int .i64) w A0 l0.length l0) (al : l0.length ≤ c0) (h : spec_l1Own.f l0 = some r) :
  Calls Tryz.prog 85 #[.slice A0 l0.length c0] w fun e w' => ∃ v0_ : Value, e = .returned (v0_) ∧ Kd.R (Kd.int .i64) 3 w' w.heap.size (fun _ => True) v0_ r ∧ Below w.heap.size w w' := by
 have HR0 := Ya ak
 have an := Ya al
 clear ak al
 have HB := Ya (Below.refl w.heap.size w)
 have H : ((some (([] : List Int) : List Int)).bind fun aa => (if aa.length + l0.length < 17592186044416 then (some (aa ++ l0)) else (none))) = some r := h
 clear h
 obtain ⟨aa, ab⟩ : ∃ y_ : List Int, y_ = (([] : List Int)) := ⟨_, rfl⟩
 replace H : (if aa.length + l0.length < 17592186044416 then (some (aa ++ l0)) else (none)) = some r := by first | (rw [ab]; with_reducible exact H) | (have H2_ := (Option.bind_some _ _).symm.trans H; rw [ab]; with_reducible exact H2_) | (have H2_ := (Option.bind_some _ _).symm.trans H; with_reducible exact H2_) | with_reducible exact H | (rw [ab]; exact H) | exact H
 have ad := Ya ab
 clear ab
 by_cases c2 : aa.length + l0.length < 17592186044416
 ·rw [if_pos c2] at H
  have LMc2 := Ya c2
  clear c2
  obtain ⟨ai, ac⟩ : ∃ y_ : List Int, y_ = (aa ++ l0) := ⟨_, rfl⟩
  replace H : (some ai) = some r := by first | (rw [ac]; with_reducible exact H) | (have H2_ := (Option.bind_some _ _).symm.trans H; rw [ac]; with_reducible exact H2_) | (have H2_ := (Option.bind_some _ _).symm.trans H; with_reducible exact H2_) | with_reducible exact H | (rw [ac]; exact H) | exact H
  have af := Ya ac
  clear ac
  obtain rfl := Option.some.inj H
  go_enter Tryz.func85, Tryz.ntmps85
  go_wp2_with (first | ((with_reducible refine gate_dst (N := 3) rfl ?_); refine Kd.R_lit (Kd.int .i64) _ 3 ?hg (N := 3) ?hd (xs := ([] : List Int)) (inner := []) (ok := fun _ => True) (okp := fun _ => True) ?hr ?hp (fun _ hk => hk) trivial (Below.refl _ _) (Nat.le_refl _) (by simp) ?_; (case hd => rfl); (case hg => rfl); (case hr => first | (go_simp; done) | (go_simp; rfl)); (case hp => exact (Reps.none _ _)); intro aj w3 ag hb hg_ hnew_; clear hg_ hnew_; (first | rw [← ad.1] at ag | (simp only [Int.reduceToNat] at ag; rw [← ad.1] at ag)); have ae := Yl ag; replace HB := Yh hb; clear hb ag) | ((with_reducible refine gate_builtin (b := .append) (xs := #[.tmp 3, .tmp 4]) rfl ?_); at_builtin; refine Kd.R_append_rows (Kd.int .i64) (w0 := w) w.heap.size rfl (.tmp 3) (.tmp 4) 24 3 (.int .i64 0) 8 rfl Tryz.underlying24 info3 rfl (by decide) (by omega) aj aa l0 _ _ _ (fun _ => True) (fun _ => False) rfl rfl ?aO ?aR (fun _ _ h => h) (fun _ h => h.elim) ?aF ?aB ?aS ?aL ?_; (case aR => repeat (first | exact (Z19 HR0.1 HB.1) | (with_reducible refine Z16 ?_ _) | (with_reducible refine Z17 ?_ _) | (with_reducible refine Z18 ?_))); (case aB => exact Q0); (case aF => exact (fun _ _ => trivial)); (case aO => exact (Yr ae.1)); (case aS => exact (Z7 Q0)); (case aL => have := LMc2.1; omega); intro am w5 ho hb hg hat; rw [← af.1] at ho; replace HB := Ya hb; have ah := Ya ho; clear ae; clear ho hb hg hat))
  go_ret
  exact ⟨_, Q2, by (with_reducible repeat (first | apply Z9 | apply Z10 | apply Z11)); exact ah.1, Q12⟩
 ·rw [if_neg c2] at H
  exact absurd H (by simp)
def spec_foOwn.f (ac : List Int) (ad : List Int) (aa : List Bool) (ae : List Int) : Option (List Int × List Int × List Bool × List Int) := (spec_l1Own.f ac).bind fun af => ((spec_l1Own.f ad).bind fun ag => ((some (([] : List Bool) : List Bool)).bind fun ab => (if ab.length + aa.length < 140737488355328 then ((spec_l1Own.f ae).bind fun ah => (some (af, ag, (ab ++ aa), ah))) else (none))))
def spec_foOwn.T1 : Bool × List (List Nat × List Nat) := (true, [([], []), ([0], [0]), ([1], [1]), ([], []), ([3], [3]), ([4, 2], [4]), ([], []), ([], []), ([7], [7]), ([6, 8, 5], [6, 8]), ([], []), ([10], [10]), ([11, 9], [11]), ([2, 5, 9, 12], [2, 5, 9, 12]), ([13, 12, 0, 1, 2, 3, 4, 5, 6, 7, 8, 9, 10, 11, 12, 13], [13])])
def spec_foOwn.B1 : List Nat := [0, 1, 3, 0, 8, 31, 0, 0, 128, 511, 0, 1024, 4095, 8191, 16383]
theorem spec_foOwn.tab1 : rtab .any (opsOf Tryz.f84 1) = spec_foOwn.T1 := by kernel_rfl
theorem spec_foOwn.bits1 : waitsOk spec_foOwn.T1.2 spec_foOwn.B1 = true := by kernel_rfl
theorem spec_foOwn.calls (ar : Option Addr) (au : Nat) (ak : List Int) (ap : Option Addr) (aq : Nat) (ai : List Int) (aC : Option Addr) (aD : Nat) (aj : List Bool) (aw : Option Addr) (ax : Nat) (al : List Int) (r1 : List Int) (r2 : List Int) (r3 : List Bool) (r4 : List Int) (w : World) (aX : Kd.C (Kd.int .i64) w ar ak.length ak) (aY : ak.length ≤ au) (aZ : Kd.C (Kd.int .i64) w ap ai.length ai) (a0 : ai.length ≤ aq) (a1 : Kd.C Kd.bool w aC aj.length aj) (a2 : aj.length ≤ aD) (a3 : Kd.C (Kd.int .i64) w aw al.length al) (a4 : al.length ≤ ax) (h : spec_foOwn.f ak ai aj al = some (r1, r2, r3, r4)) :
  Calls Tryz.prog 84 #[.agg #[.slice ar ak.length au, .slice ap ai.length aq, .slice aC aj.length aD, .slice aw al.length ax]] w fun e w' => ∃ v0_ v1_ v2_ v3_ : Value, e = .returned (.agg #[v0_, v1_, v2_, v3_]) ∧ Kd.R (Kd.int .i64) 3 w' w.heap.size (fun k_ => some k_ ≠ (v1_ : Value).ownBlock ∧ some k_ ≠ (v3_ : Value).ownBlock) v0_ r1 ∧ Kd.R (Kd.int .i64) 3 w' w.heap.size (fun k_ => some k_ ≠ (v0_ : Value).ownBlock ∧ some k_ ≠ (v3_ : Value).ownBlock) v1_ r2 ∧ Kd.R Kd.bool 4 w' w.heap.size (fun _ => True) v2_ r3 ∧ Kd.R (Kd.int .i64) 3 w' w.heap.size (fun k_ => some k_ ≠ (v0_ : Value).ownBlock ∧ some k_ ≠ (v1_ : Value).ownBlock) v3_ r4 ∧ Below w.heap.size w w' := by
 have hu27 := Tryz.underlying27
 have a5 := Ya aX
 have a6 := Ya aY
 clear aX aY
 have aP := Ya aZ
 have aQ := Ya a0
 clear aZ a0
 have a8 := Ya a1
 have bB := Ya a2
 clear a1 a2
 have a9 := Ya a3
 have ba := Ya a4
 clear a3 a4
 have HB := Ya (Below.refl w.heap.size w)
 have H : ((spec_l1Own.f ak).bind fun aE => ((spec_l1Own.f ai).bind fun ay => ((some (([] : List Bool) : List Bool)).bind fun az => (if az.length + aj.length < 140737488355328 then ((spec_l1Own.f al).bind fun aG => (some (aE, ay, (az ++ aj), aG))) else (none))))) = some (r1, r2, r3, r4) := h
 clear h
 replace H := YB H
 obtain ⟨aE, A2, H⟩ := H
 replace H := YB H
 obtain ⟨ay, A3, H⟩ := H
 obtain ⟨az, aH⟩ : ∃ y_ : List Bool, y_ = (([] : List Bool)) := ⟨_, rfl⟩
 replace H : (if az.length + aj.length < 140737488355328 then ((spec_l1Own.f al).bind fun aG => (some (aE, ay, (az ++ aj), aG))) else (none)) = some (r1, r2, r3, r4) := by first | (rw [aH]; with_reducible exact H) | (have H2_ := (Option.bind_some _ _).symm.trans H; rw [aH]; with_reducible exact H2_) | (have H2_ := (Option.bind_some _ _).symm.trans H; with_reducible exact H2_) | with_reducible exact H | (rw [aH]; exact H) | exact H
 have aA := Ya aH
 clear aH
 by_cases c4 : az.length + aj.length < 140737488355328
 ·rw [if_pos c4] at H
  have LMc4 := Ya c4
  clear c4
  obtain ⟨bb, aI⟩ : ∃ y_ : List Bool, y_ = (az ++ aj) := ⟨_, rfl⟩
  replace H : ((spec_l1Own.f al).bind fun aG => (some (aE, ay, bb, aG))) = some (r1, r2, r3, r4) := by first | (rw [aI]; with_reducible exact H) | (have H2_ := (Option.bind_some _ _).symm.trans H; rw [aI]; with_reducible exact H2_) | (have H2_ := (Option.bind_some _ _).symm.trans H; with_reducible exact H2_) | with_reducible exact H | (rw [aI]; exact H) | exact H
  have bc := Ya aI
  clear aI
  replace H := YB H
  obtain ⟨aG, A5, H⟩ := H
  simp only [Option.some.injEq, Prod.mk.injEq] at H
  obtain ⟨rfl, rfl, rfl, rfl⟩ := H
  go_enter Tryz.func84, Tryz.ntmps84
  try go_wp2_with (first | ((with_reducible refine gate_dst (N := 1) rfl ?_); refine Yx 1 #[.slice ar ak.length au, .slice ap ai.length aq, .slice aC aj.length aD, .slice aw al.length ax] 27 ?_; intro ag hg w6 hbox hb; have ab := Ya hbox; have bC := Yg hg; replace HB := Yh hb; clear hb hbox hg) | ((with_reducible refine gate_dst (N := 2) rfl ?_); refine Yx 2 YN4 27 ?_; intro ae hg w7 hbox hb; have ac := Ya hbox; have bD := Yg hg; replace HB := Yh hb; have aa := Yn ab hg; have ao := Ym ab hg; replace ab := Yb ab hb; clear hb hbox hg))
  replace ab := Ya (Z23 ab.1)
  replace ac := Ya (Z23 ac.1)
  replace HB := Ya (Z4 HB.1)
  refine start_ (n := 15) (S := fun w' => w'.cell? ⟨ag, 0, none⟩ = some (.slice ar ak.length au) ∧ w'.cell? ⟨ag, 1, none⟩ = some (.slice ap ai.length aq) ∧ w'.cell? ⟨ag, 2, none⟩ = some (.slice aC aj.length aD) ∧ w'.cell? ⟨ag, 3, none⟩ = some (.slice aw al.length ax)) (ds := []) (YA 15 0) (by kernel_rfl) rfl rfl (Yz4 ab.1) (fun hHeld => ?_); refine with_tabW spec_foOwn.tab1 spec_foOwn.bits1 (fun HT_ HW_ => ?_)
  generalize w7.drew = w8 at ab ac HB hHeld ⊢
  refine Yp 0 (some 3) (YA 15 1) rfl HT_.1 ?_
  refine Yp 3 (some 6) (YA 15 9) rfl HT_.1 ?_
  refine Yp 7 (some 10) (YA 15 137) rfl HT_.1 ?_
  refine Yp 10 (some 13) (YA 15 1161) rfl HT_.1 ?_
  refine Yt 1 (some 4) (YA 15 1163) rfl HT_.1 HW_.1 hHeld Q8 ?_
  refine Yt 4 (some 7) (YA 15 1179) rfl HT_.1 HW_.1 hHeld Q8 ?_
  refine Yt 8 (some 11) (YA 15 1435) rfl HT_.1 HW_.1 hHeld Q8 ?_
  refine Yt 11 (some 14) (YA 15 3483) rfl HT_.1 HW_.1 hHeld Q8 ?_
  refine join_ (σ := Value × Value × Value) 4 (YA 15 3583) (fun s_ => [(5, s_.1), (8, s_.2.1), (9, s_.2.2)]) (fun s_ w' => (w'.cell? ⟨ag, 0, none⟩ = some (.slice ar ak.length au) ∧ w'.cell? ⟨ag, 1, none⟩ = some (.slice ap ai.length aq) ∧ w'.cell? ⟨ag, 2, none⟩ = some (.slice aC aj.length aD) ∧ w'.cell? ⟨ag, 3, none⟩ = some (.slice aw al.length ax)) ∧ (Kd.R (Kd.int .i64) 3 w' w.heap.size (fun k_ => some k_ ≠ (s_.2.1 : Value).ownBlock) s_.1 aE) ∧ (Kd.R (Kd.int .i64) 3 w' w.heap.size (fun k_ => some k_ ≠ (s_.1 : Value).ownBlock) s_.2.1 ay) ∧ (Kd.R Kd.bool 4 w' w.heap.size (fun _ => True) s_.2.2 az) ∧ (w'.heap[ag]? = some (.cells #[.slice ar ak.length au, .slice ap ai.length aq, .slice aC aj.length aD, .slice aw al.length ax] 27 (0, 0))) ∧ (w'.heap[ae]? = some (.cells YN4 27 (0, 0))) ∧ (Below w.heap.size w w')) ?_ ?_
  rotate_left
  ·intro hCont
   refine two_ (i := 2) (j := 6) (Ni := some 5) (Nj := some 9) (YA 15 3487) (YA 15 3547) rfl rfl rfl rfl (two_of HT_.1 (by kernel_rfl)) (by decide) (by decide) (fun K hK => ?_) (fun K hK => ?_)
   ·skip
    refine goes_ Tryz.func85 (by kernel_rfl) rfl #[.slice ar ak.length au] (by rfl) rfl rfl Q20 ?_
    with_reducible refine (spec_l1Own.calls _ _ ak aE _ ?am ?an A2.1).mono ?_
    (case am => exact Yc (Z19 a5.1 HB.1))
    (case an => exact a6.1)
    rintro e w9 ⟨aM, rfl, av, hb⟩
    refine ⟨_, rfl, ?_⟩
    have ad := Yl av
    replace ab := Yb ab hb
    replace ac := Yb ac hb
    replace HB := Yh hb
    (try clear hb av)
    refine hK.out _ _ (Yz4 ab.1) (fun hHeld => ?_)
    clear hK K
    refine YNa 5 ?_
    refine two_ (i := 5) (j := 6) (Ni := some 8) (Nj := some 9) (YA 15 3519) (YA 15 3551) rfl rfl rfl rfl (two_of HT_.1 (by kernel_rfl)) (by decide) (by decide) (fun K hK => ?_) (fun K hK => ?_)
    ·skip
     refine goes_ Tryz.func85 (by kernel_rfl) rfl #[.slice ap ai.length aq] (by rfl) rfl rfl Q20 ?_
     with_reducible refine (spec_l1Own.calls _ _ ai ay _ ?am ?an A3.1).mono ?_
     (case am => exact Yc (Z19 aP.1 HB.1))
     (case an => exact aQ.1)
     rintro e bE ⟨aJ, rfl, av, hb⟩
     refine ⟨_, rfl, ?_⟩
     have ah := Yl (YW av ad)
     replace ad := YE ad av hb
     replace ab := Yb ab hb
     replace ac := Yb ac hb
     replace HB := Yh hb
     (try clear hb av)
     refine hK.out _ _ (Yz4 ab.1) (fun hHeld => ?_)
     clear hK K
     refine YNa 8 ?_
     refine one_ (i := 6) (N := some 9) (YA 15 3583) rfl rfl (one_of HT_.1 (by kernel_rfl)) (by decide) (fun K hK => ?_)
     refine Kd.R_lit_step Kd.bool _ 4 ?hg (N := 9) ?hd (xs := ([] : List Bool)) (inner := []) (ok := fun _ => True) (okp := fun _ => True) ?hr ?hp (fun _ hk => hk) trivial (Below.refl _ _) (Nat.le_refl _) (by simp) ?_; (case hd => rfl); (case hg => rfl); (case hr => first | (go_simp; done) | (go_simp; rfl)); (case hp => exact (Reps.none _ _))
     intro aK bF aT hb hg_ hnew_
     clear hg_ hnew_
     (first | rw [← aA.1] at aT | (simp only [Int.reduceToNat] at aT; rw [← aA.1] at aT))
     replace ad := Yw ad hb
     replace ah := Yw ah hb
     have af := Yl aT
     replace ab := Yb ab hb
     replace ac := Yb ac hb
     replace HB := Yh hb
     clear hb aT
     refine hK.out _ _ (Yz4 ab.1) (fun hHeld => ?_)
     clear hK K
     refine YNa 9 ?_
     exact norm_ Q34 (hCont (aM, aJ, aK) _ ⟨hHeld, (Yj ad.1 (fun _ hk => hk.2)), (Yj ah.1 (fun _ hk => hk.2)), (Yr af.1), (Yk ab.1), (Yk ac.1), Q0⟩)
    ·skip
     refine Kd.R_lit_step Kd.bool _ 4 ?hg (N := 9) ?hd (xs := ([] : List Bool)) (inner := []) (ok := fun _ => True) (okp := fun _ => True) ?hr ?hp (fun _ hk => hk) trivial (Below.refl _ _) (Nat.le_refl _) (by simp) ?_; (case hd => rfl); (case hg => rfl); (case hr => first | (go_simp; done) | (go_simp; rfl)); (case hp => exact (Reps.none _ _))
     intro aK bE aU hb hg_ hnew_
     clear hg_ hnew_
     (first | rw [← aA.1] at aU | (simp only [Int.reduceToNat] at aU; rw [← aA.1] at aU))
     replace ad := Yw ad hb
     have af := Yl aU
     replace ab := Yb ab hb
     replace ac := Yb ac hb
     replace HB := Yh hb
     clear hb aU
     refine hK.out _ _ (Yz4 ab.1) (fun hHeld => ?_)
     clear hK K
     refine YNa 9 ?_
     refine one_ (i := 5) (N := some 8) (YA 15 3583) rfl rfl (one_of HT_.1 (by kernel_rfl)) (by decide) (fun K hK => ?_)
     refine goes_ Tryz.func85 (by kernel_rfl) rfl #[.slice ap ai.length aq] (by rfl) rfl rfl Q20 ?_
     with_reducible refine (spec_l1Own.calls _ _ ai ay _ ?am ?an A3.1).mono ?_
     (case am => exact Yc (Z19 aP.1 HB.1))
     (case an => exact aQ.1)
     rintro e bG ⟨aJ, rfl, av, hb⟩
     refine ⟨_, rfl, ?_⟩
     replace af := Yw af hb
     have ah := Yl (YW av ad)
     replace ad := YE ad av hb
     replace ab := Yb ab hb
     replace ac := Yb ac hb
     replace HB := Yh hb
     (try clear hb av)
     refine hK.out _ _ (Yz4 ab.1) (fun hHeld => ?_)
     clear hK K
     refine YNa 8 ?_
     exact norm_ Q34 (hCont (aM, aJ, aK) _ ⟨hHeld, (Yj ad.1 (fun _ hk => hk.2)), (Yj ah.1 (fun _ hk => hk.2)), (Yr af.1), (Yk ab.1), (Yk ac.1), Q0⟩)
   ·skip
    refine Kd.R_lit_step Kd.bool _ 4 ?hg (N := 9) ?hd (xs := ([] : List Bool)) (inner := []) (ok := fun _ => True) (okp := fun _ => True) ?hr ?hp (fun _ hk => hk) trivial (Below.refl _ _) (Nat.le_refl _) (by simp) ?_; (case hd => rfl); (case hg => rfl); (case hr => first | (go_simp; done) | (go_simp; rfl)); (case hp => exact (Reps.none _ _))
    intro aK w9 aV hb hg_ hnew_
    clear hg_ hnew_
    (first | rw [← aA.1] at aV | (simp only [Int.reduceToNat] at aV; rw [← aA.1] at aV))
    have af := Yl aV
    replace ab := Yb ab hb
    replace ac := Yb ac hb
    replace HB := Yh hb
    clear hb aV
    refine hK.out _ _ (Yz4 ab.1) (fun hHeld => ?_)
    clear hK K
    refine YNa 9 ?_
    refine one_ (i := 2) (N := some 5) (YA 15 3551) rfl rfl (one_of HT_.1 (by kernel_rfl)) (by decide) (fun K hK => ?_)
    refine goes_ Tryz.func85 (by kernel_rfl) rfl #[.slice ar ak.length au] (by rfl) rfl rfl Q20 ?_
    with_reducible refine (spec_l1Own.calls _ _ ak aE _ ?am ?an A2.1).mono ?_
    (case am => exact Yc (Z19 a5.1 HB.1))
    (case an => exact a6.1)
    rintro e bF ⟨aM, rfl, av, hb⟩
    refine ⟨_, rfl, ?_⟩
    replace af := Yw af hb
    have ad := Yl av
    replace ab := Yb ab hb
    replace ac := Yb ac hb
    replace HB := Yh hb
    (try clear hb av)
    refine hK.out _ _ (Yz4 ab.1) (fun hHeld => ?_)
    clear hK K
    refine YNa 5 ?_
    refine one_ (i := 5) (N := some 8) (YA 15 3583) rfl rfl (one_of HT_.1 (by kernel_rfl)) (by decide) (fun K hK => ?_)
    refine goes_ Tryz.func85 (by kernel_rfl) rfl #[.slice ap ai.length aq] (by rfl) rfl rfl Q20 ?_
    with_reducible refine (spec_l1Own.calls _ _ ai ay _ ?am ?an A3.1).mono ?_
    (case am => exact Yc (Z19 aP.1 HB.1))
    (case an => exact aQ.1)
    rintro e bG ⟨aJ, rfl, av, hb⟩
    refine ⟨_, rfl, ?_⟩
    replace af := Yw af hb
    have ah := Yl (YW av ad)
    replace ad := YE ad av hb
    replace ab := Yb ab hb
    replace ac := Yb ac hb
    replace HB := Yh hb
    (try clear hb av)
    refine hK.out _ _ (Yz4 ab.1) (fun hHeld => ?_)
    clear hK K
    refine YNa 8 ?_
    exact norm_ Q34 (hCont (aM, aJ, aK) _ ⟨hHeld, (Yj ad.1 (fun _ hk => hk.2)), (Yj ah.1 (fun _ hk => hk.2)), (Yr af.1), (Yk ab.1), (Yk ac.1), Q0⟩)
  rintro ⟨aM, aJ, aK⟩ aW ⟨hS_, h0_, h1_, h2_, h3_, h4_, h5_⟩
  have ad : Aside0 (Kd.R (Kd.int .i64) 3 aW w.heap.size (fun k_ => some k_ ≠ (aJ : Value).ownBlock) aM aE) := ⟨h0_⟩
  have ah : Aside0 (Kd.R (Kd.int .i64) 3 aW w.heap.size (fun k_ => some k_ ≠ (aM : Value).ownBlock) aJ ay) := ⟨h1_⟩
  have af : Aside0 (Kd.R Kd.bool 4 aW w.heap.size (fun _ => True) aK az) := ⟨h2_⟩
  replace ab : Aside0 (aW.heap[ag]? = some (.cells #[.slice ar ak.length au, .slice ap ai.length aq, .slice aC aj.length aD, .slice aw al.length ax] 27 (0, 0))) := ⟨h3_⟩
  replace ac : Aside0 (aW.heap[ae]? = some (.cells YN4 27 (0, 0))) := ⟨h4_⟩
  replace HB : Aside0 (Below w.heap.size w aW) := ⟨h5_⟩
  clear h0_ h1_ h2_ h3_ h4_ h5_
  have hHeld : aW.cell? ⟨ag, 0, none⟩ = some (.slice ar ak.length au) ∧ aW.cell? ⟨ag, 1, none⟩ = some (.slice ap ai.length aq) ∧ aW.cell? ⟨ag, 2, none⟩ = some (.slice aC aj.length aD) ∧ aW.cell? ⟨ag, 3, none⟩ = some (.slice aw al.length ax) := hS_
  refine YNb ?_
  refine one_ (i := 9) (N := some 12) (YA 15 4095) rfl rfl (one_of HT_.1 (by kernel_rfl)) (by decide) (fun K hK => ?_)
  refine Kd.R_append_rows_step Kd.bool (w0 := w) w.heap.size (by rfl) (.tmp 9) (.tmp 11) 25 4 (.bool false) 1 rfl Tryz.underlying25 info4 rfl (by decide) (by omega) aK az aj _ _ _ (fun _ => True) (fun _ => False) rfl rfl ?aO ?aR (fun _ _ h => h) (fun _ h => h.elim) ?aF ?aB ?aS ?aL ?_
  (case aR => repeat (first | exact (Z19 a8.1 HB.1) | (with_reducible refine Z16 ?_ _) | (with_reducible refine Z17 ?_ _) | (with_reducible refine Z18 ?_)))
  (case aB => exact Q0)
  (case aF => exact (fun _ _ => trivial))
  (case aO => exact (Yr af.1))
  (case aS => exact (Z7 Q0))
  (case aL => have := LMc4.1; omega)
  intro bH bO ho hb hg hat
  rw [← bc.1] at ho
  replace ab := Ya (blk_grown (g := ag) (o := .cells #[.slice ar ak.length au, .slice ap ai.length aq, .slice aC aj.length aD, .slice aw al.length ax] 27 (0, 0)) (Yk ab.1) hg (Kd.R_ne af.1 ab.1 (by decide)))
  replace ac := Ya (blk_grown (g := ae) (o := .cells YN4 27 (0, 0)) (Yk ac.1) hg (Kd.R_ne af.1 ac.1 (by decide)))
  replace ad := Ya (Kd.R_over' (Yr ad.1) (Kd.R_typed (Yr af.1)) (by decide) hg)
  replace ah := Ya (Kd.R_over' (Yr ah.1) (Kd.R_typed (Yr af.1)) (by decide) hg)
  replace HB := Ya hb
  have aN := Ya ho
  clear af
  clear ho hb hg hat
  refine hK.out _ _ (Yz4 ab.1) (fun hHeld => ?_)
  clear hK K
  refine YNa 12 ?_
  refine one_ (i := 12) (N := some 15) (YA 15 8191) rfl rfl (one_of HT_.1 (by kernel_rfl)) (by decide) (fun K hK => ?_)
  refine goes_ Tryz.func85 (by kernel_rfl) rfl #[.slice aw al.length ax] (by rfl) rfl rfl Q20 ?_
  with_reducible refine (spec_l1Own.calls _ _ al aG _ ?am ?an A5.1).mono ?_
  (case am => exact Yc (Z19 a9.1 HB.1))
  (case an => exact ba.1)
  rintro e bh ⟨bI, rfl, av, hb⟩
  refine ⟨_, rfl, ?_⟩
  replace aN := Yw aN hb
  have a7 := Yl (YW (YW av ad) ah)
  replace ad := YE ad av hb
  replace ah := YE ah av hb
  replace ab := Yb ab hb
  replace ac := Yb ac hb
  replace HB := Yh hb
  (try clear hb av)
  obtain ⟨bq, br, bd⟩ := Z15 a7.1
  (first | subst bd | (injection bd with f1_ f2_ f3_; have f4_ := f1_.symm; have f5_ := f3_.symm; clear f1_ f2_ f3_; subst f4_; subst f5_))
  obtain ⟨bu, bv, be⟩ := Z15 aN.1
  (first | subst be | (injection be with f1_ f2_ f3_; have f4_ := f1_.symm; have f5_ := f3_.symm; clear f1_ f2_ f3_; subst f4_; subst f5_))
  obtain ⟨bw, bx, bf⟩ := Z15 ah.1
  (first | subst bf | (injection bf with f1_ f2_ f3_; have f4_ := f1_.symm; have f5_ := f3_.symm; clear f1_ f2_ f3_; subst f4_; subst f5_))
  obtain ⟨bz, bA, bg⟩ := Z15 ad.1
  (first | subst bg | (injection bg with f1_ f2_ f3_; have f4_ := f1_.symm; have f5_ := f3_.symm; clear f1_ f2_ f3_; subst f4_; subst f5_))
  refine hK.out _ _ (Yz4 ab.1) (fun hHeld => ?_)
  clear hK K
  refine YNa 15 ?_
  refine Yp 13 (some 16) (YA 15 16383) rfl HT_.1 ?_
  refine one_ (i := 14) (N := none) (YA 15 32767) rfl rfl (one_of HT_.1 (by kernel_rfl)) (by decide) (fun K hK => ?_)
  have bJ : bh.cell? ⟨ae, 0, none⟩ = some (.slice none 0 0) := (Z20 ac.1 0).trans rfl
  have hfs20 := Z21 ac.1 0
  have bi := aa.1
  have bj := ao.1
  have bK : bh.cell? ⟨ae, 1, none⟩ = some (.slice none 0 0) := (Z20 ac.1 1).trans rfl
  have hfs21 := Z21 ac.1 1
  have bk := aa.1
  have bl := ao.1
  have bL : bh.cell? ⟨ae, 2, none⟩ = some (.slice none 0 0) := (Z20 ac.1 2).trans rfl
  have hfs22 := Z21 ac.1 2
  have bm := aa.1
  have bn := ao.1
  have bN : bh.cell? ⟨ae, 3, none⟩ = some (.slice none 0 0) := (Z20 ac.1 3).trans rfl
  have hfs23 := Z21 ac.1 3
  have bo := aa.1
  have bp := ao.1
  refine YNc ?_
  refine hK.out _ _ ⟨((cell_far (p := ⟨ae, _, none⟩) aa.1 _).trans (((cell_far (p := ⟨ae, _, none⟩) aa.1 _).trans (((cell_far (p := ⟨ae, _, none⟩) aa.1 _).trans (((cell_far (p := ⟨ae, _, none⟩) aa.1 _).trans (hHeld.1)))))))), ((cell_far (p := ⟨ae, _, none⟩) aa.1 _).trans (((cell_far (p := ⟨ae, _, none⟩) aa.1 _).trans (((cell_far (p := ⟨ae, _, none⟩) aa.1 _).trans (((cell_far (p := ⟨ae, _, none⟩) aa.1 _).trans (hHeld.2.1)))))))), ((cell_far (p := ⟨ae, _, none⟩) aa.1 _).trans (((cell_far (p := ⟨ae, _, none⟩) aa.1 _).trans (((cell_far (p := ⟨ae, _, none⟩) aa.1 _).trans (((cell_far (p := ⟨ae, _, none⟩) aa.1 _).trans (hHeld.2.2.1)))))))), ((cell_far (p := ⟨ae, _, none⟩) aa.1 _).trans (((cell_far (p := ⟨ae, _, none⟩) aa.1 _).trans (((cell_far (p := ⟨ae, _, none⟩) aa.1 _).trans (((cell_far (p := ⟨ae, _, none⟩) aa.1 _).trans (hHeld.2.2.2))))))))⟩ (fun hHeld => ?_)
  clear hK K
  refine done_ (done_of HT_.1 (by kernel_rfl)) ?_
  try go_wp2
  refine bodyPost_ret (results_cell_row rfl _ _ ae 27 #[.slice bz aE.length bA, .slice bw ay.length bx, .slice bu bb.length bv, .slice bq aG.length br] (0, 0) _ rfl (Yk (Yv4 ac.1)) Tryz.underlying27 rfl (by kernel_rfl)) rfl ?_
  exact ⟨_, _, _, _, Q2, Yj (Yf4 ad.1 ac.1) (fun _ hk => ⟨hk.1.1, hk.1.2⟩), Yj (Yf4 ah.1 ac.1) (fun _ hk => ⟨hk.1.1, hk.1.2⟩), Yj (Yf4 aN.1 ac.1) (fun _ hk => trivial), Yj (Yf4 a7.1 ac.1) (fun _ hk => ⟨hk.1.1.2, hk.1.2⟩), Q12⟩
 ·rw [if_neg c4] at H
  exact absurd H (by simp)
def spec_foStep.f (aa : List Int) (ac : List Int) (ad : List Bool) (ab : List Int) : Option (List Int × List Int × List Bool × List Int × Int) := if 0 < ab.length then (if rd ab 0 = (aa.length : Int) then some (([] : List Int), ([] : List Int), ([] : List Bool), ([] : List Int), (-1)) else ((Go.Proofs.YtapbbmicfkbafaaGreat.FoW.stepF aa ac ad ab).bind fun bt => (some (aa, bt.1, bt.2.1, bt.2.2.1, (aa.length : Int) - 1 - bt.2.2.2)))) else none
open Go.Proofs.YtapbbmicfkbafaaGreat.FoW in
theorem spec_foStep.calls (A0 : Option Addr) (c0 : Nat) (l0 : List Int) (A1 : Option Addr) (c1 : Nat) (l1 : List Int) (A2 : Option Addr) (c2 : Nat) (l2 : List Bool) (A3 : Option Addr) (c3 : Nat) (l3 : List Int) (r1 : List Int) (r2 : List Int) (r3 : List Bool) (r4 : List Int) (r5 : Int) (w : World)
  (ao : Kd.C (Kd.int .i64) w A0 l0.length l0) (af : l0.length ≤ c0) (au : Kd.C (Kd.int .i64) w A1 l1.length l1) (ae : l1.length ≤ c1) (ap : Kd.C Kd.bool w A2 l2.length l2) (ag : l2.length ≤ c2) (aq : Kd.C (Kd.int .i64) w A3 l3.length l3) (ah : l3.length ≤ c3) (h : spec_foStep.f l0 l1 l2 l3 = some (r1, r2, r3, r4, r5)) :
  Calls Tryz.prog 57 #[.agg #[.slice A0 l0.length c0, .slice A1 l1.length c1, .slice A2 l2.length c2, .slice A3 l3.length c3]] w fun e w' => ∃ v0_ v1_ v2_ v3_ : Value, e = .returned (.tuple #[.agg #[v0_, v1_, v2_, v3_], .int .i64 r5]) ∧ Kd.R (Kd.int .i64) 3 w' w.heap.size (fun k_ => some k_ ≠ (v1_ : Value).ownBlock ∧ some k_ ≠ (v3_ : Value).ownBlock) v0_ r1 ∧ Kd.R (Kd.int .i64) 3 w' w.heap.size (fun k_ => some k_ ≠ (v0_ : Value).ownBlock ∧ some k_ ≠ (v3_ : Value).ownBlock) v1_ r2 ∧ Kd.R Kd.bool 4 w' w.heap.size (fun _ => True) v2_ r3 ∧ Kd.R (Kd.int .i64) 3 w' w.heap.size (fun k_ => some k_ ≠ (v0_ : Value).ownBlock ∧ some k_ ≠ (v1_ : Value).ownBlock) v3_ r4 ∧ Below w.heap.size w w' := by
 have hu := Tryz.underlying27
 unfold spec_foStep.f at h
 by_cases hp : 0 < l3.length
 rotate_left
 ·rw [if_neg hp] at h; cases h
 rw [if_pos hp] at h
 obtain ⟨ai, e3, av⟩ := Kd.at_int aq 0 (by decide) (by omega)
 subst e3
 have hx3' : w.cell? ai = some (.int .i64 (rd l3 0)) := by
  have e_ : ai.add (0 : Int).toNat = ai := by simp [Addr.add]
  rw [e_] at av; exact av
 clear av
 have HX3 := Ya hx3'
 have HR0 := Ya ao
 have aE := Ya au
 have aF := Ya ap
 have aG := Ya aq
 have aH := Ya af
 have aI := Ya ae
 have aJ := Ya ag
 have aK := Ya ah
 have HB := Ya (Below.refl w.heap.size w)
 have aO : (0 < l3.length) = True := eq_true hp
 have aP : ((0 : Int) < (l3.length : Int)) = True := eq_true (by omega)
 by_cases hj : rd l3 0 = (l0.length : Int)
 ·rw [if_pos hj] at h
  simp only [Option.some.injEq, Prod.mk.injEq] at h
  obtain ⟨rfl, rfl, rfl, rfl, rfl⟩ := h
  have b1 : (rd l3 0 == (l0.length : Int)) = true := beq_iff_eq.mpr hj
  clear ao au ap aq af ae ag ah hp hj hx3'
  go_enter Tryz.func57, Tryz.ntmps57
  go_upto_region 1 with (first | ((with_reducible refine gate_dst (N := 1) rfl ?_); refine Yx 1 #[.slice A0 l0.length c0, .slice A1 l1.length c1, .slice A2 l2.length c2, .slice (some ai) l3.length c3] 27 ?_; intro ac hg w1 hbox hb; have n0_ := Yh hb; have n1_ := Ya hbox; have aL := Ya (by rw [hg]; exact Z7 Q0 : w.heap.size ≤ ac); clear HB; have HB := n0_; have BK1 := n1_; clear n0_ n1_; clear hb hbox hg) | ((with_reducible refine gate_dst (N := 2) rfl ?_); refine Yx 2 YN4 27 ?_; intro ad hg w2 hbox hb; have n0_ := Yh hb; have n1_ := Ya hbox; have n2_ := Ya (Z25 BK1.1 hb); have ar := Ya (by rw [hg]; exact Z7 Q0 : w.heap.size ≤ ad); have aw := Ya (by rw [hg]; exact Nat.ne_of_lt (blk_lt BK1.1) : ac ≠ ad); clear HB BK1; have HB := n0_; have BK2 := n1_; have BK1 := n2_; clear n0_ n1_ n2_; clear hb hbox hg))
  have ha0 := (Z20 BK1.1 0).trans rfl
  have ha1 := (Z20 BK1.1 1).trans rfl
  have ha2 := (Z20 BK1.1 2).trans rfl
  have ha3 := (Z20 BK1.1 3).trans rfl
  have hd0 := (Z20 BK2.1 0).trans rfl
  have hd1 := (Z20 BK2.1 1).trans rfl
  have hd2 := (Z20 BK2.1 2).trans rfl
  have hd3 := (Z20 BK2.1 3).trans rfl
  have hf0 := Z21 BK2.1 0
  have hf1 := Z21 BK2.1 1
  have hf2 := Z21 BK2.1 2
  have hf3 := Z21 BK2.1 3
  have hx := (HB.1.cell (World.block_lt_of_cell? w _ HX3.1)).trans HX3.1
  go_wp2
  refine bodyPost_ret (results_ct rfl _ _ ad 27 YN4 (0, 0) _ rfl (set4_at BK2.1 _ _ _ _) Tryz.underlying27 rfl (by kernel_rfl)) rfl ?_
  exact ⟨_, _, _, _, rfl, Kd.R_nil _ _ _ _ _, Kd.R_nil _ _ _ _ _, Kd.R_nil _ _ _ _ _, Kd.R_nil _ _ _ _ _, set4_below HB.1 ar.1 _ _ _ _⟩
 ·rw [if_neg hj] at h
  obtain ⟨⟨d', u', p', r⟩, hs, h⟩ := Z33.mp h
  simp only [Option.some.injEq, Prod.mk.injEq] at h
  obtain ⟨rfl, rfl, rfl, rfl, rfl⟩ := h
  unfold stepF at hs
  simp only at hs
  by_cases hc : 0 ≤ rd l3 0 ∧ rd l3 0 < l0.length ∧ l0.length ≤ 1000 ∧ l1.length = l0.length ∧ l2.length = l0.length ∧ l3.length = l0.length + 1 ∧ -1000 ≤ rd l1 ((l0.length : Int) - 1 - rd l3 0) ∧ rd l1 ((l0.length : Int) - 1 - rd l3 0) ≤ 1000 ∧ -1000 ≤ rd l0 ((l0.length : Int) - 1 - rd l3 0) ∧ rd l0 ((l0.length : Int) - 1 - rd l3 0) ≤ 1000
  rotate_left
  ·rw [if_neg hc] at hs; cases hs
  rw [if_pos hc] at hs
  obtain ⟨J, hJ⟩ : ∃ J, rd l3 0 = J := ⟨_, rfl⟩
  rw [hJ] at hs hc hx3' hj
  obtain ⟨I, hI⟩ : ∃ I, (l0.length : Int) - 1 - J = I := ⟨_, rfl⟩
  rw [hI] at hs hc
  obtain ⟨j0, j1, m0, e1, e2, e3, x0, x1, y0, y1⟩ := hc
  have HL := Ya (show (0 ≤ I ∧ I < l0.length) ∧ I < l1.length ∧ I < l2.length ∧ J + 1 < l3.length ∧ J < l3.length ∧ 0 < l3.length ∧ 0 ≤ J ∧ l0.length ≤ 1000 from ⟨⟨by omega, by omega⟩, by omega, by omega, by omega, by omega, by omega, by omega, by omega⟩)
  have HX := Ya (show (-1000 ≤ rd l1 I ∧ rd l1 I ≤ 1000) ∧ -1000 ≤ rd l0 I ∧ rd l0 I ≤ 1000 from ⟨⟨x0, x1⟩, y0, y1⟩)
  have A9 : Aside0 (spec_foOwn.f l0 l1 l2 l3 = some (l0, l1, l2, l3)) := ⟨by
   have hl : ∀ l : List Int, l.length ≤ 2000 → spec_l1Own.f l = some l := fun l hl => by
    unfold spec_l1Own.f
    simp only [Option.bind_some, List.nil_append, List.length_nil, Nat.zero_add]
    rw [if_pos (by omega)]
   unfold spec_foOwn.f
   rw [hl l0 (by omega), hl l1 (by omega), hl l3 (by omega)]
   simp only [Option.bind_some, List.nil_append, List.length_nil, Nat.zero_add]
   rw [if_pos (by omega)]⟩
  obtain ⟨aj, f0, az⟩ := Kd.at_int ao I (by omega) (by omega)
  obtain ⟨ak, f2, al⟩ := Kd.at_bool ap I (by omega) (by omega)
  subst f0 f2
  have HX0 := Ya az
  have HX2 := Ya al
  have HXJ := Ya hx3'
  have k1 : wrap64 ((l0.length : Int) - 1) = (l0.length : Int) - 1 := by unfold wrap64; omega
  have k2 : wrap64 (J + 1) = J + 1 := by unfold wrap64; omega
  have k1' : IntKind.i64.wrap ((l0.length : Int) - 1) = (l0.length : Int) - 1 := (i64_w _).trans k1
  have k2' : IntKind.i64.wrap (J + 1) = J + 1 := (i64_w _).trans k2
  have k3 : wrap64 ((l0.length : Int) - 1 - J) = I := by rw [← hI]; unfold wrap64; omega
  have k3' : IntKind.i64.wrap ((l0.length : Int) - 1 - J) = I := (i64_w _).trans k3
  have b1 : (J == (l0.length : Int)) = false := beq_eq_false_iff_ne.mpr (by omega)
  have b2 : (0 ≤ I) = True := eq_true (by omega)
  have b3 : (I < (l2.length : Int)) = True := eq_true (by omega)
  have b4 : (I < (l1.length : Int)) = True := eq_true (by omega)
  have b5 : (I < (l0.length : Int)) = True := eq_true (by omega)
  have b6 : (0 ≤ J) = True := eq_true (by omega)
  have b7 : (J < (l3.length : Int)) = True := eq_true (by omega)
  have b8 : (J + 1 < (l3.length : Int)) = True := eq_true (by omega)
  have b9 : (0 ≤ J + 1) = True := eq_true (by omega)
  have HJ := Ya hJ
  obtain ⟨X, hX⟩ : ∃ X, (if rdOf false l2 I = true then rd l1 I + 1 else rd l1 I - 1) = X := ⟨_, rfl⟩
  rw [hX] at hs
  have HH := Ya hs
  have HXX := Ya hX
  have HIE := Ya hI
  clear ao au ap aq af ae ag ah hp hj hx3' az al hs hX hJ hI j0 j1 m0 e1 e2 e3 x0 x1 y0 y1
  go_enter Tryz.func57, Tryz.ntmps57
  go_upto_region 1 with (first | ((with_reducible refine gate_dst (N := 1) rfl ?_); refine Yx 1 #[.slice (some aj) l0.length c0, .slice A1 l1.length c1, .slice (some ak) l2.length c2, .slice (some ai) l3.length c3] 27 ?_; intro ac hg w1 hbox hb; have n0_ := Yh hb; have n1_ := Ya hbox; have aL := Ya (by rw [hg]; exact Z7 Q0 : w.heap.size ≤ ac); clear HB; have HB := n0_; have BK1 := n1_; clear n0_ n1_; clear hb hbox hg) | ((with_reducible refine gate_dst (N := 2) rfl ?_); refine Yx 2 YN4 27 ?_; intro ad hg w2 hbox hb; have n0_ := Yh hb; have n1_ := Ya hbox; have n2_ := Ya (Z25 BK1.1 hb); have ar := Ya (by rw [hg]; exact Z7 Q0 : w.heap.size ≤ ad); have aw := Ya (by rw [hg]; exact Nat.ne_of_lt (blk_lt BK1.1) : ac ≠ ad); clear HB BK1; have HB := n0_; have BK2 := n1_; have BK1 := n2_; clear n0_ n1_ n2_; clear hb hbox hg))
  have ha0 := (Z20 BK1.1 0).trans rfl
  have ha1 := (Z20 BK1.1 1).trans rfl
  have ha2 := (Z20 BK1.1 2).trans rfl
  have ha3 := (Z20 BK1.1 3).trans rfl
  have hx := (HB.1.cell (World.block_lt_of_cell? w _ HXJ.1)).trans HXJ.1
  go_upto_region 6 with (first | ((with_reducible refine gate_callee (f := 84) rfl ?_); refine Yz 20 Tryz.func84 #[.agg #[.slice (some aj) l0.length c0, .slice A1 l1.length c1, .slice (some ak) l2.length c2, .slice (some ai) l3.length c3]] ?_ (hargs := Q19); (with_reducible refine (spec_foOwn.calls _ _ l0 _ _ l1 _ _ l2 _ _ l3 l0 l1 l2 l3 _ ?s1 ?s2 ?s3 ?s4 ?s5 ?s6 ?s7 ?s8 A9.1).mono ?_); (case s1 => exact Q68); (case s2 => exact aH.1); (case s3 => exact (by repeat (first | exact (Z19 aE.1 HB.1) | (with_reducible refine Z16 ?_ _) | (with_reducible refine Z17 ?_ _) | (with_reducible refine Z18 ?_)))); (case s4 => exact aI.1); (case s5 => exact (by repeat (first | exact (Z19 aF.1 HB.1) | (with_reducible refine Z16 ?_ _) | (with_reducible refine Z17 ?_ _) | (with_reducible refine Z18 ?_)))); (case s6 => exact aJ.1); (case s7 => exact (by repeat (first | exact (Z19 aG.1 HB.1) | (with_reducible refine Z16 ?_ _) | (with_reducible refine Z17 ?_ _) | (with_reducible refine Z18 ?_)))); (case s8 => exact aK.1); rintro e w5 ⟨v0, v1, v2, v3, rfl, aA, aB, aC, aD, hb⟩; refine ⟨_, rfl, ?_⟩; obtain ⟨g0, k0, g1, k1, g2, k2, g3, k3, rfl, rfl, rfl, rfl, hF⟩ := FoR.of (Kd.R_lower aA (Z7 Q0)) (Kd.R_lower aB (Z7 Q0)) (Kd.R_lower aC (Z7 Q0)) (Kd.R_lower aD (Z7 Q0)) Q22 Q22 Q22 Q22; have HF := Ya hF; replace BK1 := Ya (Z25 (Yk BK1.1) hb); replace BK2 := Ya (Z25 (Yk BK2.1) hb); replace HB := Yh hb; clear aA aB aC aD hb hF) | ((with_reducible refine gate_dst (N := 6) rfl ?_); refine Yx 6 YN4 27 ?_; intro ab hg w6 hbox hb; have n0_ := Yh hb; have n1_ := Ya hbox; have n2_ := Ya (Z25 (Yk BK1.1) hb); have n3_ := Ya (Z25 (Yk BK2.1) hb); have n4_ := Ya (FoR.below (by (with_reducible repeat (first | apply FoR.drewN | apply FoR.drew)); exact HF.1) hb); have aM := Ya (by rw [hg]; exact Z7 Q0 : w.heap.size ≤ ab); have ax := Ya (by rw [hg]; exact Nat.ne_of_lt (blk_lt (Yk BK1.1)) : ac ≠ ab); have ay := Ya (by rw [hg]; exact Nat.ne_of_lt (blk_lt (Yk BK2.1)) : ad ≠ ab); clear HB BK1 BK2 HF; have HB := n0_; have aa := n1_; have BK1 := n2_; have BK2 := n3_; have HF := n4_; clear n0_ n1_ n2_ n3_ n4_; have hd0 := (Z20 aa.1 0).trans rfl; have hd1 := (Z20 aa.1 1).trans rfl; have hd2 := (Z20 aa.1 2).trans rfl; have hd3 := (Z20 aa.1 3).trans rfl; have hf0 := Z21 aa.1 0; have hf1 := Z21 aa.1 1; have hf2 := Z21 aa.1 2; have hf3 := Z21 aa.1 3; clear hb hbox hg))
  replace BK1 := Ya ((set4_far w6 ab (.slice (some ⟨g0, 0, none⟩) l0.length k0) (.slice (some ⟨g1, 0, none⟩) l1.length k1) (.slice (some ⟨g2, 0, none⟩) l2.length k2) (.slice (some ⟨g3, 0, none⟩) l3.length k3) ac ax.1).trans BK1.1)
  replace BK2 := Ya ((set4_far w6 ab (.slice (some ⟨g0, 0, none⟩) l0.length k0) (.slice (some ⟨g1, 0, none⟩) l1.length k1) (.slice (some ⟨g2, 0, none⟩) l2.length k2) (.slice (some ⟨g3, 0, none⟩) l3.length k3) ad ay.1).trans BK2.1)
  replace HF := Ya (FoR.set4 HF.1 aa.1 (by decide) (by decide) (.slice (some ⟨g0, 0, none⟩) l0.length k0) (.slice (some ⟨g1, 0, none⟩) l1.length k1) (.slice (some ⟨g2, 0, none⟩) l2.length k2) (.slice (some ⟨g3, 0, none⟩) l3.length k3))
  replace aa := Ya (set4_at aa.1 (.slice (some ⟨g0, 0, none⟩) l0.length k0) (.slice (some ⟨g1, 0, none⟩) l1.length k1) (.slice (some ⟨g2, 0, none⟩) l2.length k2) (.slice (some ⟨g3, 0, none⟩) l3.length k3))
  replace HB := Ya (set4_below HB.1 aM.1 (.slice (some ⟨g0, 0, none⟩) l0.length k0) (.slice (some ⟨g1, 0, none⟩) l1.length k1) (.slice (some ⟨g2, 0, none⟩) l2.length k2) (.slice (some ⟨g3, 0, none⟩) l3.length k3))
  clear hd0 hd1 hd2 hd3 hf0 hf1 hf2 hf3
  unfold set4 at BK1 BK2 aa HF HB
  generalize ((((w6.setCell ⟨ab, 0, none⟩ (.slice (some ⟨g0, 0, none⟩) l0.length k0)).setCell ⟨ab, 1, none⟩ (.slice (some ⟨g1, 0, none⟩) l1.length k1)).setCell ⟨ab, 2, none⟩ (.slice (some ⟨g2, 0, none⟩) l2.length k2)).setCell ⟨ab, 3, none⟩ (.slice (some ⟨g3, 0, none⟩) l3.length k3)) = w7 at BK1 BK2 aa HF HB ⊢
  clear ha0 ha1 ha2 ha3 hx
  have af := (Z20 aa.1 0).trans rfl
  have ae := (Z20 aa.1 1).trans rfl
  have ag := (Z20 aa.1 2).trans rfl
  have ah := (Z20 aa.1 3).trans rfl
  have hxp := (FoR.at3 HF.1 0 (by decide) Q22).1
  have hzp : World.frozen? _ ⟨g3, 0, none⟩ = false := (FoR.at3 HF.1 0 (by decide) Q22).2
  rw [show (0 : Int).toNat = 0 from rfl] at hxp
  go_upto_region 8 with fail
  clear hxp hzp af ae ag ah
  replace BK1 := Ya (show (World.setCell w7 ⟨g3, 0, none⟩ (.int .i64 0)).heap[ac]? = _ from blk_far (p := ⟨g3, 0, none⟩) BK1.1 (have n := FoR.apart HF.1 BK1.1 (by decide) (by decide); n.2.2.2) (.int .i64 0))
  replace BK2 := Ya (show (World.setCell w7 ⟨g3, 0, none⟩ (.int .i64 0)).heap[ad]? = _ from blk_far (p := ⟨g3, 0, none⟩) BK2.1 (have n := FoR.apart HF.1 BK2.1 (by decide) (by decide); n.2.2.2) (.int .i64 0))
  replace aa := Ya (show (World.setCell w7 ⟨g3, 0, none⟩ (.int .i64 0)).heap[ab]? = _ from blk_far (p := ⟨g3, 0, none⟩) aa.1 (have n := FoR.apart HF.1 aa.1 (by decide) (by decide); n.2.2.2) (.int .i64 0))
  replace HB := Ya (show Below w.heap.size w (World.setCell w7 ⟨g3, 0, none⟩ (.int .i64 0)) from Z6 HB.1 (FoR.ge HF.1).2.2.2)
  replace HF := Ya (show FoR (World.setCell w7 ⟨g3, 0, none⟩ (.int .i64 0)) w.heap.size g0 k0 g1 k1 g2 k2 g3 k3 l0 l1 l2 (l3.set 0 0) from FoR.put3 HF.1 0 0)
  generalize World.setCell w7 ⟨g3, 0, none⟩ (.int .i64 0) = w8 at BK1 BK2 aa HF HB ⊢
  have ha0 := (Z20 BK1.1 0).trans rfl
  have ha1 := (Z20 BK1.1 1).trans rfl
  have ha2 := (Z20 BK1.1 2).trans rfl
  have ha3 := (Z20 BK1.1 3).trans rfl
  have al := (HB.1.cell (World.block_lt_of_cell? w _ HX2.1)).trans HX2.1
  go_upto_if 32 with fail
  go_cut [] (fun wc => Aside0 (wc.heap[ac]? = some (.cells #[.slice (some aj) l0.length c0, .slice A1 l1.length c1, .slice (some ak) l2.length c2, .slice (some ai) l3.length c3] 27 (0, 0))) ∧ Aside0 (wc.heap[ad]? = some (.cells YN4 27 (0, 0))) ∧ Aside0 (wc.heap[ab]? = some (.cells #[.slice (some ⟨g0, 0, none⟩) l0.length k0, .slice (some ⟨g1, 0, none⟩) l1.length k1, .slice (some ⟨g2, 0, none⟩) l2.length k2, .slice (some ⟨g3, 0, none⟩) l3.length k3] 27 (0, 0))) ∧ Aside0 (FoR wc w.heap.size g0 k0 g1 k1 g2 k2 g3 k3 l0 (l1.set I.toNat X) l2 (l3.set 0 0)) ∧ Aside0 (Below w.heap.size w wc))
  case first =>
   have aQ := (FoR.at1 HF.1 I Q22 Q22).1
   have aR := (FoR.at1 HF.1 I Q22 Q22).2
   have ae := (Z20 aa.1 1).trans rfl
   have n0_ := Ya (show (World.setCell w8 ⟨g1, I.toNat, none⟩ (.int .i64 X)).heap[ac]? = _ from blk_far (p := ⟨g1, I.toNat, none⟩) BK1.1 (have n := FoR.apart HF.1 BK1.1 (by decide) (by decide); n.2.1) (.int .i64 X))
   have n1_ := Ya (show (World.setCell w8 ⟨g1, I.toNat, none⟩ (.int .i64 X)).heap[ad]? = _ from blk_far (p := ⟨g1, I.toNat, none⟩) BK2.1 (have n := FoR.apart HF.1 BK2.1 (by decide) (by decide); n.2.1) (.int .i64 X))
   have n2_ := Ya (show (World.setCell w8 ⟨g1, I.toNat, none⟩ (.int .i64 X)).heap[ab]? = _ from blk_far (p := ⟨g1, I.toNat, none⟩) aa.1 (have n := FoR.apart HF.1 aa.1 (by decide) (by decide); n.2.1) (.int .i64 X))
   have n3_ := Ya (show FoR (World.setCell w8 ⟨g1, I.toNat, none⟩ (.int .i64 X)) w.heap.size g0 k0 g1 k1 g2 k2 g3 k3 l0 (l1.set I.toNat X) l2 (l3.set 0 0) from FoR.put1 HF.1 I X)
   have n4_ := Ya (show Below w.heap.size w (World.setCell w8 ⟨g1, I.toNat, none⟩ (.int .i64 X)) from Z6 HB.1 (FoR.ge HF.1).2.1)
   cases hU : rdOf false l2 I
   ·have hv : rd l1 I - 1 = X := by have := HXX.1; rw [hU] at this; simpa using this
    have hw : wrap64 (rd l1 I - 1) = X := by rw [← hv]; have := HX.1; unfold wrap64; omega
    have hw' : IntKind.i64.wrap (rd l1 I - 1) = X := (i64_w _).trans hw
    clear hv
    rw [hU] at al
    go_wp2
    go_meet
    case rel => exact ⟨n0_, n1_, n2_, n3_, n4_⟩
   ·have hv : rd l1 I + 1 = X := by have := HXX.1; rw [hU] at this; simpa using this
    have hw : wrap64 (rd l1 I + 1) = X := by rw [← hv]; have := HX.1; unfold wrap64; omega
    have hw' : IntKind.i64.wrap (rd l1 I + 1) = X := (i64_w _).trans hw
    clear hv
    rw [hU] at al
    go_wp2
    go_meet
    case rel => exact ⟨n0_, n1_, n2_, n3_, n4_⟩
  case rest =>
   clear al ha0 ha1 ha2 ha3 BK1 BK2 aa HF HB
   obtain ⟨BK1, BK2, aa, HF, HB⟩ := hcut
   have HRD := Ya (show rd (l1.set I.toNat X) I = X from by
    have := HL.1
    unfold rd
    rw [List.getD_eq_getElem?_getD, List.getElem?_set_self (by omega)]; rfl)
   go_upto_region 11 with fail
   go_cut [66] (fun aN wc => ∃ t : Bool, aN = .bool t ∧ Aside0 (t = decide (X = 0 ∨ X = rd l0 I - 1)) ∧ Aside0 (wc.heap[ac]? = some (.cells #[.slice (some aj) l0.length c0, .slice A1 l1.length c1, .slice (some ak) l2.length c2, .slice (some ai) l3.length c3] 27 (0, 0))) ∧ Aside0 (wc.heap[ad]? = some (.cells YN4 27 (0, 0))) ∧ Aside0 (wc.heap[ab]? = some (.cells #[.slice (some ⟨g0, 0, none⟩) l0.length k0, .slice (some ⟨g1, 0, none⟩) l1.length k1, .slice (some ⟨g2, 0, none⟩) l2.length k2, .slice (some ⟨g3, 0, none⟩) l3.length k3] 27 (0, 0))) ∧ Aside0 (FoR wc w.heap.size g0 k0 g1 k1 g2 k2 g3 k3 l0 (l1.set I.toNat X) l2 (l3.set 0 0)) ∧ Aside0 (Below w.heap.size w wc))
   case first =>
    have hw : wrap64 (rd l0 I - 1) = rd l0 I - 1 := by have := HX.1; unfold wrap64; omega
    have hw' : IntKind.i64.wrap (rd l0 I - 1) = rd l0 I - 1 := (i64_w _).trans hw
    by_cases z : X = 0
    ·have zb : (X == 0) = true := beq_iff_eq.mpr z
     have HT := Ya (Z35 (p := X = 0 ∨ X = rd l0 I - 1) (Or.inl z))
     clear z
     go_wp2_with fail
     replace BK1 := Ya (Z23 BK1.1)
     replace BK2 := Ya (Z23 BK2.1)
     replace aa := Ya (Z23 aa.1)
     replace HF := Ya (FoR.drew HF.1)
     replace HB := Ya (Z4 HB.1)
     refine start_ (n := 20) (S := fun w' => w'.cell? ⟨ab, 1, none⟩ = some (.slice (some ⟨g1, 0, none⟩) l1.length k1) ∧ w'.cell? ⟨ac, 0, none⟩ = some (.slice (some aj) l0.length c0) ∧ w'.cell? ⟨g1, I.toNat, none⟩ = some (.int .i64 X) ∧ w'.cell? (aj.add I.toNat) = some (.int .i64 (rd l0 I))) (ds := []) (YA 20 0) (by kernel_rfl) rfl rfl ⟨(Z20 aa.1 1).trans rfl, (Z20 BK1.1 0).trans rfl, ((FoR.at1 HF.1 I Q22 Q46).1.trans (by rw [HRD.1])), ((HB.1.cell (World.block_lt_of_cell? w _ HX0.1)).trans HX0.1)⟩ (fun hHeld => ?_)
     generalize World.drew _ = w9 at BK1 BK2 aa HF HB hHeld ⊢
     refine Yq 0 (some 47) (YA 20 1) rfl ?_
     refine Yq 2 (some 49) (YA 20 5) rfl ?_
     refine Ys 1 (some 48) (YA 20 7) rfl hHeld Q8 ?_
     refine Yq 3 (some 50) (YA 20 15) rfl ?_
     refine Ys 4 (some 51) (YA 20 31) rfl hHeld Q8 ?_
     refine Yq 5 (some 52) (YA 20 63) rfl ?_
     refine Yq 6 (some 53) (YA 20 127) rfl ?_
     refine Yu 7 (some 54) (YA 20 255) rfl ?_
     refine Yu 8 (some 55) (YA 20 511) rfl ?_
     refine Yu 9 (some 56) (YA 20 1023) rfl ?_
     refine Yu 10 (some 57) (YA 20 2047) rfl ?_
     refine Yu 11 (some 58) (YA 20 4095) rfl ?_
     refine Yu 12 (some 59) (YA 20 8191) rfl ?_
     refine Yu 13 (some 60) (YA 20 16383) rfl ?_
     refine Yu 14 (some 61) (YA 20 32767) rfl ?_
     refine Yu 15 (some 62) (YA 20 65535) rfl ?_
     refine Yu 16 (some 63) (YA 20 131071) rfl ?_
     refine Yu 17 (some 64) (YA 20 262143) rfl ?_
     refine Yu 18 (some 65) (YA 20 524287) rfl ?_
     refine Yq 19 (some 66) (YA 20 1048575) rfl ?_
     refine done_ (by kernel_rfl) ?_
     go_step
     go_step
     go_meet
     case rel => exact ⟨true, rfl, ⟨HT.1.symm⟩, BK1, BK2, aa, HF, HB⟩
    ·have zb : (X == 0) = false := beq_eq_false_iff_ne.mpr z
     have HT := Ya (show (X == rd l0 I - 1) = decide (X = 0 ∨ X = rd l0 I - 1) from by rw [Bool.eq_iff_iff]; simp [z])
     clear z
     go_wp2_with fail
     replace BK1 := Ya (Z23 BK1.1)
     replace BK2 := Ya (Z23 BK2.1)
     replace aa := Ya (Z23 aa.1)
     replace HF := Ya (FoR.drew HF.1)
     replace HB := Ya (Z4 HB.1)
     refine start_ (n := 20) (S := fun w' => w'.cell? ⟨ab, 1, none⟩ = some (.slice (some ⟨g1, 0, none⟩) l1.length k1) ∧ w'.cell? ⟨ac, 0, none⟩ = some (.slice (some aj) l0.length c0) ∧ w'.cell? ⟨g1, I.toNat, none⟩ = some (.int .i64 X) ∧ w'.cell? (aj.add I.toNat) = some (.int .i64 (rd l0 I))) (ds := []) (YA 20 0) (by kernel_rfl) rfl rfl ⟨(Z20 aa.1 1).trans rfl, (Z20 BK1.1 0).trans rfl, ((FoR.at1 HF.1 I Q22 Q46).1.trans (by rw [HRD.1])), ((HB.1.cell (World.block_lt_of_cell? w _ HX0.1)).trans HX0.1)⟩ (fun hHeld => ?_)
     generalize World.drew _ = w9 at BK1 BK2 aa HF HB hHeld ⊢
     refine Yq 0 (some 47) (YA 20 1) rfl ?_
     refine Yq 2 (some 49) (YA 20 5) rfl ?_
     refine Ys 1 (some 48) (YA 20 7) rfl hHeld Q8 ?_
     refine Yq 3 (some 50) (YA 20 15) rfl ?_
     refine Ys 4 (some 51) (YA 20 31) rfl hHeld Q8 ?_
     refine Yq 5 (some 52) (YA 20 63) rfl ?_
     refine Yq 6 (some 53) (YA 20 127) rfl ?_
     refine Yq 7 (some 54) (YA 20 255) rfl ?_
     refine Yq 9 (some 56) (YA 20 767) rfl ?_
     refine Yq 12 (some 59) (YA 20 4863) rfl ?_
     refine Yq 14 (some 61) (YA 20 21247) rfl ?_
     refine Ys 8 (some 55) (YA 20 21503) rfl hHeld Q8 ?_
     refine Yq 10 (some 57) (YA 20 22527) rfl ?_
     refine Ys 11 (some 58) (YA 20 24575) rfl hHeld Q8 ?_
     refine Ys 13 (some 60) (YA 20 32767) rfl hHeld Q8 ?_
     refine Yq 15 (some 62) (YA 20 65535) rfl ?_
     refine Ys 16 (some 63) (YA 20 131071) rfl hHeld Q8 ?_
     refine Yq 17 (some 64) (YA 20 262143) rfl ?_
     refine Yq 18 (some 65) (YA 20 524287) rfl ?_
     refine Yq 19 (some 66) (YA 20 1048575) rfl ?_
     refine done_ (by kernel_rfl) ?_
     go_step
     go_step
     go_meet
     case rel => exact ⟨_, rfl, HT, BK1, BK2, aa, HF, HB⟩
   case rest =>
    clear BK1 BK2 aa HF HB
    obtain ⟨t, rfl, HT, BK1, BK2, aa, HF, HB⟩ := hcut
    cases t
    ·have h := HH.1
     rw [if_neg (fun e => by have h_ := HT.1; rw [Z35 e] at h_; cases h_)] at h
     simp only [Option.some.injEq, Prod.mk.injEq] at h
     obtain ⟨rfl, rfl, rfl, rfl⟩ := h
     have af := (Z20 aa.1 0).trans rfl
     have ae := (Z20 aa.1 1).trans rfl
     have ag := (Z20 aa.1 2).trans rfl
     have ah := (Z20 aa.1 3).trans rfl
     have hd0 := (Z20 BK2.1 0).trans rfl
     have hf0 := Z21 BK2.1 0
     have hd1 := (Z20 BK2.1 1).trans rfl
     have hf1 := Z21 BK2.1 1
     have hd2 := (Z20 BK2.1 2).trans rfl
     have hf2 := Z21 BK2.1 2
     have hd3 := (Z20 BK2.1 3).trans rfl
     have hf3 := Z21 BK2.1 3
     go_wp2
     refine bodyPost_ret (results_ct rfl _ _ ad 27 #[.slice (some ⟨g0, 0, none⟩) l0.length k0, .slice (some ⟨g1, 0, none⟩) l1.length k1, .slice (some ⟨g2, 0, none⟩) l2.length k2, .slice (some ⟨g3, 0, none⟩) l3.length k3] (0, 0) _ rfl (set4_at BK2.1 _ _ _ _) Tryz.underlying27 rfl (by kernel_rfl)) rfl ?_
     obtain ⟨q0, q1, q2, q3⟩ := FoR.back (FoR.set4 HF.1 BK2.1 (by decide) (by decide) (.slice (some ⟨g0, 0, none⟩) l0.length k0) (.slice (some ⟨g1, 0, none⟩) l1.length k1) (.slice (some ⟨g2, 0, none⟩) l2.length k2) (.slice (some ⟨g3, 0, none⟩) l3.length k3))
     simp only [List.length_set] at q0 q1 q2 q3
     exact ⟨.slice (some ⟨g0, 0, none⟩) l0.length k0, .slice (some ⟨g1, 0, none⟩) l1.length k1, .slice (some ⟨g2, 0, none⟩) l2.length k2, .slice (some ⟨g3, 0, none⟩) l3.length k3, by rw [HIE.1]; rfl, q0, q1, q2, q3, set4_below HB.1 ar.1 _ _ _ _⟩
    ·have h := HH.1
     rw [if_pos (Z27 HT.1.symm)] at h
     simp only [Option.some.injEq, Prod.mk.injEq] at h
     obtain ⟨rfl, rfl, rfl, rfl⟩ := h
     go_wp2_with fail
     replace BK1 := Ya (Z23 BK1.1)
     replace BK2 := Ya (Z23 BK2.1)
     replace aa := Ya (Z23 aa.1)
     replace HF := Ya (FoR.drew HF.1)
     replace HB := Ya (Z4 HB.1)
     refine start_ (n := 11) (S := fun w' => w'.cell? ⟨ab, 2, none⟩ = some (.slice (some ⟨g2, 0, none⟩) l2.length k2) ∧ w'.cell? ⟨ac, 2, none⟩ = some (.slice (some ak) l2.length c2) ∧ w'.cell? (ak.add I.toNat) = some (.bool (rdOf false l2 I))) (ds := [10]) (YA 11 0) (by kernel_rfl) rfl rfl ⟨(Z20 aa.1 2).trans rfl, (Z20 BK1.1 2).trans rfl, ((HB.1.cell (World.block_lt_of_cell? w _ HX2.1)).trans HX2.1)⟩ (fun hHeld => ?_)
     generalize World.drew _ = w9 at BK1 BK2 aa HF HB hHeld ⊢
     have hxs := (FoR.at2 HF.1 I Q22 Q22).1
     have hzs := (FoR.at2 HF.1 I Q22 Q22).2
     refine Yq 0 (some 67) (YA 11 1) rfl ?_
     refine Yq 2 (some 69) (YA 11 5) rfl ?_
     refine Yq 3 (some 70) (YA 11 13) rfl ?_
     refine Yq 5 (some 72) (YA 11 45) rfl ?_
     refine Ys 1 (some 68) (YA 11 47) rfl hHeld Q21 ?_
     refine Ys 4 (some 71) (YA 11 63) rfl hHeld Q21 ?_
     refine Yq 6 (some 73) (YA 11 127) rfl ?_
     refine Ys 7 (some 74) (YA 11 255) rfl hHeld Q21 ?_
     refine Yq 8 (some 75) (YA 11 511) rfl ?_
     refine Yq 9 (some 76) (YA 11 1023) rfl ?_
     refine last_ (i := 10) (N := none) (YA 11 2047) rfl rfl (by kernel_rfl) (by decide) (fun K hK => ?_)
     refine YNc ?_
     refine hK.out _ _ ?_
     clear hK K
     refine done_ (by kernel_rfl) ?_
     clear hxs hzs
     replace BK1 := Ya (show (World.setCell w9 ⟨g2, I.toNat, none⟩ (.bool (!rdOf false l2 I))).heap[ac]? = _ from blk_far (p := ⟨g2, I.toNat, none⟩) BK1.1 (have n := FoR.apart HF.1 BK1.1 (by decide) (by decide); n.2.2.1) (.bool (!rdOf false l2 I)))
     replace BK2 := Ya (show (World.setCell w9 ⟨g2, I.toNat, none⟩ (.bool (!rdOf false l2 I))).heap[ad]? = _ from blk_far (p := ⟨g2, I.toNat, none⟩) BK2.1 (have n := FoR.apart HF.1 BK2.1 (by decide) (by decide); n.2.2.1) (.bool (!rdOf false l2 I)))
     replace aa := Ya (show (World.setCell w9 ⟨g2, I.toNat, none⟩ (.bool (!rdOf false l2 I))).heap[ab]? = _ from blk_far (p := ⟨g2, I.toNat, none⟩) aa.1 (have n := FoR.apart HF.1 aa.1 (by decide) (by decide); n.2.2.1) (.bool (!rdOf false l2 I)))
     replace HB := Ya (show Below w.heap.size w (World.setCell w9 ⟨g2, I.toNat, none⟩ (.bool (!rdOf false l2 I))) from Z6 HB.1 (FoR.ge HF.1).2.2.1)
     replace HF := Ya (show FoR (World.setCell w9 ⟨g2, I.toNat, none⟩ (.bool (!rdOf false l2 I))) w.heap.size g0 k0 g1 k1 g2 k2 g3 k3 l0 (l1.set I.toNat X) (l2.set I.toNat (!rdOf false l2 I)) (l3.set 0 0) from FoR.put2 HF.1 I _)
     generalize World.setCell w9 ⟨g2, I.toNat, none⟩ (.bool (!rdOf false l2 I)) = aS at BK1 BK2 aa HF HB ⊢
     go_wp2_with fail
     replace BK1 := Ya (Z23 BK1.1)
     replace BK2 := Ya (Z23 BK2.1)
     replace aa := Ya (Z23 aa.1)
     replace HF := Ya (FoR.drew HF.1)
     replace HB := Ya (Z4 HB.1)
     refine start_ (n := 11) (S := fun w' => w'.cell? ⟨ab, 3, none⟩ = some (.slice (some ⟨g3, 0, none⟩) l3.length k3) ∧ w'.cell? ⟨g3, (J + 1).toNat, none⟩ = some (.int .i64 (rd (l3.set 0 0) (J + 1)))) (ds := [10]) (YA 11 0) (by kernel_rfl) rfl rfl ⟨(Z20 aa.1 3).trans rfl, (FoR.at3 HF.1 (J + 1) Q22 Q46).1⟩ (fun hHeld => ?_)
     generalize World.drew _ = am at BK1 BK2 aa HF HB hHeld ⊢
     have hxs := (FoR.at3 HF.1 J Q22 Q46).1
     have hzs := (FoR.at3 HF.1 J Q22 Q46).2
     refine Yq 0 (some 77) (YA 11 1) rfl ?_
     refine Yq 2 (some 79) (YA 11 5) rfl ?_
     refine Yq 3 (some 80) (YA 11 13) rfl ?_
     refine Yq 5 (some 82) (YA 11 45) rfl ?_
     refine Yq 6 (some 83) (YA 11 109) rfl ?_
     refine Ys 1 (some 78) (YA 11 111) rfl hHeld Q26 ?_
     refine Ys 4 (some 81) (YA 11 127) rfl hHeld Q26 ?_
     refine Yq 7 (some 84) (YA 11 255) rfl ?_
     refine Ys 8 (some 85) (YA 11 511) rfl hHeld Q26 ?_
     refine Yq 9 (some 86) (YA 11 1023) rfl ?_
     refine last_ (i := 10) (N := none) (YA 11 2047) rfl rfl (by kernel_rfl) (by decide) (fun K hK => ?_)
     refine YNc ?_
     refine hK.out _ _ ?_
     clear hK K
     refine done_ (by kernel_rfl) ?_
     clear hxs hzs
     replace BK1 := Ya (show (World.setCell am ⟨g3, J.toNat, none⟩ (.int .i64 (rd (l3.set 0 0) (J + 1)))).heap[ac]? = _ from blk_far (p := ⟨g3, J.toNat, none⟩) BK1.1 (have n := FoR.apart HF.1 BK1.1 (by decide) (by decide); n.2.2.2) (.int .i64 (rd (l3.set 0 0) (J + 1))))
     replace BK2 := Ya (show (World.setCell am ⟨g3, J.toNat, none⟩ (.int .i64 (rd (l3.set 0 0) (J + 1)))).heap[ad]? = _ from blk_far (p := ⟨g3, J.toNat, none⟩) BK2.1 (have n := FoR.apart HF.1 BK2.1 (by decide) (by decide); n.2.2.2) (.int .i64 (rd (l3.set 0 0) (J + 1))))
     replace aa := Ya (show (World.setCell am ⟨g3, J.toNat, none⟩ (.int .i64 (rd (l3.set 0 0) (J + 1)))).heap[ab]? = _ from blk_far (p := ⟨g3, J.toNat, none⟩) aa.1 (have n := FoR.apart HF.1 aa.1 (by decide) (by decide); n.2.2.2) (.int .i64 (rd (l3.set 0 0) (J + 1))))
     replace HB := Ya (show Below w.heap.size w (World.setCell am ⟨g3, J.toNat, none⟩ (.int .i64 (rd (l3.set 0 0) (J + 1)))) from Z6 HB.1 (FoR.ge HF.1).2.2.2)
     replace HF := Ya (show FoR (World.setCell am ⟨g3, J.toNat, none⟩ (.int .i64 (rd (l3.set 0 0) (J + 1)))) w.heap.size g0 k0 g1 k1 g2 k2 g3 k3 l0 (l1.set I.toNat X) (l2.set I.toNat (!rdOf false l2 I)) ((l3.set 0 0).set J.toNat (rd (l3.set 0 0) (J + 1))) from FoR.put3 HF.1 J _)
     generalize World.setCell am ⟨g3, J.toNat, none⟩ (.int .i64 (rd (l3.set 0 0) (J + 1))) = an at BK1 BK2 aa HF HB ⊢
     have af := (Z20 aa.1 0).trans rfl
     have ae := (Z20 aa.1 1).trans rfl
     have ag := (Z20 aa.1 2).trans rfl
     have ah := (Z20 aa.1 3).trans rfl
     have hxs := (FoR.at3 HF.1 (J + 1) Q22 Q56).1
     have hzs := (FoR.at3 HF.1 (J + 1) Q22 Q56).2
     go_upto_region 15 with fail
     clear af ae ag ah hxs hzs
     replace BK1 := Ya (show (World.setCell an ⟨g3, (J + 1).toNat, none⟩ (.int .i64 (J + 1))).heap[ac]? = _ from blk_far (p := ⟨g3, (J + 1).toNat, none⟩) BK1.1 (have n := FoR.apart HF.1 BK1.1 (by decide) (by decide); n.2.2.2) (.int .i64 (J + 1)))
     replace BK2 := Ya (show (World.setCell an ⟨g3, (J + 1).toNat, none⟩ (.int .i64 (J + 1))).heap[ad]? = _ from blk_far (p := ⟨g3, (J + 1).toNat, none⟩) BK2.1 (have n := FoR.apart HF.1 BK2.1 (by decide) (by decide); n.2.2.2) (.int .i64 (J + 1)))
     replace aa := Ya (show (World.setCell an ⟨g3, (J + 1).toNat, none⟩ (.int .i64 (J + 1))).heap[ab]? = _ from blk_far (p := ⟨g3, (J + 1).toNat, none⟩) aa.1 (have n := FoR.apart HF.1 aa.1 (by decide) (by decide); n.2.2.2) (.int .i64 (J + 1)))
     replace HB := Ya (show Below w.heap.size w (World.setCell an ⟨g3, (J + 1).toNat, none⟩ (.int .i64 (J + 1))) from Z6 HB.1 (FoR.ge HF.1).2.2.2)
     replace HF := Ya (show FoR (World.setCell an ⟨g3, (J + 1).toNat, none⟩ (.int .i64 (J + 1))) w.heap.size g0 k0 g1 k1 g2 k2 g3 k3 l0 (l1.set I.toNat X) (l2.set I.toNat (!rdOf false l2 I)) (((l3.set 0 0).set J.toNat (rd (l3.set 0 0) (J + 1))).set (J + 1).toNat (J + 1)) from FoR.put3 HF.1 (J + 1) _)
     generalize World.setCell an ⟨g3, (J + 1).toNat, none⟩ (.int .i64 (J + 1)) = aT at BK1 BK2 aa HF HB ⊢
     have af := (Z20 aa.1 0).trans rfl
     have ae := (Z20 aa.1 1).trans rfl
     have ag := (Z20 aa.1 2).trans rfl
     have ah := (Z20 aa.1 3).trans rfl
     have hd0 := (Z20 BK2.1 0).trans rfl
     have hf0 := Z21 BK2.1 0
     have hd1 := (Z20 BK2.1 1).trans rfl
     have hf1 := Z21 BK2.1 1
     have hd2 := (Z20 BK2.1 2).trans rfl
     have hf2 := Z21 BK2.1 2
     have hd3 := (Z20 BK2.1 3).trans rfl
     have hf3 := Z21 BK2.1 3
     go_wp2
     refine bodyPost_ret (results_ct rfl _ _ ad 27 #[.slice (some ⟨g0, 0, none⟩) l0.length k0, .slice (some ⟨g1, 0, none⟩) l1.length k1, .slice (some ⟨g2, 0, none⟩) l2.length k2, .slice (some ⟨g3, 0, none⟩) l3.length k3] (0, 0) _ rfl (set4_at BK2.1 _ _ _ _) Tryz.underlying27 rfl (by kernel_rfl)) rfl ?_
     obtain ⟨q0, q1, q2, q3⟩ := FoR.back (FoR.set4 HF.1 BK2.1 (by decide) (by decide) (.slice (some ⟨g0, 0, none⟩) l0.length k0) (.slice (some ⟨g1, 0, none⟩) l1.length k1) (.slice (some ⟨g2, 0, none⟩) l2.length k2) (.slice (some ⟨g3, 0, none⟩) l3.length k3))
     simp only [List.length_set] at q0 q1 q2 q3
     exact ⟨.slice (some ⟨g0, 0, none⟩) l0.length k0, .slice (some ⟨g1, 0, none⟩) l1.length k1, .slice (some ⟨g2, 0, none⟩) l2.length k2, .slice (some ⟨g3, 0, none⟩) l3.length k3, by rw [HIE.1]; rfl, q0, q1, q2, q3, set4_below HB.1 ar.1 _ _ _ _⟩
mutual
def spec_moApply.l0 : Nat → List Int → List Int → Int → Int → Int → Int → Option (List Int)
 | 0, _, _, _, _, _, _ => none
 | k + 1, x0, x5, x6, ab, aa, ac => if x6 < aa then (if 0 ≤ (wrap64 ((wrap64 (aa - 1)) - x6)) then (if (wrap64 ((wrap64 (aa - 1)) - x6)) < (x0.length : Int) then (if 0 ≤ x6 then (if x6 < (x5.length : Int) then (spec_moApply.l0 k x0 (x5.set (x6 : Int).toNat (rd x0 (wrap64 ((wrap64 (aa - 1)) - x6)))) (wrap64 (x6 + 1)) ab aa ac) else (none)) else (none)) else (none)) else (none)) else (some x5)
def spec_moApply.l1 : Nat → List Int → List Int → Int → Int → Int → Int → Option (List Int)
 | 0, _, _, _, _, _, _ => none
 | k + 1, x0, x5, x7, ab, aa, ac => if x7 < aa then (if aa = 0 then (none) else (if 0 ≤ (Int.tmod (wrap64 (x7 + 1)) aa) then (if (Int.tmod (wrap64 (x7 + 1)) aa) < (x0.length : Int) then (if 0 ≤ x7 then (if x7 < (x5.length : Int) then (spec_moApply.l1 k x0 (x5.set (x7 : Int).toNat (rd x0 (Int.tmod (wrap64 (x7 + 1)) aa))) (wrap64 (x7 + 1)) ab aa ac) else (none)) else (none)) else (none)) else (none))) else (some x5)
end
def spec_moApply.f (k : Nat) (l0 : List Int) (ad : Int) (aa : Int) (ab : Int) : Option (List Int) := (spec_l1Own.f l0).bind fun ac => (if ad = 0 then (if 0 ≤ ab then (if ab < (l0.length : Int) then (if 0 ≤ aa then (if aa < (ac.length : Int) then (if aa < (l0.length : Int) then (if ab < (ac.length : Int) then (some ((ac.set (aa : Int).toNat (rd l0 ab)).set (ab : Int).toNat (rd l0 aa))) else (none)) else (none)) else (none)) else (none)) else (none)) else (none)) else (if ad = 1 then (spec_moApply.l0 k l0 ac 0 ad aa ab) else (spec_moApply.l1 k l0 ac 0 ad aa ab)))
def spec_moApply.T8 : Bool × List (List Nat × List Nat) := (true, [([], []), ([], []), ([1], [1]), ([], []), ([], []), ([4], [4]), ([3, 5], [3, 5]), ([6], [6]), ([0, 2, 0, 1, 2, 3, 4, 5, 6, 7], [0, 2]), ([8, 7, 0, 1, 2, 3, 4, 5, 6, 7], [7, 8])])
def spec_moApply.B8 : List Nat := [0, 0, 2, 0, 0, 16, 56, 120, 255, 511]
theorem spec_moApply.tab8 : rtab .any (opsOf Tryz.f58 8) = spec_moApply.T8 := by kernel_rfl
theorem spec_moApply.bits8 : waitsOk spec_moApply.T8.2 spec_moApply.B8 = true := by kernel_rfl
def spec_moApply.T9 : Bool × List (List Nat × List Nat) := (true, [([], []), ([], []), ([1], [1]), ([], []), ([], []), ([4], [4]), ([3, 5], [3, 5]), ([6], [6]), ([0, 2, 0, 1, 2, 3, 4, 5, 6, 7], [0, 2]), ([8, 7, 0, 1, 2, 3, 4, 5, 6, 7], [7, 8])])
def spec_moApply.B9 : List Nat := [0, 0, 2, 0, 0, 16, 56, 120, 255, 511]
theorem spec_moApply.tab9 : rtab .any (opsOf Tryz.f58 9) = spec_moApply.T9 := by kernel_rfl
theorem spec_moApply.bits9 : waitsOk spec_moApply.T9.2 spec_moApply.B9 = true := by kernel_rfl
theorem spec_moApply.calls (k : Nat) (A0 : Option Addr) (c0 : Nat) (l0 : List Int) (ad : Int) (aa : Int) (ab : Int) (r : List Int) (w : World) (ct : Kd.C (Kd.int .i64) w A0 l0.length l0) (cu : l0.length ≤ c0) (h : spec_moApply.f k l0 ad aa ab = some r) :
  Calls Tryz.prog 58 #[.slice A0 l0.length c0, .agg #[.int .i64 ad, .int .i64 aa, .int .i64 ab]] w fun e w' => ∃ v0_ : Value, e = .returned (v0_) ∧ Kd.R (Kd.int .i64) 3 w' w.heap.size (fun _ => True) v0_ r ∧ Below w.heap.size w w' := by
 have hu77 := Tryz.underlying77
 have HR0 := Ya ct
 have b3 := Ya cu
 clear ct cu
 have HB := Ya (Below.refl w.heap.size w)
 have H : ((spec_l1Own.f l0).bind fun ai => (if ad = 0 then (if 0 ≤ ab then (if ab < (l0.length : Int) then (if 0 ≤ aa then (if aa < (ai.length : Int) then (if aa < (l0.length : Int) then (if ab < (ai.length : Int) then (some ((ai.set (aa : Int).toNat (rd l0 ab)).set (ab : Int).toNat (rd l0 aa))) else (none)) else (none)) else (none)) else (none)) else (none)) else (none)) else (if ad = 1 then (spec_moApply.l0 k l0 ai 0 ad aa ab) else (spec_moApply.l1 k l0 ai 0 ad aa ab)))) = some r := h
 clear h
 replace H := YB H
 obtain ⟨ai, A3, H⟩ := H
 by_cases c4 : ad = 0
 ·rw [if_pos c4] at H
  have b4 : (ad == 0) = true := beq_iff_eq.mpr c4
  have b5 : (ad != 0) = false := bne_eq_false_iff_eq.mpr c4
  clear c4
  by_cases c5 : 0 ≤ ab
  ·rw [if_pos c5] at H
   have cL := Z35 c5
   clear c5
   by_cases c6 : ab < (l0.length : Int)
   ·rw [if_pos c6] at H
    have cM := Z35 c6
    clear c6
    by_cases c7 : 0 ≤ aa
    ·rw [if_pos c7] at H
     have cN := Z35 c7
     clear c7
     by_cases c8 : aa < (ai.length : Int)
     ·rw [if_pos c8] at H
      have cO := Z35 c8
      clear c8
      obtain ⟨aQ, ap⟩ : ∃ y_ : List Int, y_ = (ai.set (aa : Int).toNat (rd l0 ab)) := ⟨_, rfl⟩
      replace H : (if aa < (l0.length : Int) then (if ab < (ai.length : Int) then (some (aQ.set (ab : Int).toNat (rd l0 aa))) else (none)) else (none)) = some r := by first | (rw [ap]; with_reducible exact H) | (have H2_ := (Option.bind_some _ _).symm.trans H; rw [ap]; with_reducible exact H2_) | (have H2_ := (Option.bind_some _ _).symm.trans H; with_reducible exact H2_) | with_reducible exact H | (rw [ap]; exact H) | exact H
      have a6 := Ya ap
      clear ap
      by_cases c10 : aa < (l0.length : Int)
      ·rw [if_pos c10] at H
       have cv := Z35 c10
       clear c10
       by_cases bj : ab < (ai.length : Int)
       ·rw [if_pos bj] at H
        have cw := Z35 bj
        clear bj
        obtain ⟨b6, aq⟩ : ∃ y_ : List Int, y_ = (aQ.set (ab : Int).toNat (rd l0 aa)) := ⟨_, rfl⟩
        replace H : (some b6) = some r := by first | (rw [aq]; with_reducible exact H) | (have H2_ := (Option.bind_some _ _).symm.trans H; rw [aq]; with_reducible exact H2_) | (have H2_ := (Option.bind_some _ _).symm.trans H; with_reducible exact H2_) | with_reducible exact H | (rw [aq]; exact H) | exact H
        have a7 := Ya aq
        clear aq
        obtain rfl := Option.some.inj H
        go_enter Tryz.func58, Tryz.ntmps58
        try go_wp2_with (first | ((with_reducible refine gate_dst (N := 3) rfl ?_); refine Yx 3 #[.int .i64 ad, .int .i64 aa, .int .i64 ab] 77 ?_; intro ac hg cR hbox hb; have BK136 := Ya hbox; have aN := Yg hg; replace HB := Yh hb; clear hb hbox hg) | ((with_reducible refine gate_callee (f := 85) rfl ?_); refine Yz 9 Tryz.func85 #[.slice A0 l0.length c0] ?_; (with_reducible refine (spec_l1Own.calls _ _ l0 ai _ (Yc (Z19 HR0.1 HB.1)) b3.1 A3.1).mono ?_); rintro e bk ⟨az, rfl, aO, hb⟩; refine ⟨_, rfl, ?_⟩; have ae := Yl aO; replace BK136 := Yb BK136 hb; replace HB := Yh hb; (try clear hb aO); have bl : bk.cell? ⟨ac, 0, none⟩ = some (.int .i64 ad) := (Z20 BK136.1 0).trans rfl; have bm : bk.cell? ⟨ac, 1, none⟩ = some (.int .i64 aa) := (Z20 BK136.1 1).trans rfl; have bn : bk.cell? ⟨ac, 2, none⟩ = some (.int .i64 ab) := (Z20 BK136.1 2).trans rfl; have bo := Z21 BK136.1 0; have bp := Z21 BK136.1 1; have bq := Z21 BK136.1 2))
        replace ae := Ya (Z11 ae.1)
        replace BK136 := Ya (Z23 BK136.1)
        replace HB := Ya (Z4 HB.1)
        have aR : 0 ≤ (ab : Int) := Z27 Q5
        have aS : ab < (l0.length : Int) := Z27 Q5
        obtain ⟨av, b7, aj⟩ := Kd.at_int HR0.1 ab aR aS
        have hw140_0 := aj
        cases b7
        try replace aj := (HB.1.cell (World.block_lt_of_cell? w _ aj)).trans aj
        replace aR := eq_true aR
        replace aS := eq_true aS
        have p9 : 0 ≤ (aa : Int) := Z27 Q5
        have q9 : (aa : Int) < ((ai.length : Int) : Int) := Z27 Q5
        obtain ⟨a8, cP, cx, cy, gl9, cl9, HG9⟩ := Kd.R_form ae.1 (by omega)
        (first | cases cx | (injection cx with ea_ en_ ec_; (first | subst ea_ | (injection ea_ with ea_; subst ea_)); subst ec_; clear en_))
        have GB9 := Ya cy
        have GG9 := Ya HG9
        clear cy gl9 HG9
        obtain ⟨a9, hf9_0⟩ := Kd.R_celln 0 ae.1 (aa : Int) p9 q9
        replace p9 := eq_true p9
        replace q9 := eq_true q9
        have HP17 := Kd.R_putn ae.1 (aa : Int) (rd l0 ab)
        rw [← a6.1] at HP17
        have HQ17 := Ya HP17
        clear HP17
        refine start_ (n := 10) (S := fun w' => w'.cell? ⟨ac, 0, none⟩ = some (.int .i64 ad) ∧ w'.cell? ⟨ac, 1, none⟩ = some (.int .i64 aa) ∧ w'.cell? ⟨ac, 2, none⟩ = some (.int .i64 ab) ∧ w'.cell? (av.add (ab).toNat) = some (.int .i64 (rd l0 ab))) (ds := [9]) (YA 10 0) (by kernel_rfl) rfl rfl ⟨(Z20 BK136.1 0).trans rfl, (Z20 BK136.1 1).trans rfl, (Z20 BK136.1 2).trans rfl, ((HB.1.cell (World.block_lt_of_cell? w _ hw140_0)).trans hw140_0)⟩ (fun hHeld => ?_); refine with_tabW spec_moApply.tab8 spec_moApply.bits8 (fun HT_ HW_ => ?_)
        generalize bk.drew = br at ae BK136 HB GG9 HQ17 hf9_0 aj a9 hHeld ⊢
        refine Yp 0 (some 31) (YA 10 1) rfl HT_.1 ?_
        refine Yp 1 (some 32) (YA 10 3) rfl HT_.1 ?_
        refine Yp 3 (some 34) (YA 10 11) rfl HT_.1 ?_
        refine Yp 4 (some 35) (YA 10 27) rfl HT_.1 ?_
        refine Yt 2 (some 33) (YA 10 31) rfl HT_.1 HW_.1 hHeld Q8 ?_
        refine Yt 5 (some 36) (YA 10 63) rfl HT_.1 HW_.1 hHeld Q8 ?_
        refine Yp 6 (some 37) (YA 10 127) rfl HT_.1 ?_
        refine Yt 7 (some 38) (YA 10 255) rfl HT_.1 HW_.1 hHeld Q8 ?_
        refine Yp 8 (some 39) (YA 10 511) rfl HT_.1 ?_
        refine last_ (i := 9) (N := none) (YA 10 1023) rfl rfl (one_of HT_.1 (by kernel_rfl)) (by decide) (fun K hK => ?_)
        refine YNc ?_
        refine hK.out _ _ ?_
        clear hK K
        refine done_ (done_of HT_.1 (by kernel_rfl)) ?_
        try go_wp2
        replace BK136 : Aside0 ((br.setCell ⟨a8, (aa : Int).toNat, none⟩ (.int .i64 (rd l0 ab))).heap[ac]? = some (.cells #[.int .i64 ad, .int .i64 aa, .int .i64 ab] 77 (0, 0))) := ⟨by (with_reducible repeat (first | refine Z22 ?_ _ | refine Z23 ?_ | refine Z24 ?_ _)); refine blk_far ?_ (by have h_ := Kd.R_ne ae.1 BK136.1 (by decide); intro e_; exact h_ (by rw [e_]; rfl)) _; (with_reducible repeat (first | refine Z22 ?_ _ | refine Z23 ?_ | refine Z24 ?_ _)); exact BK136.1⟩
        replace ae : Aside0 (Kd.R (Kd.int .i64) 3 (br.setCell ⟨a8, (aa : Int).toNat, none⟩ (.int .i64 (rd l0 ab))) w.heap.size (fun _ => True) (.slice (some ⟨a8, 0, none⟩) ai.length cP) aQ) := ⟨by (with_reducible repeat (first | apply Z9 | apply Z10 | apply Z11)); exact HQ17.1⟩
        replace HB : Aside0 (Below w.heap.size w (br.setCell ⟨a8, (aa : Int).toNat, none⟩ (.int .i64 (rd l0 ab)))) := ⟨Q12⟩
        generalize (br.setCell ⟨a8, (aa : Int).toNat, none⟩ (.int .i64 (rd l0 ab))) = cQ at ae BK136 HB ⊢
        replace ae := Ya (Z11 ae.1)
        replace BK136 := Ya (Z23 BK136.1)
        replace HB := Ya (Z4 HB.1)
        have aT : 0 ≤ (aa : Int) := Z27 Q5
        have aU : aa < (l0.length : Int) := Z27 Q5
        obtain ⟨ba, b8, ak⟩ := Kd.at_int HR0.1 aa aT aU
        have hw142_0 := ak
        obtain rfl : av = ba := (by injection b8)
        try replace ak := (HB.1.cell (World.block_lt_of_cell? w _ ak)).trans ak
        replace aT := eq_true aT
        replace aU := eq_true aU
        have b9 : 0 ≤ (ab : Int) := Z27 Q5
        have ca : (ab : Int) < ((ai.length : Int) : Int) := Z27 Q5
        obtain ⟨aV, hf12_0⟩ := Kd.R_celln 0 ae.1 (ab : Int) b9 ca
        replace b9 := eq_true b9
        replace ca := eq_true ca
        have HP20 := Kd.R_putn ae.1 (ab : Int) (rd l0 aa)
        rw [← a7.1] at HP20
        have HQ20 := Ya HP20
        clear HP20
        refine start_ (n := 10) (S := fun w' => w'.cell? ⟨ac, 0, none⟩ = some (.int .i64 ad) ∧ w'.cell? ⟨ac, 1, none⟩ = some (.int .i64 aa) ∧ w'.cell? ⟨ac, 2, none⟩ = some (.int .i64 ab) ∧ w'.cell? (av.add (aa).toNat) = some (.int .i64 (rd l0 aa))) (ds := [9]) (YA 10 0) (by kernel_rfl) rfl rfl ⟨(Z20 BK136.1 0).trans rfl, (Z20 BK136.1 1).trans rfl, (Z20 BK136.1 2).trans rfl, ((HB.1.cell (World.block_lt_of_cell? w _ hw142_0)).trans hw142_0)⟩ (fun hHeld => ?_); refine with_tabW spec_moApply.tab9 spec_moApply.bits9 (fun HT_ HW_ => ?_)
        generalize cQ.drew = cS at ae BK136 HB HQ17 HQ20 hf12_0 aV ak hHeld ⊢
        refine Yp 0 (some 40) (YA 10 1) rfl HT_.1 ?_
        refine Yp 1 (some 41) (YA 10 3) rfl HT_.1 ?_
        refine Yp 3 (some 43) (YA 10 11) rfl HT_.1 ?_
        refine Yp 4 (some 44) (YA 10 27) rfl HT_.1 ?_
        refine Yt 2 (some 42) (YA 10 31) rfl HT_.1 HW_.1 hHeld Q8 ?_
        refine Yt 5 (some 45) (YA 10 63) rfl HT_.1 HW_.1 hHeld Q8 ?_
        refine Yp 6 (some 46) (YA 10 127) rfl HT_.1 ?_
        refine Yt 7 (some 47) (YA 10 255) rfl HT_.1 HW_.1 hHeld Q8 ?_
        refine Yp 8 (some 48) (YA 10 511) rfl HT_.1 ?_
        refine last_ (i := 9) (N := none) (YA 10 1023) rfl rfl (one_of HT_.1 (by kernel_rfl)) (by decide) (fun K hK => ?_)
        refine YNc ?_
        refine hK.out _ _ ?_
        clear hK K
        refine done_ (done_of HT_.1 (by kernel_rfl)) ?_
        try go_wp2
        go_ret
        exact ⟨_, Q2, by (with_reducible repeat (first | apply Z9 | apply Z10 | apply Z11)); exact HQ20.1, Q12⟩
       ·rw [if_neg bj] at H
        exact absurd H (by simp)
      ·rw [if_neg c10] at H
       exact absurd H (by simp)
     ·rw [if_neg c8] at H
      exact absurd H (by simp)
    ·rw [if_neg c7] at H
     exact absurd H (by simp)
   ·rw [if_neg c6] at H
    exact absurd H (by simp)
  ·rw [if_neg c5] at H
   exact absurd H (by simp)
 ·rw [if_neg c4] at H
  have b4 : (ad == 0) = false := beq_eq_false_iff_ne.mpr c4
  have b5 : (ad != 0) = true := bne_iff_ne.mpr c4
  by_cases aA : ad = 1
  ·rw [if_pos aA] at H
   have aw : (ad == 1) = true := beq_iff_eq.mpr aA
   have ax : (ad != 1) = false := bne_eq_false_iff_eq.mpr aA
   clear aA
   have H' := Ya H
   clear H
   go_enter Tryz.func58, Tryz.ntmps58
   go_wp2_with (first | ((with_reducible refine gate_dst (N := 3) rfl ?_); refine Yx 3 #[.int .i64 ad, .int .i64 aa, .int .i64 ab] 77 ?_; intro ac hg cT hbox hb; have BK136 := Ya hbox; have aN := Yg hg; replace HB := Yh hb; clear hb hbox hg) | ((with_reducible refine gate_callee (f := 85) rfl ?_); refine Yz 9 Tryz.func85 #[.slice A0 l0.length c0] ?_; (with_reducible refine (spec_l1Own.calls _ _ l0 ai _ (Yc (Z19 HR0.1 HB.1)) b3.1 A3.1).mono ?_); rintro e cb ⟨az, rfl, aO, hb⟩; refine ⟨_, rfl, ?_⟩; have ae := Yl aO; replace BK136 := Yb BK136 hb; replace HB := Yh hb; (try clear hb aO); have aB : cb.cell? ⟨ac, 0, none⟩ = some (.int .i64 ad) := (Z20 BK136.1 0).trans rfl; have aC : cb.cell? ⟨ac, 1, none⟩ = some (.int .i64 aa) := (Z20 BK136.1 1).trans rfl; have aD : cb.cell? ⟨ac, 2, none⟩ = some (.int .i64 ab) := (Z20 BK136.1 2).trans rfl; have aE := Z21 BK136.1 0; have aF := Z21 BK136.1 1; have aG := Z21 BK136.1 2))
   go_loopg [6] k (fun kq v6 w' => ∃ (ag : List Int) (af : Int), v6 = .int .i64 af ∧ Aside0 (spec_moApply.l0 kq l0 ag af ad aa ab = some r) ∧ Aside0 (kq ≤ k) ∧ Aside0 (Kd.R (Kd.int .i64) 3 w' w.heap.size (fun _ => True) az ag) ∧ Aside0 (w'.heap[ac]? = some (.cells #[.int .i64 ad, .int .i64 aa, .int .i64 ab] 77 (0, 0))) ∧ Aside0 (Below w.heap.size w w'))
   case atStart => exact ⟨(ai), (0), Q17, H', ⟨Nat.le_refl _⟩, ⟨by (with_reducible repeat (first | apply Z9 | apply Z10 | apply Z11)); exact ae.1⟩, ⟨Q49⟩, ⟨Q12⟩⟩
   case round =>
    clear H'
    try clear aA
    try clear aw
    try clear ax
    try clear aB
    try clear aC
    try clear aD
    try clear aE
    try clear aF
    try clear aG
    obtain ⟨ag, af, rfl, HA, HK1, HO_5, BK136, HB⟩ := hrel
    cases gk with
    | zero => exact absurd HA.1 (by simp [spec_moApply.l0])
    | succ k1 =>
     have H := HA.1
     clear HA
     simp only [spec_moApply.l0] at H
     by_cases a4 : af < aa
     ·rw [if_pos a4] at H
      have bb := Z35 a4
      clear a4
      obtain ⟨al, ay⟩ : ∃ j_ : Int, (wrap64 ((wrap64 (aa - 1)) - af)) = j_ := ⟨_, rfl⟩
      replace H : (if 0 ≤ (al) then (if (al) < (l0.length : Int) then (if 0 ≤ af then (if af < (ag.length : Int) then (spec_moApply.l0 k1 l0 (ag.set (af : Int).toNat (rd l0 (al))) (wrap64 (af + 1)) ad aa ab) else (none)) else (none)) else (none)) else (none)) = some r := by first | (rw [ay] at H; exact H) | (simp only [ay] at H ⊢; exact H)
      have hji26w : (IntKind.i64.wrap ((wrap64 (aa - 1)) - af)) = al := (i64_w _).trans ay
      by_cases bu : 0 ≤ (al)
      ·rw [if_pos bu] at H
       have cz := Z35 bu
       clear bu
       by_cases bv : (al) < (l0.length : Int)
       ·rw [if_pos bv] at H
        have cA := Z35 bv
        clear bv
        by_cases bw : 0 ≤ af
        ·rw [if_pos bw] at H
         have cB := Z35 bw
         clear bw
         by_cases bx : af < (ag.length : Int)
         ·rw [if_pos bx] at H
          have cC := Z35 bx
          clear bx
          obtain ⟨aW, ar⟩ : ∃ y_ : List Int, y_ = (ag.set (af : Int).toNat (rd l0 (al))) := ⟨_, rfl⟩
          replace H : (spec_moApply.l0 k1 l0 aW (wrap64 (af + 1)) ad aa ab) = some r := by first | (rw [ar]; with_reducible exact H) | (have H2_ := (Option.bind_some _ _).symm.trans H; rw [ar]; with_reducible exact H2_) | (have H2_ := (Option.bind_some _ _).symm.trans H; with_reducible exact H2_) | with_reducible exact H | (rw [ar]; exact H) | exact H
          have bc := Ya ar
          clear ar
          have H' := Ya H
          clear H
          have bz : wr.cell? ⟨ac, 0, none⟩ = some (.int .i64 ad) := (Z20 BK136.1 0).trans rfl
          have bA : wr.cell? ⟨ac, 1, none⟩ = some (.int .i64 aa) := (Z20 BK136.1 1).trans rfl
          have bB : wr.cell? ⟨ac, 2, none⟩ = some (.int .i64 ab) := (Z20 BK136.1 2).trans rfl
          have bC := Z21 BK136.1 0
          have bD := Z21 BK136.1 1
          have bE := Z21 BK136.1 2
          have aX : 0 ≤ ((al) : Int) := Z27 Q5
          have aY : (al) < (l0.length : Int) := Z27 Q5
          obtain ⟨cD, cc, an⟩ := Kd.at_int HR0.1 (al) aX aY
          cases cc
          try replace an := (HB.1.cell (World.block_lt_of_cell? w _ an)).trans an
          replace aX := eq_true aX
          replace aY := eq_true aY
          have cd : 0 ≤ (af : Int) := Z27 Q5
          have ce : (af : Int) < ((ag.length : Int) : Int) := Z27 Q5
          obtain ⟨aZ, cf, bd, be, gl31, cl31, HG31⟩ := Kd.R_form HO_5.1 (by omega)
          (first | cases bd | (injection bd with ea_ en_ ec_; (first | subst ea_ | (injection ea_ with ea_; subst ea_)); subst ec_; clear en_))
          have GB31 := Ya be
          have GG31 := Ya HG31
          clear be gl31 HG31
          obtain ⟨cg, hf31_0⟩ := Kd.R_celln 0 HO_5.1 (af : Int) cd ce
          replace cd := eq_true cd
          replace ce := eq_true ce
          have HP33 := Kd.R_putg HO_5.1 (af : Int) (rd l0 (al))
          go_wp2_with (first | ((with_reducible refine gate_store (t := 3) (p := 67) rfl ?_); refine store_event (t := 3) (p := 67) (v := ?vo_w34) (w1 := (wr.setCell ⟨aZ, (af : Int).toNat, none⟩ (.int .i64 (rd l0 (al))))) ?hg ?ho ?hn ?hr ?_; (case ho => rfl); (case hg => rfl); (case hn => rfl); (case hr => first | (go_simp; done) | (go_simp; rfl)); intro ch hw; have hg : wr.grownBy ch (some aZ) := (by rw [hw]; exact HP33.2); have hp_ : Kd.R (Kd.int .i64) 3 ch w.heap.size (fun _ => True) (.slice (some ⟨aZ, 0, none⟩) ag.length cf) aW := (by rw [hw, bc.1]; exact HP33.1); clear HP33; replace BK136 := Ya (blk_grown (g := ac) (o := .cells #[.int .i64 ad, .int .i64 aa, .int .i64 ab] 77 (0, 0)) (Yk BK136.1) hg (Kd.R_ne HO_5.1 BK136.1 (by decide))); replace HO_5 := Ya hp_; replace HB := Ya ((by rw [hw]; exact Z6 (HB.1) GB31.1 : Below w.heap.size w ch)); clear hg hw hp_))
          go_roundg k1
          case measure => have := HK1.1; omega
          case rel => exact ⟨(aW), (wrap64 (af + 1)), Q17, H', ⟨Q35⟩, ⟨Q30⟩, ⟨Q49⟩, ⟨Q12⟩⟩
         ·rw [if_neg bx] at H
          exact absurd H (by simp)
        ·rw [if_neg bw] at H
         exact absurd H (by simp)
       ·rw [if_neg bv] at H
        exact absurd H (by simp)
      ·rw [if_neg bu] at H
       exact absurd H (by simp)
     ·rw [if_neg a4] at H
      have bb := Z34 a4
      clear a4
      obtain rfl := Option.some.inj H
      have bF : wr.cell? ⟨ac, 0, none⟩ = some (.int .i64 ad) := (Z20 BK136.1 0).trans rfl
      have bG : wr.cell? ⟨ac, 1, none⟩ = some (.int .i64 aa) := (Z20 BK136.1 1).trans rfl
      have bH : wr.cell? ⟨ac, 2, none⟩ = some (.int .i64 ab) := (Z20 BK136.1 2).trans rfl
      have bI := Z21 BK136.1 0
      have bJ := Z21 BK136.1 1
      have bK := Z21 BK136.1 2
      go_wp2
      go_ret
      exact ⟨_, Q2, Q30, Q12⟩
  ·rw [if_neg aA] at H
   have aw : (ad == 1) = false := beq_eq_false_iff_ne.mpr aA
   have ax : (ad != 1) = true := bne_iff_ne.mpr aA
   have H' := Ya H
   clear H
   go_enter Tryz.func58, Tryz.ntmps58
   go_wp2_with (first | ((with_reducible refine gate_dst (N := 3) rfl ?_); refine Yx 3 #[.int .i64 ad, .int .i64 aa, .int .i64 ab] 77 ?_; intro ac hg cU hbox hb; have BK136 := Ya hbox; have aN := Yg hg; replace HB := Yh hb; clear hb hbox hg) | ((with_reducible refine gate_callee (f := 85) rfl ?_); refine Yz 9 Tryz.func85 #[.slice A0 l0.length c0] ?_; (with_reducible refine (spec_l1Own.calls _ _ l0 ai _ (Yc (Z19 HR0.1 HB.1)) b3.1 A3.1).mono ?_); rintro e cj ⟨az, rfl, aO, hb⟩; refine ⟨_, rfl, ?_⟩; have ae := Yl aO; replace BK136 := Yb BK136 hb; replace HB := Yh hb; (try clear hb aO); have aH : cj.cell? ⟨ac, 0, none⟩ = some (.int .i64 ad) := (Z20 BK136.1 0).trans rfl; have aI : cj.cell? ⟨ac, 1, none⟩ = some (.int .i64 aa) := (Z20 BK136.1 1).trans rfl; have aJ : cj.cell? ⟨ac, 2, none⟩ = some (.int .i64 ab) := (Z20 BK136.1 2).trans rfl; have aK := Z21 BK136.1 0; have aL := Z21 BK136.1 1; have aM := Z21 BK136.1 2))
   go_loopg [7] k (fun kq v7 w' => ∃ (ag : List Int) (ah : Int), v7 = .int .i64 ah ∧ Aside0 (spec_moApply.l1 kq l0 ag ah ad aa ab = some r) ∧ Aside0 (kq ≤ k) ∧ Aside0 (Kd.R (Kd.int .i64) 3 w' w.heap.size (fun _ => True) az ag) ∧ Aside0 (w'.heap[ac]? = some (.cells #[.int .i64 ad, .int .i64 aa, .int .i64 ab] 77 (0, 0))) ∧ Aside0 (Below w.heap.size w w'))
   case atStart => exact ⟨(ai), (0), Q17, H', ⟨Nat.le_refl _⟩, ⟨by (with_reducible repeat (first | apply Z9 | apply Z10 | apply Z11)); exact ae.1⟩, ⟨Q49⟩, ⟨Q12⟩⟩
   case round =>
    clear H'
    try clear aA
    try clear aw
    try clear ax
    try clear aH
    try clear aI
    try clear aJ
    try clear aK
    try clear aL
    try clear aM
    obtain ⟨ag, ah, rfl, HA, HK1, HO_5, BK136, HB⟩ := hrel
    cases gk with
    | zero => exact absurd HA.1 (by simp [spec_moApply.l1])
    | succ k1 =>
     have H := HA.1
     clear HA
     simp only [spec_moApply.l1] at H
     by_cases a5 : ah < aa
     ·rw [if_pos a5] at H
      have bf := Z35 a5
      clear a5
      by_cases bL : aa = 0
      ·rw [if_pos bL] at H
       exact absurd H (by simp)
      ·rw [if_neg bL] at H
       have cE : (aa == 0) = false := beq_eq_false_iff_ne.mpr bL
       have cF : (aa != 0) = true := bne_iff_ne.mpr bL
       obtain ⟨am, aP⟩ : ∃ j_ : Int, (Int.tmod (wrap64 (ah + 1)) aa) = j_ := ⟨_, rfl⟩
       replace H : (if 0 ≤ (am) then (if (am) < (l0.length : Int) then (if 0 ≤ ah then (if ah < (ag.length : Int) then (spec_moApply.l1 k1 l0 (ag.set (ah : Int).toNat (rd l0 (am))) (wrap64 (ah + 1)) ad aa ab) else (none)) else (none)) else (none)) else (none)) = some r := by first | (rw [aP] at H; exact H) | (simp only [aP] at H ⊢; exact H)
       by_cases bN : 0 ≤ (am)
       ·rw [if_pos bN] at H
        have cG := Z35 bN
        clear bN
        by_cases bO : (am) < (l0.length : Int)
        ·rw [if_pos bO] at H
         have cH := Z35 bO
         clear bO
         by_cases bP : 0 ≤ ah
         ·rw [if_pos bP] at H
          have cI := Z35 bP
          clear bP
          by_cases bQ : ah < (ag.length : Int)
          ·rw [if_pos bQ] at H
           have cJ := Z35 bQ
           clear bQ
           obtain ⟨a0, au⟩ : ∃ y_ : List Int, y_ = (ag.set (ah : Int).toNat (rd l0 (am))) := ⟨_, rfl⟩
           replace H : (spec_moApply.l1 k1 l0 a0 (wrap64 (ah + 1)) ad aa ab) = some r := by first | (rw [au]; with_reducible exact H) | (have H2_ := (Option.bind_some _ _).symm.trans H; rw [au]; with_reducible exact H2_) | (have H2_ := (Option.bind_some _ _).symm.trans H; with_reducible exact H2_) | with_reducible exact H | (rw [au]; exact H) | exact H
           have bg := Ya au
           clear au
           have H' := Ya H
           clear H
           have bR : wr.cell? ⟨ac, 0, none⟩ = some (.int .i64 ad) := (Z20 BK136.1 0).trans rfl
           have bS : wr.cell? ⟨ac, 1, none⟩ = some (.int .i64 aa) := (Z20 BK136.1 1).trans rfl
           have bT : wr.cell? ⟨ac, 2, none⟩ = some (.int .i64 ab) := (Z20 BK136.1 2).trans rfl
           have bU := Z21 BK136.1 0
           have bV := Z21 BK136.1 1
           have bW := Z21 BK136.1 2
           have a1 : 0 ≤ ((am) : Int) := Z27 Q5
           have a2 : (am) < (l0.length : Int) := Z27 Q5
           obtain ⟨cK, ck, ao⟩ := Kd.at_int HR0.1 (am) a1 a2
           cases ck
           try replace ao := (HB.1.cell (World.block_lt_of_cell? w _ ao)).trans ao
           replace a1 := eq_true a1
           replace a2 := eq_true a2
           have cl : 0 ≤ (ah : Int) := Z27 Q5
           have cm : (ah : Int) < ((ag.length : Int) : Int) := Z27 Q5
           obtain ⟨a3, cp, bh, bi, gl46, cl46, HG46⟩ := Kd.R_form HO_5.1 (by omega)
           (first | cases bh | (injection bh with ea_ en_ ec_; (first | subst ea_ | (injection ea_ with ea_; subst ea_)); subst ec_; clear en_))
           have GB46 := Ya bi
           have GG46 := Ya HG46
           clear bi gl46 HG46
           obtain ⟨cq, hf46_0⟩ := Kd.R_celln 0 HO_5.1 (ah : Int) cl cm
           replace cl := eq_true cl
           replace cm := eq_true cm
           have HP48 := Kd.R_putg HO_5.1 (ah : Int) (rd l0 (am))
           go_wp2_with (first | ((with_reducible refine gate_store (t := 3) (p := 28) rfl ?_); refine store_event (t := 3) (p := 28) (v := ?vo_w49) (w1 := (wr.setCell ⟨a3, (ah : Int).toNat, none⟩ (.int .i64 (rd l0 (am))))) ?hg ?ho ?hn ?hr ?_; (case ho => rfl); (case hg => rfl); (case hn => rfl); (case hr => first | (go_simp; done) | (go_simp; rfl)); intro cr hw; have hg : wr.grownBy cr (some a3) := (by rw [hw]; exact HP48.2); have hp_ : Kd.R (Kd.int .i64) 3 cr w.heap.size (fun _ => True) (.slice (some ⟨a3, 0, none⟩) ag.length cp) a0 := (by rw [hw, bg.1]; exact HP48.1); clear HP48; replace BK136 := Ya (blk_grown (g := ac) (o := .cells #[.int .i64 ad, .int .i64 aa, .int .i64 ab] 77 (0, 0)) (Yk BK136.1) hg (Kd.R_ne HO_5.1 BK136.1 (by decide))); replace HO_5 := Ya hp_; replace HB := Ya ((by rw [hw]; exact Z6 (HB.1) GB46.1 : Below w.heap.size w cr)); clear hg hw hp_))
           go_roundg k1
           case measure => have := HK1.1; omega
           case rel => exact ⟨(a0), (wrap64 (ah + 1)), Q17, H', ⟨Q35⟩, ⟨Q30⟩, ⟨Q49⟩, ⟨Q12⟩⟩
          ·rw [if_neg bQ] at H
           exact absurd H (by simp)
         ·rw [if_neg bP] at H
          exact absurd H (by simp)
        ·rw [if_neg bO] at H
         exact absurd H (by simp)
       ·rw [if_neg bN] at H
        exact absurd H (by simp)
     ·rw [if_neg a5] at H
      have bf := Z34 a5
      clear a5
      obtain rfl := Option.some.inj H
      have bX : wr.cell? ⟨ac, 0, none⟩ = some (.int .i64 ad) := (Z20 BK136.1 0).trans rfl
      have bY : wr.cell? ⟨ac, 1, none⟩ = some (.int .i64 aa) := (Z20 BK136.1 1).trans rfl
      have bZ : wr.cell? ⟨ac, 2, none⟩ = some (.int .i64 ab) := (Z20 BK136.1 2).trans rfl
      have b0 := Z21 BK136.1 0
      have b1 := Z21 BK136.1 1
      have b2 := Z21 BK136.1 2
      go_wp2
      go_ret
      exact ⟨_, Q2, Q30, Q12⟩
def spec_raInverse.l0 : Nat → List Int → List Int → Int → Int → Option (List Int)
 | 0, _, _, _, _ => none
 | k + 1, x3, x9, ab, aa => if aa < ab then (if 0 ≤ aa then (if aa < (x9.length : Int) then (if 0 ≤ (rd x9 aa) then (if (rd x9 aa) < (x3.length : Int) then (spec_raInverse.l0 k (x3.set ((rd x9 aa) : Int).toNat aa) x9 ab (wrap64 (aa + 1))) else (none)) else (none)) else (none)) else (none)) else (some x3)
def spec_raInverse.f (k : Nat) (l0 : List Int) : Option (List Int) := if 0 ≤ (l0.length : Int) then (if ((l0.length : Int) : Int).toNat ≤ 35184372088832 then (spec_raInverse.l0 k (List.replicate ((l0.length : Int) : Int).toNat 0) l0 (l0.length : Int) 0) else (none)) else (none)
theorem spec_raInverse.calls (k : Nat) (A0 : Option Addr) (c0 : Nat) (l0 : List Int) (r : List Int) (w : World) (aC : Kd.C (Kd.int .i64) w A0 l0.length l0) (aD : l0.length ≤ c0) (h : spec_raInverse.f k l0 = some r) :
  Calls Tryz.prog 59 #[.slice A0 l0.length c0] w fun e w' => ∃ v0_ : Value, e = .returned (v0_) ∧ Kd.R (Kd.int .i64) 3 w' w.heap.size (fun _ => True) v0_ r ∧ Below w.heap.size w w' := by
 have HR0 := Ya aC
 have aM := Ya aD
 clear aC aD
 have HB := Ya (Below.refl w.heap.size w)
 have H : (if 0 ≤ (l0.length : Int) then (if ((l0.length : Int) : Int).toNat ≤ 35184372088832 then (spec_raInverse.l0 k (List.replicate ((l0.length : Int) : Int).toNat 0) l0 (l0.length : Int) 0) else (none)) else (none)) = some r := h
 clear h
 by_cases c2 : 0 ≤ (l0.length : Int)
 ·rw [if_pos c2] at H
  have aG := eq_true c2
  have aH := Z35 c2
  have HLEc2 := Ya c2
  clear c2
  by_cases c3 : ((l0.length : Int) : Int).toNat ≤ 35184372088832
  ·rw [if_pos c3] at H
   have aq := eq_true c3
   have ar := Z35 c3
   clear c3
   obtain ⟨ak, ac⟩ : ∃ y_ : List Int, y_ = (List.replicate ((l0.length : Int) : Int).toNat 0) := ⟨_, rfl⟩
   replace H : (spec_raInverse.l0 k ak l0 (l0.length : Int) 0) = some r := by first | (rw [ac]; with_reducible exact H) | (have H2_ := (Option.bind_some _ _).symm.trans H; rw [ac]; with_reducible exact H2_) | (have H2_ := (Option.bind_some _ _).symm.trans H; with_reducible exact H2_) | with_reducible exact H | (rw [ac]; exact H) | exact H
   have af := Ya ac
   clear ac
   have H' := Ya H
   clear H
   go_enter Tryz.func59, Tryz.ntmps59
   go_wp2_with (first | ((with_reducible refine gate_dst (N := 8) rfl ?_); refine Kd.R_make (Kd.int .i64) _ 3 rfl (N := 8) rfl 24 _ _ rfl (l0.length : Int) rfl rfl Tryz.underlying24 (.int .i64 0) 8 info3 rfl (by decide) (by omega) 0 (ok := fun _ => True) (okp := fun _ => True) rfl (fun _ hk => hk) trivial (Z27 Q5) (Nat.le_trans (Nat.mul_le_mul_right _ (Z27 Q5 : (l0.length : Int).toNat ≤ 35184372088832)) (by omega)) (Below.refl _ _) (Nat.le_refl _) ?_; intro au w4 al hb hg_ hnew_; clear hg_ hnew_; (first | rw [← af.1] at al | (simp only [Int.reduceToNat] at al; rw [← af.1] at al)); have am := Yl al; replace HB := Yh hb; clear hb al))
   go_loopg [11] k (fun kq aI w' => ∃ (ae : List Int) (aa : Int), aI = .int .i64 aa ∧ Aside0 (spec_raInverse.l0 kq ae l0 (l0.length : Int) aa = some r) ∧ Aside0 (kq ≤ k) ∧ Aside0 (Kd.R (Kd.int .i64) 3 w' w.heap.size (fun _ => True) au ae) ∧ Aside0 (Below w.heap.size w w'))
   case atStart => exact ⟨(ak), (0), Q17, H', ⟨Nat.le_refl _⟩, ⟨by (with_reducible repeat (first | apply Z9 | apply Z10 | apply Z11)); exact am.1⟩, ⟨Q12⟩⟩
   case round =>
    clear H'
    try clear c3
    try clear aq
    try clear ar
    obtain ⟨ae, aa, rfl, HA, HK1, HO_3, HB⟩ := hrel
    cases gk with
    | zero => exact absurd HA.1 (by simp [spec_raInverse.l0])
    | succ k1 =>
     have H := HA.1
     clear HA
     simp only [spec_raInverse.l0] at H
     by_cases c6 : aa < (l0.length : Int)
     ·rw [if_pos c6] at H
      have av := Z35 c6
      clear c6
      by_cases c7 : 0 ≤ aa
      ·rw [if_pos c7] at H
       have aJ := Z35 c7
       clear c7
       by_cases c8 : aa < (l0.length : Int)
       ·rw [if_pos c8] at H
        have aK := Z35 c8
        clear c8
        by_cases c9 : 0 ≤ (rd l0 aa)
        ·rw [if_pos c9] at H
         have aL := Z35 c9
         clear c9
         by_cases c10 : (rd l0 aa) < (ae.length : Int)
         ·rw [if_pos c10] at H
          have aE := Z35 c10
          clear c10
          obtain ⟨ag, ad⟩ : ∃ y_ : List Int, y_ = (ae.set ((rd l0 aa) : Int).toNat aa) := ⟨_, rfl⟩
          replace H : (spec_raInverse.l0 k1 ag l0 (l0.length : Int) (wrap64 (aa + 1))) = some r := by first | (rw [ad]; with_reducible exact H) | (have H2_ := (Option.bind_some _ _).symm.trans H; rw [ad]; with_reducible exact H2_) | (have H2_ := (Option.bind_some _ _).symm.trans H; with_reducible exact H2_) | with_reducible exact H | (rw [ad]; exact H) | exact H
          have an := Ya ad
          clear ad
          have H' := Ya H
          clear H
          have ah : 0 ≤ (aa : Int) := Z27 Q5
          have ai : aa < (l0.length : Int) := Z27 Q5
          obtain ⟨aF, aw, ab⟩ := Kd.at_int HR0.1 aa ah ai
          cases aw
          try replace ab := (HB.1.cell (World.block_lt_of_cell? w _ ab)).trans ab
          replace ah := eq_true ah
          replace ai := eq_true ai
          have ax : 0 ≤ ((rd l0 aa) : Int) := Z27 Q5
          have ay : ((rd l0 aa) : Int) < ((ae.length : Int) : Int) := Z27 Q5
          obtain ⟨aj, az, ao, ap, gl11, cl11, HG11⟩ := Kd.R_form HO_3.1 (by omega)
          (first | cases ao | (injection ao with ea_ en_ ec_; (first | subst ea_ | (injection ea_ with ea_; subst ea_)); subst ec_; clear en_))
          have GB11 := Ya ap
          have GG11 := Ya HG11
          clear ap gl11 HG11
          obtain ⟨aA, hf11_0⟩ := Kd.R_celln 0 HO_3.1 ((rd l0 aa) : Int) ax ay
          replace ax := eq_true ax
          replace ay := eq_true ay
          have HP12 := Kd.R_putg HO_3.1 ((rd l0 aa) : Int) aa
          go_wp2_with (first | ((with_reducible refine gate_store (t := 3) (p := 19) rfl ?_); refine store_event (t := 3) (p := 19) (v := ?vo_w13) (w1 := (wr.setCell ⟨aj, ((rd l0 aa) : Int).toNat, none⟩ (.int .i64 aa))) ?hg ?ho ?hn ?hr ?_; (case ho => rfl); (case hg => rfl); (case hn => rfl); (case hr => first | (go_simp; done) | (go_simp; rfl)); intro aB hw; have hg : wr.grownBy aB (some aj) := (by rw [hw]; exact HP12.2); have hp_ : Kd.R (Kd.int .i64) 3 aB w.heap.size (fun _ => True) (.slice (some ⟨aj, 0, none⟩) ae.length az) ag := (by rw [hw, an.1]; exact HP12.1); clear HP12; replace HO_3 := Ya hp_; replace HB := Ya ((by rw [hw]; exact Z6 (HB.1) GB11.1 : Below w.heap.size w aB)); clear hg hw hp_))
          go_roundg k1
          case measure => have := HK1.1; omega
          case rel => exact ⟨(ag), (wrap64 (aa + 1)), Q17, H', ⟨Q35⟩, ⟨Q48⟩, ⟨Q12⟩⟩
         ·rw [if_neg c10] at H
          exact absurd H (by simp)
        ·rw [if_neg c9] at H
         exact absurd H (by simp)
       ·rw [if_neg c8] at H
        exact absurd H (by simp)
      ·rw [if_neg c7] at H
       exact absurd H (by simp)
     ·rw [if_neg c6] at H
      have av := Z34 c6
      clear c6
      obtain rfl := Option.some.inj H
      go_wp2
      go_ret
      exact ⟨_, Q2, Q48, Q12⟩
  ·rw [if_neg c3] at H
   exact absurd H (by simp)
 ·rw [if_neg c2] at H
  exact absurd H (by simp)
def spec_foSwap.j0 : Nat → Int → List Int → List Int → List Bool → List Int → List Int → List Int → List Int → List Int → List Bool → List Int → Option (List Int × List Int × List Bool × List Int × List Int × List Int × Int)
 | 0, _, _, _, _, _, _, _, _, _, _, _ => none
 | k + 1, x6, ag, ah, ai, aj, aa, ak, ab, ac, ad, ae => (spec_moApply.f k aa 0 x6 (wrap64 (x6 + 1))).bind fun af => ((spec_raInverse.f k af).bind fun al => (some (ab, ac, ad, ae, af, al, x6)))
def spec_foSwap.f (k : Nat) (ad : List Int) (ab : List Int) (ae : List Bool) (af : List Int) (ag : List Int) (ac : List Int) : Option (List Int × List Int × List Bool × List Int × List Int × List Int × Int) := (spec_foStep.f ad ab ae af).bind fun aa => (if aa.2.2.2.2 < 0 then (some (([] : List Int), ([] : List Int), ([] : List Bool), ([] : List Int), ([] : List Int), ([] : List Int), (-1))) else (if 0 ≤ (wrap64 (aa.2.2.2.2 + 1)) then (if (wrap64 (aa.2.2.2.2 + 1)) < (ac.length : Int) then (if 0 ≤ aa.2.2.2.2 then (if aa.2.2.2.2 < (aa.2.1.length : Int) then (if aa.2.2.2.2 < (ab.length : Int) then (if (rd aa.2.1 aa.2.2.2.2) > (rd ab aa.2.2.2.2) then (spec_foSwap.j0 k (wrap64 ((rd ac (wrap64 (aa.2.2.2.2 + 1))) - 1)) ad ab ae af ag ac aa.1 aa.2.1 aa.2.2.1 aa.2.2.2.1) else (spec_foSwap.j0 k (rd ac (wrap64 (aa.2.2.2.2 + 1))) ad ab ae af ag ac aa.1 aa.2.1 aa.2.2.1 aa.2.2.2.1)) else (none)) else (none)) else (none)) else (none)) else (none)))
def spec_foSwap.T5 : Bool × List (List Nat × List Nat) := (true, [([], []), ([0], [0]), ([], []), ([1, 2], [1, 2]), ([3], [3]), ([], []), ([5], [5]), ([6], [6]), ([], []), ([7, 8], [7, 8]), ([9], [9]), ([4, 10], [4, 10])])
def spec_foSwap.B5 : List Nat := [0, 1, 0, 7, 15, 0, 32, 96, 0, 480, 992, 2047]
theorem spec_foSwap.tab5 : rtab .any (opsOf Tryz.f29 5) = spec_foSwap.T5 := by kernel_rfl
theorem spec_foSwap.bits5 : waitsOk spec_foSwap.T5.2 spec_foSwap.B5 = true := by kernel_rfl
def spec_foSwap.T8 : Bool × List (List Nat × List Nat) := (true, [([], []), ([], []), ([], []), ([2], [2]), ([0, 1, 3], [0, 1, 3]), ([], []), ([4, 3, 0, 1, 2, 3, 4], [4]), ([5, 6, 0, 1, 2, 3, 4, 5, 6], [5])])
def spec_foSwap.B8 : List Nat := [0, 0, 0, 4, 15, 0, 31, 127]
theorem spec_foSwap.tab8 : rtab .any (opsOf Tryz.f29 8) = spec_foSwap.T8 := by kernel_rfl
theorem spec_foSwap.bits8 : waitsOk spec_foSwap.T8.2 spec_foSwap.B8 = true := by kernel_rfl
theorem spec_foSwap.calls (k : Nat) (aY : Option Addr) (aZ : Nat) (aH : List Int) (ba : Option Addr) (a0 : Nat) (ar : List Int) (a1 : Option Addr) (a2 : Nat) (aI : List Bool) (a3 : Option Addr) (a4 : Nat) (aJ : List Int) (a7 : Option Addr) (a8 : Nat) (aM : List Int) (bg : Option Addr) (bb : Nat) (aw : List Int) (r1 : List Int) (r2 : List Int) (r3 : List Bool) (r4 : List Int) (r5 : List Int) (r6 : List Int) (r7 : Int) (w : World) (bn : Kd.C (Kd.int .i64) w aY aH.length aH) (bo : aH.length ≤ aZ) (bp : Kd.C (Kd.int .i64) w ba ar.length ar) (bq : ar.length ≤ a0) (br : Kd.C Kd.bool w a1 aI.length aI) (bu : aI.length ≤ a2) (bv : Kd.C (Kd.int .i64) w a3 aJ.length aJ) (bw : aJ.length ≤ a4) (bx : Kd.C (Kd.int .i64) w a7 aM.length aM) (bz : aM.length ≤ a8) (bA : Kd.C (Kd.int .i64) w bg aw.length aw) (bB : aw.length ≤ bb) (h : spec_foSwap.f k aH ar aI aJ aM aw = some (r1, r2, r3, r4, r5, r6, r7)) :
  Calls Tryz.prog 29 #[.agg #[.slice aY aH.length aZ, .slice ba ar.length a0, .slice a1 aI.length a2, .slice a3 aJ.length a4, .slice a7 aM.length a8, .slice bg aw.length bb]] w fun e w' => ∃ v0_ v1_ v2_ v3_ v4_ v5_ : Value, e = .returned (.tuple #[.agg #[v0_, v1_, v2_, v3_, v4_, v5_], .int .i64 r7]) ∧ Kd.R (Kd.int .i64) 3 w' w.heap.size (fun k_ => some k_ ≠ (v1_ : Value).ownBlock ∧ some k_ ≠ (v3_ : Value).ownBlock ∧ some k_ ≠ (v4_ : Value).ownBlock ∧ some k_ ≠ (v5_ : Value).ownBlock) v0_ r1 ∧ Kd.R (Kd.int .i64) 3 w' w.heap.size (fun k_ => some k_ ≠ (v0_ : Value).ownBlock ∧ some k_ ≠ (v3_ : Value).ownBlock ∧ some k_ ≠ (v4_ : Value).ownBlock ∧ some k_ ≠ (v5_ : Value).ownBlock) v1_ r2 ∧ Kd.R Kd.bool 4 w' w.heap.size (fun _ => True) v2_ r3 ∧ Kd.R (Kd.int .i64) 3 w' w.heap.size (fun k_ => some k_ ≠ (v0_ : Value).ownBlock ∧ some k_ ≠ (v1_ : Value).ownBlock ∧ some k_ ≠ (v4_ : Value).ownBlock ∧ some k_ ≠ (v5_ : Value).ownBlock) v3_ r4 ∧ Kd.R (Kd.int .i64) 3 w' w.heap.size (fun k_ => some k_ ≠ (v0_ : Value).ownBlock ∧ some k_ ≠ (v1_ : Value).ownBlock ∧ some k_ ≠ (v3_ : Value).ownBlock ∧ some k_ ≠ (v5_ : Value).ownBlock) v4_ r5 ∧ Kd.R (Kd.int .i64) 3 w' w.heap.size (fun k_ => some k_ ≠ (v0_ : Value).ownBlock ∧ some k_ ≠ (v1_ : Value).ownBlock ∧ some k_ ≠ (v3_ : Value).ownBlock ∧ some k_ ≠ (v4_ : Value).ownBlock) v5_ r6 ∧ Below w.heap.size w w' := by
 have hu29 := Tryz.underlying29
 have hu27 := Tryz.underlying27
 have hu77 := Tryz.underlying77
 have bC := Ya bn
 have bD := Ya bo
 clear bn bo
 have bc := Ya bp
 have bE := Ya bq
 clear bp bq
 have bF := Ya br
 have bG := Ya bu
 clear br bu
 have bH := Ya bv
 have bI := Ya bw
 clear bv bw
 have bQ := Ya bx
 have bR := Ya bz
 clear bx bz
 have bS := Ya bA
 have d7 := Ya bB
 clear bA bB
 have HB := Ya (Below.refl w.heap.size w)
 have H : ((spec_foStep.f aH ar aI aJ).bind fun ao => (if ao.2.2.2.2 < 0 then (some (([] : List Int), ([] : List Int), ([] : List Bool), ([] : List Int), ([] : List Int), ([] : List Int), (-1))) else (if 0 ≤ (wrap64 (ao.2.2.2.2 + 1)) then (if (wrap64 (ao.2.2.2.2 + 1)) < (aw.length : Int) then (if 0 ≤ ao.2.2.2.2 then (if ao.2.2.2.2 < (ao.2.1.length : Int) then (if ao.2.2.2.2 < (ar.length : Int) then (if (rd ao.2.1 ao.2.2.2.2) > (rd ar ao.2.2.2.2) then (spec_foSwap.j0 k (wrap64 ((rd aw (wrap64 (ao.2.2.2.2 + 1))) - 1)) aH ar aI aJ aM aw ao.1 ao.2.1 ao.2.2.1 ao.2.2.2.1) else (spec_foSwap.j0 k (rd aw (wrap64 (ao.2.2.2.2 + 1))) aH ar aI aJ aM aw ao.1 ao.2.1 ao.2.2.1 ao.2.2.2.1)) else (none)) else (none)) else (none)) else (none)) else (none)))) = some (r1, r2, r3, r4, r5, r6, r7) := h
 clear h
 replace H := YB H
 obtain ⟨⟨an, ah, ax, av, au⟩, A2, H⟩ := H
 dsimp only at H
 by_cases c3 : au < 0
 ·rw [if_pos c3] at H
  have dH := Z35 c3
  clear c3
  simp only [Option.some.injEq, Prod.mk.injEq] at H
  obtain ⟨rfl, rfl, rfl, rfl, rfl, rfl, rfl⟩ := H
  go_enter Tryz.func29, Tryz.ntmps29
  go_wp2_with (first | ((with_reducible refine gate_dst (N := 1) rfl ?_); refine Yx 1 #[.slice aY aH.length aZ, .slice ba ar.length a0, .slice a1 aI.length a2, .slice a3 aJ.length a4, .slice a7 aM.length a8, .slice bg aw.length bb] 29 ?_; intro aR hg w4 hbox hb; have ad := Ya hbox; have bd := Yg hg; have bT := bd; replace HB := Yh hb; clear hb hbox hg) | ((with_reducible refine gate_dst (N := 2) rfl ?_); refine Yx 2 YN6 29 ?_; intro ae hg w5 hbox hb; have ac := Ya hbox; have be := Yg hg; have bU := be; replace HB := Yh hb; have ai := Yn ad hg; have aj := Ym ad hg; replace ad := Yb ad hb; clear hb hbox hg; have er := ai.1; have es := aj.1; obtain ⟨dI, dJ, dK, dL, dM, dN, dO, dP, dQ, dR, dS, dT⟩ := Y6 ad.1) | ((with_reducible refine gate_callee (f := 57) rfl ?_); refine Yz 11 Tryz.func57 #[.agg #[.slice aY aH.length aZ, .slice ba ar.length a0, .slice a1 aI.length a2, .slice a3 aJ.length a4]] ?_; (with_reducible refine (spec_foStep.calls _ _ aH _ _ ar _ _ aI _ _ aJ an ah ax av au _ (Yc (Z19 bC.1 HB.1)) bD.1 (Yc (Z19 bc.1 HB.1)) bE.1 (Yc (Z19 bF.1 HB.1)) bG.1 (Yc (Z19 bH.1 HB.1)) bI.1 A2.1).mono ?_); rintro e w8 ⟨dU, dV, dW, dX, rfl, a6, bV, bW, bX, hb⟩; refine ⟨_, rfl, ?_⟩; have aB := Yl a6; have ay := Yl bV; have aC := Yl bW; have aD := Yl bX; replace ad := Yb ad hb; replace ac := Yb ac hb; replace HB := Yh hb; (try clear hb a6 bV bW bX)) | ((with_reducible refine gate_dst (N := 4) rfl ?_); refine Yx 4 #[.slice none 0 0, .slice none 0 0, .slice none 0 0, .slice none 0 0] 27 ?_; intro ab hg w9 hbox hb; replace aB := Yw aB hb; replace ay := Yw ay hb; replace aC := Yw aC hb; replace aD := Yw aD hb; have ag := Ya hbox; have aU := Yg hg; have bY := aU; replace HB := Yh hb; have ap := Yn ad hg; have aN := Ym ad hg; replace ad := Yb ad hb; have af := Yn ac hg; have aa := Ym ac hg; replace ac := Yb ac hb; clear hb hbox hg; obtain ⟨et, eu, rfl⟩ := Z15 aB.1; have d8 := aN.1; have d9 := ap.1; have ea := aa.1; have eb := af.1; obtain ⟨b9, ca, cb, cc, cd, ce, cf, cg⟩ := Y4 ag.1; obtain ⟨ev, ew, rfl⟩ := Z15 ay.1; obtain ⟨ex, ey, rfl⟩ := Z15 aC.1; obtain ⟨ez, eA, rfl⟩ := Z15 aD.1; obtain ⟨ch, cj, ck, cl, cm, cp, cq, cr, ct, cu, cv, cw⟩ := Y6 ac.1))
  refine bodyPost_ret (results_ct rfl _ _ ae 29 YN6 (0, 0) _ rfl (Yk (Yv6 (Yo4 ac.1 af.1))) Tryz.underlying29 rfl (by kernel_rfl)) rfl ?_
  exact ⟨_, _, _, _, _, _, Q2, Q3, Q3, Q3, Q3, Q3, Q3, Q12⟩
 ·rw [if_neg c3] at H
  have dH := Z34 c3
  clear c3
  obtain ⟨aT, aV⟩ : ∃ j_ : Int, (wrap64 (au + 1)) = j_ := ⟨_, rfl⟩
  replace H : (if 0 ≤ (aT) then (if (aT) < (aw.length : Int) then (if 0 ≤ au then (if au < (ah.length : Int) then (if au < (ar.length : Int) then (if (rd ah au) > (rd ar au) then (spec_foSwap.j0 k (wrap64 ((rd aw (aT)) - 1)) aH ar aI aJ aM aw an ah ax av) else (spec_foSwap.j0 k (rd aw (aT)) aH ar aI aJ aM aw an ah ax av)) else (none)) else (none)) else (none)) else (none)) else (none)) = some (r1, r2, r3, r4, r5, r6, r7) := by first | (rw [aV] at H; exact H) | (simp only [aV] at H ⊢; exact H)
  (try rw [aV] at A2)
  have hji18w : (IntKind.i64.wrap (au + 1)) = aT := (i64_w _).trans aV
  by_cases cx : 0 ≤ (aT)
  ·rw [if_pos cx] at H
   have ec := Z35 cx
   clear cx
   by_cases cy : (aT) < (aw.length : Int)
   ·rw [if_pos cy] at H
    have ed := Z35 cy
    clear cy
    by_cases cz : 0 ≤ au
    ·rw [if_pos cz] at H
     have ee := Z35 cz
     clear cz
     by_cases cA : au < (ah.length : Int)
     ·rw [if_pos cA] at H
      have ef := Z35 cA
      clear cA
      by_cases bZ : au < (ar.length : Int)
      ·rw [if_pos bZ] at H
       have b0 := Z35 bZ
       clear bZ
       have bK := Ya H
       clear H
       go_enter Tryz.func29, Tryz.ntmps29
       try go_wp2_with (first | ((with_reducible refine gate_dst (N := 1) rfl ?_); refine Yx 1 #[.slice aY aH.length aZ, .slice ba ar.length a0, .slice a1 aI.length a2, .slice a3 aJ.length a4, .slice a7 aM.length a8, .slice bg aw.length bb] 29 ?_; intro aR hg eP hbox hb; have ad := Ya hbox; have bd := Yg hg; have bT := bd; replace HB := Yh hb; clear hb hbox hg) | ((with_reducible refine gate_dst (N := 2) rfl ?_); refine Yx 2 YN6 29 ?_; intro ae hg eQ hbox hb; have ac := Ya hbox; have be := Yg hg; have bU := be; replace HB := Yh hb; have ai := Yn ad hg; have aj := Ym ad hg; replace ad := Yb ad hb; clear hb hbox hg; have eg := ai.1; have eh := aj.1; obtain ⟨cB, cC, cD, cE, cF, cG, cH, cI, cJ, cK, cL, cM⟩ := Y6 ad.1) | ((with_reducible refine gate_callee (f := 57) rfl ?_); refine Yz 11 Tryz.func57 #[.agg #[.slice aY aH.length aZ, .slice ba ar.length a0, .slice a1 aI.length a2, .slice a3 aJ.length a4]] ?_; (with_reducible refine (spec_foStep.calls _ _ aH _ _ ar _ _ aI _ _ aJ an ah ax av au _ (Yc (Z19 bC.1 HB.1)) bD.1 (Yc (Z19 bc.1 HB.1)) bE.1 (Yc (Z19 bF.1 HB.1)) bG.1 (Yc (Z19 bH.1 HB.1)) bI.1 A2.1).mono ?_); rintro e eR ⟨dU, dV, dW, dX, rfl, a6, bV, bW, bX, hb⟩; refine ⟨_, rfl, ?_⟩; have aB := Yl a6; have ay := Yl bV; have aC := Yl bW; have aD := Yl bX; replace ad := Yb ad hb; replace ac := Yb ac hb; replace HB := Yh hb; (try clear hb a6 bV bW bX)) | ((with_reducible refine gate_dst (N := 4) rfl ?_); refine Yx 4 #[.slice none 0 0, .slice none 0 0, .slice none 0 0, .slice none 0 0] 27 ?_; intro ab hg bh hbox hb; replace aB := Yw aB hb; replace ay := Yw ay hb; replace aC := Yw aC hb; replace aD := Yw aD hb; have ag := Ya hbox; have aU := Yg hg; have bY := aU; replace HB := Yh hb; have ap := Yn ad hg; have aN := Ym ad hg; replace ad := Yb ad hb; have af := Yn ac hg; have aa := Ym ac hg; replace ac := Yb ac hb; clear hb hbox hg; obtain ⟨az, aA, rfl⟩ := Z15 aB.1; have ei := aN.1; have ej := ap.1; have ek := aa.1; have em := af.1; obtain ⟨cN, cO, cP, cQ, cR, cS, cT, cU⟩ := Y4 ag.1; obtain ⟨aP, aE, rfl⟩ := Z15 ay.1; obtain ⟨aK, aL, rfl⟩ := Z15 aC.1; obtain ⟨aF, aG, rfl⟩ := Z15 aD.1; obtain ⟨cV, cW, cX, cY, cZ, da, db, dc, dd, de, df, dg⟩ := Y6 ad.1; have bL : 0 ≤ ((aT) : Int) := Z27 Q5; have bN : (aT) < (aw.length : Int) := Z27 Q5; obtain ⟨aW, dY, hx169_0⟩ := Kd.at_int bS.1 (aT) bL bN; cases dY; have hn169_0 : aW.block ≠ ab := Nat.ne_of_lt (Nat.lt_of_lt_of_le Q50 aU.1); have hn169_1 : aW.block ≠ ab := Nat.ne_of_lt (Nat.lt_of_lt_of_le Q50 aU.1); have hn169_2 : aW.block ≠ ab := Nat.ne_of_lt (Nat.lt_of_lt_of_le Q50 aU.1); have hn169_3 : aW.block ≠ ab := Nat.ne_of_lt (Nat.lt_of_lt_of_le Q50 aU.1); try replace hx169_0 := (HB.1.cell (World.block_lt_of_cell? w _ hx169_0)).trans hx169_0; replace hx169_0 := (cell_far (p := ⟨ab, 0, none⟩) (by first | (rw [add_block]; exact hn169_0) | (show (Addr.add _ _).block ≠ _; rw [add_block]; exact hn169_0) | exact hn169_0) (.slice az an.length aA)).trans hx169_0; replace hx169_0 := (cell_far (p := ⟨ab, 1, none⟩) (by first | (rw [add_block]; exact hn169_1) | (show (Addr.add _ _).block ≠ _; rw [add_block]; exact hn169_1) | exact hn169_1) (.slice aP ah.length aE)).trans hx169_0; replace hx169_0 := (cell_far (p := ⟨ab, 2, none⟩) (by first | (rw [add_block]; exact hn169_2) | (show (Addr.add _ _).block ≠ _; rw [add_block]; exact hn169_2) | exact hn169_2) (.slice aK ax.length aL)).trans hx169_0; replace hx169_0 := (cell_far (p := ⟨ab, 3, none⟩) (by first | (rw [add_block]; exact hn169_3) | (show (Addr.add _ _).block ≠ _; rw [add_block]; exact hn169_3) | exact hn169_3) (.slice aF av.length aG)).trans hx169_0; clear hn169_0; clear hn169_1; clear hn169_2; clear hn169_3; replace bL := eq_true bL; replace bN := eq_true bN))
       replace aB : Aside0 (Kd.R (Kd.int .i64) 3 ((((bh.setCell ⟨ab, 0, none⟩ (.slice az an.length aA)).setCell ⟨ab, 1, none⟩ (.slice aP ah.length aE)).setCell ⟨ab, 2, none⟩ (.slice aK ax.length aL)).setCell ⟨ab, 3, none⟩ (.slice aF av.length aG)) w.heap.size (fun k_ => some k_ ≠ (.slice aP ah.length aE : Value).ownBlock ∧ some k_ ≠ (.slice aF av.length aG : Value).ownBlock) (.slice az an.length aA) an) := ⟨Yj (Yf4 aB.1 ag.1) (fun _ hk => ⟨hk.1.1, hk.1.2⟩)⟩
       replace ay : Aside0 (Kd.R (Kd.int .i64) 3 ((((bh.setCell ⟨ab, 0, none⟩ (.slice az an.length aA)).setCell ⟨ab, 1, none⟩ (.slice aP ah.length aE)).setCell ⟨ab, 2, none⟩ (.slice aK ax.length aL)).setCell ⟨ab, 3, none⟩ (.slice aF av.length aG)) w.heap.size (fun k_ => some k_ ≠ (.slice az an.length aA : Value).ownBlock ∧ some k_ ≠ (.slice aF av.length aG : Value).ownBlock) (.slice aP ah.length aE) ah) := ⟨Yj (Yf4 ay.1 ag.1) (fun _ hk => ⟨hk.1.1, hk.1.2⟩)⟩
       replace aC : Aside0 (Kd.R Kd.bool 4 ((((bh.setCell ⟨ab, 0, none⟩ (.slice az an.length aA)).setCell ⟨ab, 1, none⟩ (.slice aP ah.length aE)).setCell ⟨ab, 2, none⟩ (.slice aK ax.length aL)).setCell ⟨ab, 3, none⟩ (.slice aF av.length aG)) w.heap.size (fun _ => True) (.slice aK ax.length aL) ax) := ⟨Yj (Yf4 aC.1 ag.1) (fun _ hk => trivial)⟩
       replace aD : Aside0 (Kd.R (Kd.int .i64) 3 ((((bh.setCell ⟨ab, 0, none⟩ (.slice az an.length aA)).setCell ⟨ab, 1, none⟩ (.slice aP ah.length aE)).setCell ⟨ab, 2, none⟩ (.slice aK ax.length aL)).setCell ⟨ab, 3, none⟩ (.slice aF av.length aG)) w.heap.size (fun k_ => some k_ ≠ (.slice az an.length aA : Value).ownBlock ∧ some k_ ≠ (.slice aP ah.length aE : Value).ownBlock) (.slice aF av.length aG) av) := ⟨Yj (Yf4 aD.1 ag.1) (fun _ hk => ⟨hk.1.1, hk.1.2⟩)⟩
       replace ad : Aside0 (((((bh.setCell ⟨ab, 0, none⟩ (.slice az an.length aA)).setCell ⟨ab, 1, none⟩ (.slice aP ah.length aE)).setCell ⟨ab, 2, none⟩ (.slice aK ax.length aL)).setCell ⟨ab, 3, none⟩ (.slice aF av.length aG)).heap[aR]? = some (.cells #[.slice aY aH.length aZ, .slice ba ar.length a0, .slice a1 aI.length a2, .slice a3 aJ.length a4, .slice a7 aM.length a8, .slice (some aW) aw.length bb] 29 (0, 0))) := ⟨by (with_reducible repeat (first | refine Z22 ?_ _ | refine Z23 ?_ | refine Z24 ?_ _)); refine blk_far ?_ ap.1 _; (with_reducible repeat (first | refine Z22 ?_ _ | refine Z23 ?_ | refine Z24 ?_ _)); refine blk_far ?_ ap.1 _; (with_reducible repeat (first | refine Z22 ?_ _ | refine Z23 ?_ | refine Z24 ?_ _)); refine blk_far ?_ ap.1 _; (with_reducible repeat (first | refine Z22 ?_ _ | refine Z23 ?_ | refine Z24 ?_ _)); refine blk_far ?_ ap.1 _; (with_reducible repeat (first | refine Z22 ?_ _ | refine Z23 ?_ | refine Z24 ?_ _)); exact ad.1⟩
       replace ac : Aside0 (((((bh.setCell ⟨ab, 0, none⟩ (.slice az an.length aA)).setCell ⟨ab, 1, none⟩ (.slice aP ah.length aE)).setCell ⟨ab, 2, none⟩ (.slice aK ax.length aL)).setCell ⟨ab, 3, none⟩ (.slice aF av.length aG)).heap[ae]? = some (.cells YN6 29 (0, 0))) := ⟨by (with_reducible repeat (first | refine Z22 ?_ _ | refine Z23 ?_ | refine Z24 ?_ _)); refine blk_far ?_ af.1 _; (with_reducible repeat (first | refine Z22 ?_ _ | refine Z23 ?_ | refine Z24 ?_ _)); refine blk_far ?_ af.1 _; (with_reducible repeat (first | refine Z22 ?_ _ | refine Z23 ?_ | refine Z24 ?_ _)); refine blk_far ?_ af.1 _; (with_reducible repeat (first | refine Z22 ?_ _ | refine Z23 ?_ | refine Z24 ?_ _)); refine blk_far ?_ af.1 _; (with_reducible repeat (first | refine Z22 ?_ _ | refine Z23 ?_ | refine Z24 ?_ _)); exact ac.1⟩
       replace ag : Aside0 (((((bh.setCell ⟨ab, 0, none⟩ (.slice az an.length aA)).setCell ⟨ab, 1, none⟩ (.slice aP ah.length aE)).setCell ⟨ab, 2, none⟩ (.slice aK ax.length aL)).setCell ⟨ab, 3, none⟩ (.slice aF av.length aG)).heap[ab]? = some (.cells #[.slice az an.length aA, .slice aP ah.length aE, .slice aK ax.length aL, .slice aF av.length aG] 27 (0, 0))) := ⟨by (with_reducible repeat (first | refine Z22 ?_ _ | refine Z23 ?_ | refine Z24 ?_ _)); refine Z26 (cs := #[.slice az an.length aA, .slice aP ah.length aE, .slice aK ax.length aL, .slice none 0 0]) ?_ 3 _ rfl; (with_reducible repeat (first | refine Z22 ?_ _ | refine Z23 ?_ | refine Z24 ?_ _)); refine Z26 (cs := #[.slice az an.length aA, .slice aP ah.length aE, .slice none 0 0, .slice none 0 0]) ?_ 2 _ rfl; (with_reducible repeat (first | refine Z22 ?_ _ | refine Z23 ?_ | refine Z24 ?_ _)); refine Z26 (cs := #[.slice az an.length aA, .slice none 0 0, .slice none 0 0, .slice none 0 0]) ?_ 1 _ rfl; (with_reducible repeat (first | refine Z22 ?_ _ | refine Z23 ?_ | refine Z24 ?_ _)); refine Z26 (cs := #[.slice none 0 0, .slice none 0 0, .slice none 0 0, .slice none 0 0]) ?_ 0 _ rfl; (with_reducible repeat (first | refine Z22 ?_ _ | refine Z23 ?_ | refine Z24 ?_ _)); exact ag.1⟩
       replace HB : Aside0 (Below w.heap.size w ((((bh.setCell ⟨ab, 0, none⟩ (.slice az an.length aA)).setCell ⟨ab, 1, none⟩ (.slice aP ah.length aE)).setCell ⟨ab, 2, none⟩ (.slice aK ax.length aL)).setCell ⟨ab, 3, none⟩ (.slice aF av.length aG))) := ⟨Q12⟩
       generalize ((((bh.setCell ⟨ab, 0, none⟩ (.slice az an.length aA)).setCell ⟨ab, 1, none⟩ (.slice aP ah.length aE)).setCell ⟨ab, 2, none⟩ (.slice aK ax.length aL)).setCell ⟨ab, 3, none⟩ (.slice aF av.length aG)) = eB at aB ay aC aD ad ac ag HB ⊢
       replace aB := Ya (Z11 aB.1)
       replace ay := Ya (Z11 ay.1)
       replace aC := Ya (Z11 aC.1)
       replace aD := Ya (Z11 aD.1)
       replace ad := Ya (Z23 ad.1)
       replace ac := Ya (Z23 ac.1)
       replace ag := Ya (Z23 ag.1)
       replace HB := Ya (Z4 HB.1)
       have bi : 0 ≤ (au : Int) := Z27 Q5
       have bj : au < (ah.length : Int) := Z27 Q5
       obtain ⟨aS, dZ, a5⟩ := Kd.at_int (Kd.R_reads' ay.1).2.2 au bi bj
       cases dZ
       replace bi := eq_true bi
       replace bj := eq_true bj
       have bk : 0 ≤ (au : Int) := Z27 Q5
       have bl : au < (ar.length : Int) := Z27 Q5
       obtain ⟨bf, d4, aO⟩ := Kd.at_int bc.1 au bk bl
       have hw171_0 := aO
       cases d4
       try replace aO := (HB.1.cell (World.block_lt_of_cell? w _ aO)).trans aO
       replace bk := eq_true bk
       replace bl := eq_true bl
       refine start_ (n := 12) (S := fun w' => w'.cell? ⟨ab, 0, none⟩ = some (.slice az an.length aA) ∧ w'.cell? ⟨ab, 1, none⟩ = some (.slice (some aS) ah.length aE) ∧ w'.cell? ⟨ab, 2, none⟩ = some (.slice aK ax.length aL) ∧ w'.cell? ⟨ab, 3, none⟩ = some (.slice aF av.length aG) ∧ w'.cell? ⟨aR, 0, none⟩ = some (.slice aY aH.length aZ) ∧ w'.cell? ⟨aR, 1, none⟩ = some (.slice (some bf) ar.length a0) ∧ w'.cell? ⟨aR, 2, none⟩ = some (.slice a1 aI.length a2) ∧ w'.cell? ⟨aR, 3, none⟩ = some (.slice a3 aJ.length a4) ∧ w'.cell? ⟨aR, 4, none⟩ = some (.slice a7 aM.length a8) ∧ w'.cell? ⟨aR, 5, none⟩ = some (.slice (some aW) aw.length bb) ∧ w'.cell? (aS.add (au).toNat) = some (.int .i64 (rd ah au)) ∧ w'.cell? (bf.add (au).toNat) = some (.int .i64 (rd ar au))) (ds := []) (YA 12 0) (by kernel_rfl) rfl rfl ⟨(Z20 ag.1 0).trans rfl, (Z20 ag.1 1).trans rfl, (Z20 ag.1 2).trans rfl, (Z20 ag.1 3).trans rfl, (Z20 ad.1 0).trans rfl, (Z20 ad.1 1).trans rfl, (Z20 ad.1 2).trans rfl, (Z20 ad.1 3).trans rfl, (Z20 ad.1 4).trans rfl, (Z20 ad.1 5).trans rfl, a5, ((HB.1.cell (World.block_lt_of_cell? w _ hw171_0)).trans hw171_0)⟩ (fun hHeld => ?_); refine with_tabW spec_foSwap.tab5 spec_foSwap.bits5 (fun HT_ HW_ => ?_)
       generalize eB.drew = eS at aB ay aC aD ad ac ag HB a5 aO hHeld ⊢
       refine Yp 0 (some 23) (YA 12 1) rfl HT_.1 ?_
       refine Yp 2 (some 25) (YA 12 5) rfl HT_.1 ?_
       refine Yp 5 (some 28) (YA 12 37) rfl HT_.1 ?_
       refine Yp 6 (some 29) (YA 12 101) rfl HT_.1 ?_
       refine Yp 8 (some 31) (YA 12 357) rfl HT_.1 ?_
       refine Yt 1 (some 24) (YA 12 359) rfl HT_.1 HW_.1 hHeld Q47 ?_
       refine Yp 3 (some 26) (YA 12 367) rfl HT_.1 ?_
       refine Yt 4 (some 27) (YA 12 383) rfl HT_.1 HW_.1 hHeld Q47 ?_
       refine Yt 7 (some 30) (YA 12 511) rfl HT_.1 HW_.1 hHeld Q47 ?_
       refine Yp 9 (some 32) (YA 12 1023) rfl HT_.1 ?_
       refine Yt 10 (some 33) (YA 12 2047) rfl HT_.1 HW_.1 hHeld Q47 ?_
       refine Yp 11 (some 34) (YA 12 4095) rfl HT_.1 ?_
       refine done_ (done_of HT_.1 (by kernel_rfl)) ?_
       go_upto_if 34 with (fail)
       go_cut [6] (fun v6 wc => ∃ (kq : Nat) (aX : Int), v6 = .int .i64 aX ∧ Aside0 (spec_foSwap.j0 kq aX aH ar aI aJ aM aw an ah ax av = some (r1, r2, r3, r4, r5, r6, r7)) ∧ Aside0 (kq ≤ k) ∧ Aside0 (Kd.R (Kd.int .i64) 3 wc w.heap.size (fun k_ => some k_ ≠ ((.slice (some aS) ah.length aE) : Value).ownBlock ∧ some k_ ≠ ((.slice aF av.length aG) : Value).ownBlock) (.slice az an.length aA) an) ∧ Aside0 (Kd.R (Kd.int .i64) 3 wc w.heap.size (fun k_ => some k_ ≠ ((.slice az an.length aA) : Value).ownBlock ∧ some k_ ≠ ((.slice aF av.length aG) : Value).ownBlock) (.slice (some aS) ah.length aE) ah) ∧ Aside0 (Kd.R Kd.bool 4 wc w.heap.size (fun _ => True) (.slice aK ax.length aL) ax) ∧ Aside0 (Kd.R (Kd.int .i64) 3 wc w.heap.size (fun k_ => some k_ ≠ ((.slice az an.length aA) : Value).ownBlock ∧ some k_ ≠ ((.slice (some aS) ah.length aE) : Value).ownBlock) (.slice aF av.length aG) av) ∧ Aside0 (wc.heap[aR]? = some (.cells #[(.slice aY aH.length aZ), (.slice (some bf) ar.length a0), (.slice a1 aI.length a2), (.slice a3 aJ.length a4), (.slice a7 aM.length a8), (.slice (some aW) aw.length bb)] 29 (0, 0))) ∧ Aside0 (wc.heap[ae]? = some (.cells #[(.slice none 0 0), (.slice none 0 0), (.slice none 0 0), (.slice none 0 0), (.slice none 0 0), (.slice none 0 0)] 29 (0, 0))) ∧ Aside0 (wc.heap[ab]? = some (.cells #[(.slice az an.length aA), (.slice (some aS) ah.length aE), (.slice aK ax.length aL), (.slice aF av.length aG)] 27 (0, 0))) ∧ Aside0 (Below w.heap.size w wc))
       case first =>
        have H := bK.1
        clear bK
        by_cases bO : (rd ah au) > (rd ar au)
        ·rw [if_pos bO] at H
         have a9 : decide ((rd ar au) < (rd ah au)) = true := Z35 bO
         clear bO
         (first | rw [a9] | (simp only [i64_w, i32_w]; rw [a9]) | skip)
         have H' := Ya H
         clear H
         go_wp2
         go_meet
         case rel => exact ⟨_, (wrap64 ((rd aw (aT)) - 1)), (by first | rfl | (simp; done) | (simp only [← aV] <;> (first | rfl | simp)) | (simp [*]; done)), H', ⟨Q43⟩, ⟨by (with_reducible repeat (first | apply Z9 | apply Z10 | apply Z11)); exact aB.1⟩, ⟨by (with_reducible repeat (first | apply Z9 | apply Z10 | apply Z11)); exact ay.1⟩, ⟨by (with_reducible repeat (first | apply Z9 | apply Z10 | apply Z11)); exact aC.1⟩, ⟨by (with_reducible repeat (first | apply Z9 | apply Z10 | apply Z11)); exact aD.1⟩, ⟨by (with_reducible repeat (first | refine Z22 ?_ _ | refine Z23 ?_ | refine Z24 ?_ _)); exact ad.1⟩, ⟨by (with_reducible repeat (first | refine Z22 ?_ _ | refine Z23 ?_ | refine Z24 ?_ _)); exact ac.1⟩, ⟨by (with_reducible repeat (first | refine Z22 ?_ _ | refine Z23 ?_ | refine Z24 ?_ _)); exact ag.1⟩, ⟨Q12⟩⟩
        ·rw [if_neg bO] at H
         have a9 : decide ((rd ar au) < (rd ah au)) = false := Z34 bO
         clear bO
         (first | rw [a9] | (simp only [i64_w, i32_w]; rw [a9]) | skip)
         have H' := Ya H
         clear H
         go_wp2
         go_meet
         case rel => exact ⟨_, (rd aw (aT)), (by first | rfl | (simp; done) | (simp only [← aV] <;> (first | rfl | simp)) | (simp [*]; done)), H', ⟨Q43⟩, ⟨by (with_reducible repeat (first | apply Z9 | apply Z10 | apply Z11)); exact aB.1⟩, ⟨by (with_reducible repeat (first | apply Z9 | apply Z10 | apply Z11)); exact ay.1⟩, ⟨by (with_reducible repeat (first | apply Z9 | apply Z10 | apply Z11)); exact aC.1⟩, ⟨by (with_reducible repeat (first | apply Z9 | apply Z10 | apply Z11)); exact aD.1⟩, ⟨by (with_reducible repeat (first | refine Z22 ?_ _ | refine Z23 ?_ | refine Z24 ?_ _)); exact ad.1⟩, ⟨by (with_reducible repeat (first | refine Z22 ?_ _ | refine Z23 ?_ | refine Z24 ?_ _)); exact ac.1⟩, ⟨by (with_reducible repeat (first | refine Z22 ?_ _ | refine Z23 ?_ | refine Z24 ?_ _)); exact ag.1⟩, ⟨Q12⟩⟩
       case rest =>
        clear bK
        try clear bZ
        try clear b0
        try clear a5
        try clear aO
        try clear bi
        try clear bk
        try clear bj
        try clear bl
        obtain ⟨kq, aX, rfl, HA, eC, ak, al, aq, am, ad, ac, ag, HB⟩ := hcut
        cases kq with
        | zero => exact absurd HA.1 (by simp [spec_foSwap.j0])
        | succ b1 =>
         have H := HA.1
         clear HA
         simp only [spec_foSwap.j0] at H
         replace H := YB H
         obtain ⟨bm, eD, H⟩ := H
         replace H := YB H
         obtain ⟨b2, eE, H⟩ := H
         simp only [Option.some.injEq, Prod.mk.injEq] at H
         obtain ⟨rfl, rfl, rfl, rfl, rfl, rfl, rfl⟩ := H
         have en := ai.1
         have eo := aj.1
         have ep := ap.1
         have eq := aN.1
         have eF := Y6 ad.1
         try go_wp2_with (first | ((with_reducible refine gate_callee (f := 58) rfl ?_); refine Yz 43 Tryz.func58 #[.slice a7 aM.length a8, .agg #[.int .i64 0, .int .i64 aX, .int .i64 (wrap64 (aX + 1))]] ?_; (with_reducible refine (spec_moApply.calls b1 _ _ aM 0 aX (wrap64 (aX + 1)) bm _ (Yc (Z19 bQ.1 HB.1)) bR.1 eD.1).mono ?_); rintro e eG ⟨eH, rfl, a6, hb⟩; refine ⟨_, rfl, ?_⟩; replace aq := Yw aq hb; have aQ := Yl (YW (YW (YW a6 ak) al) am); replace ak := YE ak a6 hb; replace al := YE al a6 hb; replace am := YE am a6 hb; replace ad := Yb ad hb; replace ac := Yb ac hb; replace ag := Yb ag hb; replace HB := Yh hb; (try clear hb a6)))
         replace ak := Ya (Z11 ak.1)
         replace al := Ya (Z11 al.1)
         replace aq := Ya (Z11 aq.1)
         replace am := Ya (Z11 am.1)
         replace aQ := Ya (Z11 aQ.1)
         replace ad := Ya (Z23 ad.1)
         replace ac := Ya (Z23 ac.1)
         replace ag := Ya (Z23 ag.1)
         replace HB := Ya (Z4 HB.1)
         obtain ⟨b3, b4, b5⟩ := Z15 aQ.1
         (first | subst b5 | (injection b5 with f1_ f2_ f3_; have f4_ := f1_.symm; have f5_ := f3_.symm; clear f1_ f2_ f3_; subst f4_; subst f5_))
         refine start_ (n := 8) (S := fun w' => w'.cell? ⟨ab, 0, none⟩ = some (.slice az an.length aA) ∧ w'.cell? ⟨ab, 1, none⟩ = some (.slice (some aS) ah.length aE) ∧ w'.cell? ⟨ab, 2, none⟩ = some (.slice aK ax.length aL) ∧ w'.cell? ⟨ab, 3, none⟩ = some (.slice aF av.length aG)) (ds := []) (YA 8 0) (by kernel_rfl) rfl rfl (Yz4 ag.1) (fun hHeld => ?_); refine with_tabW spec_foSwap.tab8 spec_foSwap.bits8 (fun HT_ HW_ => ?_)
         generalize eG.drew = eT at ak al aq am aQ ad ac ag HB hHeld ⊢
         refine Yp 1 (some 45) (YA 8 2) rfl HT_.1 ?_
         refine Yp 2 (some 46) (YA 8 6) rfl HT_.1 ?_
         refine Yp 5 (some 49) (YA 8 38) rfl HT_.1 ?_
         refine Yt 0 (some 44) (YA 8 39) rfl HT_.1 HW_.1 hHeld Q8 ?_
         refine one_ (i := 3) (N := some 47) (YA 8 47) rfl rfl (one_of HT_.1 (by kernel_rfl)) (by decide) (fun K hK => ?_)
         refine goes_ Tryz.func59 (by kernel_rfl) rfl #[.slice b3 bm.length b4] (by rfl) rfl rfl Q20 ?_
         with_reducible refine (spec_raInverse.calls b1 _ _ bm b2 _ ?b6 ?b7 eE.1).mono ?_
         (case b6 => exact Yc (Kd.R_reads' aQ.1).2.2)
         (case b7 => exact (Kd.R_reads' aQ.1).2.1)
         rintro e bP ⟨eI, rfl, a6, hb⟩
         refine ⟨_, rfl, ?_⟩
         replace aq := Yw aq hb
         have bJ := Yl (YW (YW (YW (YW a6 ak) al) am) aQ)
         replace ak := YE ak a6 hb
         replace al := YE al a6 hb
         replace am := YE am a6 hb
         replace aQ := YE aQ a6 hb
         replace ad := Yb ad hb
         replace ac := Yb ac hb
         replace ag := Yb ag hb
         replace HB := Yh hb
         (try clear hb a6)
         obtain ⟨d5, d6, b8⟩ := Z15 bJ.1
         (first | subst b8 | (injection b8 with f1_ f2_ f3_; have f4_ := f1_.symm; have f5_ := f3_.symm; clear f1_ f2_ f3_; subst f4_; subst f5_))
         refine hK.out _ _ (Yz4 ag.1) (fun hHeld => ?_)
         clear hK K
         refine YNa 47 ?_
         refine Yp 4 (some 48) (YA 8 63) rfl HT_.1 ?_
         refine one_ (i := 6) (N := none) (YA 8 127) rfl rfl (one_of HT_.1 (by kernel_rfl)) (by decide) (fun K hK => ?_)
         have eJ : bP.cell? ⟨ae, 0, none⟩ = some (.slice none 0 0) := (Z20 ac.1 0).trans rfl
         have hfs52 := Z21 ac.1 0
         have dh := ai.1
         have di := aa.1
         have dj := aj.1
         have dk := af.1
         have eK : bP.cell? ⟨ae, 1, none⟩ = some (.slice none 0 0) := (Z20 ac.1 1).trans rfl
         have hfs53 := Z21 ac.1 1
         have dl := ai.1
         have dm := aa.1
         have dn := aj.1
         have dp := af.1
         have eL : bP.cell? ⟨ae, 2, none⟩ = some (.slice none 0 0) := (Z20 ac.1 2).trans rfl
         have hfs54 := Z21 ac.1 2
         have dq := ai.1
         have dr := aa.1
         have dt := aj.1
         have du := af.1
         have eM : bP.cell? ⟨ae, 3, none⟩ = some (.slice none 0 0) := (Z20 ac.1 3).trans rfl
         have hfs55 := Z21 ac.1 3
         have dv := ai.1
         have dw := aa.1
         have dx := aj.1
         have dy := af.1
         have eN : bP.cell? ⟨ae, 4, none⟩ = some (.slice none 0 0) := (Z20 ac.1 4).trans rfl
         have hfs56 := Z21 ac.1 4
         have dz := ai.1
         have dA := aa.1
         have dB := aj.1
         have dC := af.1
         have eO : bP.cell? ⟨ae, 5, none⟩ = some (.slice none 0 0) := (Z20 ac.1 5).trans rfl
         have hfs57 := Z21 ac.1 5
         have dD := ai.1
         have dE := aa.1
         have dF := aj.1
         have dG := af.1
         refine YNc ?_
         refine hK.out _ _ ⟨((cell_far (p := ⟨ae, _, none⟩) aa.1 _).trans (((cell_far (p := ⟨ae, _, none⟩) aa.1 _).trans (((cell_far (p := ⟨ae, _, none⟩) aa.1 _).trans (((cell_far (p := ⟨ae, _, none⟩) aa.1 _).trans (((cell_far (p := ⟨ae, _, none⟩) aa.1 _).trans (((cell_far (p := ⟨ae, _, none⟩) aa.1 _).trans (hHeld.1)))))))))))), ((cell_far (p := ⟨ae, _, none⟩) aa.1 _).trans (((cell_far (p := ⟨ae, _, none⟩) aa.1 _).trans (((cell_far (p := ⟨ae, _, none⟩) aa.1 _).trans (((cell_far (p := ⟨ae, _, none⟩) aa.1 _).trans (((cell_far (p := ⟨ae, _, none⟩) aa.1 _).trans (((cell_far (p := ⟨ae, _, none⟩) aa.1 _).trans (hHeld.2.1)))))))))))), ((cell_far (p := ⟨ae, _, none⟩) aa.1 _).trans (((cell_far (p := ⟨ae, _, none⟩) aa.1 _).trans (((cell_far (p := ⟨ae, _, none⟩) aa.1 _).trans (((cell_far (p := ⟨ae, _, none⟩) aa.1 _).trans (((cell_far (p := ⟨ae, _, none⟩) aa.1 _).trans (((cell_far (p := ⟨ae, _, none⟩) aa.1 _).trans (hHeld.2.2.1)))))))))))), ((cell_far (p := ⟨ae, _, none⟩) aa.1 _).trans (((cell_far (p := ⟨ae, _, none⟩) aa.1 _).trans (((cell_far (p := ⟨ae, _, none⟩) aa.1 _).trans (((cell_far (p := ⟨ae, _, none⟩) aa.1 _).trans (((cell_far (p := ⟨ae, _, none⟩) aa.1 _).trans (((cell_far (p := ⟨ae, _, none⟩) aa.1 _).trans (hHeld.2.2.2))))))))))))⟩ (fun hHeld => ?_)
         clear hK K
         refine Yp 7 (some 3) (YA 8 255) rfl HT_.1 ?_
         refine done_ (done_of HT_.1 (by kernel_rfl)) ?_
         try go_wp2
         refine bodyPost_ret (results_ct rfl _ _ ae 29 #[.slice az an.length aA, .slice (some aS) ah.length aE, .slice aK ax.length aL, .slice aF av.length aG, .slice b3 bm.length b4, .slice d5 b2.length d6] (0, 0) _ rfl (Yk (Yv6 ac.1)) Tryz.underlying29 rfl (by kernel_rfl)) rfl ?_
         exact ⟨_, _, _, _, _, _, by first | rfl | (simp [errW_none, errW_some] <;> rfl) | (simp only [← aV]; first | rfl | (simp [errW_none, errW_some] <;> rfl)) | (simp [*, errW_none, errW_some] <;> rfl), Yj (Yf6 ak.1 ac.1) (fun _ hk => ⟨hk.1.1.1.1, ⟨hk.1.1.1.2, ⟨hk.1.1.2, hk.1.2⟩⟩⟩), Yj (Yf6 al.1 ac.1) (fun _ hk => ⟨hk.1.1.1.1, ⟨hk.1.1.1.2, ⟨hk.1.1.2, hk.1.2⟩⟩⟩), Yj (Yf6 aq.1 ac.1) (fun _ hk => trivial), Yj (Yf6 am.1 ac.1) (fun _ hk => ⟨hk.1.1.1.1, ⟨hk.1.1.1.2, ⟨hk.1.1.2, hk.1.2⟩⟩⟩), Yj (Yf6 aQ.1 ac.1) (fun _ hk => ⟨hk.1.1.1.1.2, ⟨hk.1.1.1.2, ⟨hk.1.1.2, hk.1.2⟩⟩⟩), Yj (Yf6 bJ.1 ac.1) (fun _ hk => ⟨hk.1.1.1.1.2, ⟨hk.1.1.1.2, ⟨hk.1.1.2, hk.1.2⟩⟩⟩), Q12⟩
      ·rw [if_neg bZ] at H
       exact absurd H (by simp)
     ·rw [if_neg cA] at H
      exact absurd H (by simp)
    ·rw [if_neg cz] at H
     exact absurd H (by simp)
   ·rw [if_neg cy] at H
    exact absurd H (by simp)
  ·rw [if_neg cx] at H
   exact absurd H (by simp)
def spec_raUpTo.l0 : Nat → Int → List Int → Int → Option (List Int)
 | 0, _, _, _ => none
 | k + 1, x0, x3, x4 => if x4 < x0 then (if x3.length < 17592186044416 then (spec_raUpTo.l0 k x0 (x3 ++ [x4]) (wrap64 (x4 + 1))) else (none)) else (some x3)
def spec_raUpTo.f (k : Nat) (a0 : Int) : Option (List Int) := spec_raUpTo.l0 k a0 ([] : List Int) 0
theorem spec_raUpTo.calls (k : Nat) (a0 : Int) (r : List Int) (w : World) (h : spec_raUpTo.f k a0 = some r) :
  Calls Tryz.prog 75 #[.int .i64 a0] w fun e w' => ∃ v0_ : Value, e = .returned (v0_) ∧ Kd.R (Kd.int .i64) 3 w' w.heap.size (fun _ => True) v0_ r ∧ Below w.heap.size w w' := by
 have HB := Ya (Below.refl w.heap.size w)
 have H : (spec_raUpTo.l0 k a0 ([] : List Int) 0) = some r := h
 clear h
 have H' := Ya H
 clear H
 go_enter Tryz.func75, Tryz.ntmps75
 go_wp2
 go_loopg [3, 4] k (fun kq v3 v4 w' => ∃ (ac : List Int) (aa : Int), v4 = .int .i64 aa ∧ Aside0 (spec_raUpTo.l0 kq a0 ac aa = some r) ∧ Aside0 (kq ≤ k) ∧ Aside0 (Kd.R (Kd.int .i64) 3 w' w.heap.size (fun _ => True) v3 ac) ∧ Aside0 (Below w.heap.size w w'))
 case atStart => exact ⟨(([] : List Int)), (0), Q17, H', ⟨Nat.le_refl _⟩, ⟨Q3⟩, ⟨Q12⟩⟩
 case round =>
  clear H'
  obtain ⟨ac, aa, rfl, HA, HK1, HO_3, HB⟩ := hrel
  cases gk with
  | zero => exact absurd HA.1 (by simp [spec_raUpTo.l0])
  | succ k1 =>
   have H := HA.1
   clear HA
   simp only [spec_raUpTo.l0] at H
   by_cases c2 : aa < a0
   ·rw [if_pos c2] at H
    have ag := Z35 c2
    clear c2
    by_cases c3 : ac.length < 17592186044416
    ·rw [if_pos c3] at H
     have LMc3 := Ya c3
     clear c3
     obtain ⟨ad, ab⟩ : ∃ y_ : List Int, y_ = (ac ++ [aa]) := ⟨_, rfl⟩
     replace H : (spec_raUpTo.l0 k1 a0 ad (wrap64 (aa + 1))) = some r := by first | (rw [ab]; with_reducible exact H) | (have H2_ := (Option.bind_some _ _).symm.trans H; rw [ab]; with_reducible exact H2_) | (have H2_ := (Option.bind_some _ _).symm.trans H; with_reducible exact H2_) | with_reducible exact H | (rw [ab]; exact H) | exact H
     have ae := Ya ab
     clear ab
     have H' := Ya H
     clear H
     go_wp2_with (first | ((with_reducible refine gate_builtin (b := .append) (xs := #[.tmp 10, .tmp 12]) rfl ?_); at_builtin; refine Kd.R_append (Kd.int .i64) (w0 := w) w.heap.size rfl (.tmp 10) (.tmp 12) 24 3 (.int .i64 0) 8 rfl Tryz.underlying24 info3 rfl (by decide) (by omega) u3 ac aa [.int .i64 aa] (fun _ => True) (fun _ => False) rfl rfl ?aP (fun _ hk => hk.elim) ?aF ?aO ?aB ?aS ?aL ?_; (case aP => exact rfl); (case aB => exact Q0); (case aF => exact (fun _ _ => trivial)); (case aO => exact (Yr HO_3.1)); (case aS => exact (Z7 Q0)); (case aL => have := LMc3.1; omega); intro ah w4 ho hb hg hat; rw [← ae.1] at ho; replace HB := Ya hb; have af := Ya ho; clear HO_3; clear ho hb hg hat))
     go_roundg k1
     case measure => have := HK1.1; omega
     case rel => exact ⟨(ad), (wrap64 (aa + 1)), Q17, H', ⟨Q35⟩, ⟨by (with_reducible repeat (first | apply Z9 | apply Z10 | apply Z11)); exact af.1⟩, ⟨Q12⟩⟩
    ·rw [if_neg c3] at H
     exact absurd H (by simp)
   ·rw [if_neg c2] at H
    have ag := Z34 c2
    clear c2
    obtain rfl := Option.some.inj H
    go_wp2
    go_ret
    exact ⟨_, Q2, Q48, Q12⟩
end Go.Proofs.YtapbbmicfkbafaaGreat.MFnSwappers
