import Derived.Test.YtllhnnjkonghlaaMFnGreedyListsx0
import Derived.Test.YtllhnnjkonghlaaMFnGreedyListsx1
import Derived.Test.YtllhnnjkonghlaaMFnGreedyListsx2
namespace Go.Proofs.Ytllhnnjkonghlaa.MFnGreedyLists
open Go.RowKit Go.Proofs.YtllhnnjkonghlaaW.PrintWords Go.Proofs.YtllhnnjkonghlaaW.PrintLast Go.Proofs.YtllhnnjkonghlaaW.PrintMore
attribute [local go_sem] max2_int min2_int max_two min_two max_three min_three max_four min_four   
set_option linter.unusedVariables false
set_option linter.unusedSimpArgs false
def slices_Equal_int_int.l0 : Nat → List Int → List Int → Int → Int → Option (Bool)
 | 0, _, _, _, _ => none
 | k + 1, x0, x1, x12, x13 => if x13 < x12 then (if 0 ≤ x13 then (if x13 < (x0.length : Int) then (if x13 < (x1.length : Int) then (if (rd x0 x13) = (rd x1 x13) then (slices_Equal_int_int.l0 k x0 x1 x12 (wrap64 (x13 + 1))) else (some false)) else (none)) else (none)) else (none)) else (some true)
def slices_Equal_int_int.f (k : Nat) (l0 : List Int) (l1 : List Int) : Option (Bool) := if (l0.length : Int) = (l1.length : Int) then (slices_Equal_int_int.l0 k l0 l1 (l0.length : Int) 0) else (some false)
theorem slices_Equal_int_int.mono_l : ∀ k, (∀ y0 y1 y2 y3, LeO (slices_Equal_int_int.l0 k y0 y1 y2 y3) (slices_Equal_int_int.l0 (k + 1) y0 y1 y2 y3))
 | 0 => fun _ _ _ _ r h => by simp [slices_Equal_int_int.l0] at h
 | k + 1 => by
  have ih0 := slices_Equal_int_int.mono_l k
  ·intro y0 y1 y2 y3
   unfold slices_Equal_int_int.l0
   repeat' first
   | (with_reducible exact ih0 _ _ _ _)
   | (with_reducible exact LeO.refl _)
   | (with_reducible exact LeO.none _)
   | (with_reducible refine LeO.ite ?_ ?_)
   | (with_reducible refine LeO.bind ?_ (fun _ => ?_))
   | exact ih0 _ _ _ _
   | exact LeO.none _
   | refine LeO.ite ?_ ?_
   | refine LeO.bind ?_ (fun _ => ?_)
theorem slices_Equal_int_int.mono : ∀ a0 a1 k, LeO (slices_Equal_int_int.f k a0 a1) (slices_Equal_int_int.f (k + 1) a0 a1) := by
 intro a0 a1 k
 have ih0 := slices_Equal_int_int.mono_l k
 unfold slices_Equal_int_int.f
 repeat' first
   | (with_reducible exact ih0 _ _ _ _)
   | (with_reducible exact LeO.refl _)
   | (with_reducible exact LeO.none _)
   | (with_reducible refine LeO.ite ?_ ?_)
   | (with_reducible refine LeO.bind ?_ (fun _ => ?_))
   | exact ih0 _ _ _ _
   | exact LeO.none _
   | refine LeO.ite ?_ ?_
   | refine LeO.bind ?_ (fun _ => ?_)
set_option maxHeartbeats 8000000 in
set_option maxRecDepth 100000 in
theorem slices_Equal_int_int.calls (k : Nat) (A0 : Option Addr) (c0 : Nat) (l0 : List Int) (A1 : Option Addr) (c1 : Nat) (l1 : List Int) (r : Bool) (w : World) (hr0 : Kd.C (Kd.int .i64) w A0 l0.length l0) (hc0 : l0.length ≤ c0) (hr1 : Kd.C (Kd.int .i64) w A1 l1.length l1) (hc1 : l1.length ≤ c1) (h : slices_Equal_int_int.f k l0 l1 = some r) :
  Calls Try.prog 90 #[.slice A0 l0.length c0, .slice A1 l1.length c1] w fun e w' => e = .returned (.bool r) ∧ Drawn0 w w' := by
 have HR0 := Ya hr0
 have HC0 := Ya hc0
 clear hr0 hc0
 have HR1 := Ya hr1
 have HC1 := Ya hc1
 clear hr1 hc1
 have H : (if (l0.length : Int) = (l1.length : Int) then (slices_Equal_int_int.l0 k l0 l1 (l0.length : Int) 0) else (some false)) = some r := h
 clear h
 by_cases c3 : (l0.length : Int) = (l1.length : Int)
 ·rw [if_pos c3] at H
  have c3b0 : ((l0.length : Int) == (l1.length : Int)) = true := beq_iff_eq.mpr c3
  have c3b1 : ((l0.length : Int) != (l1.length : Int)) = false := bne_eq_false_iff_eq.mpr c3
  have c3b2 : (l0.length == l1.length) = true := by first | simpa using c3 | (simp at c3 ⊢; omega)
  clear c3
  have H' := Ya H
  clear H
  go_enter Try.func90, Try.ntmps90
  go_wp2
  repeat (go_quiet (fail); try go_wp2)
  go_loopg [13] k (fun kq v13 w' => ∃ (x13_1 : Int), v13 = .int .i64 x13_1 ∧ Aside0 (slices_Equal_int_int.l0 kq l0 l1 (l0.length : Int) x13_1 = some r) ∧ Aside0 (kq ≤ k) ∧ Drawn0 w w')
  case atStart => exact ⟨(0), Q5, H', ⟨Nat.le_refl _⟩, Q7⟩
  case round =>
   clear H'
   try clear c1
   try clear p2
   try clear c3
   try clear c3b0
   try clear c3b1
   try clear c3b2
   obtain ⟨x13_1, rfl, HA, HK1, ⟨m1, rfl⟩⟩ := hrel
   cases gk with
   | zero => exact absurd HA.out (by simp [slices_Equal_int_int.l0])
   | succ k1 =>
    have H := HA.out
    clear HA
    simp only [slices_Equal_int_int.l0] at H
    by_cases c4 : x13_1 < (l0.length : Int)
    ·rw [if_pos c4] at H
     have c4b0 := Z37 c4
     clear c4
     by_cases c5 : 0 ≤ x13_1
     ·rw [if_pos c5] at H
      have c5b0 := Z37 c5
      clear c5
      by_cases c6 : x13_1 < (l0.length : Int)
      ·rw [if_pos c6] at H
       have c6b0 := Z37 c6
       clear c6
       by_cases c7 : x13_1 < (l1.length : Int)
       ·rw [if_pos c7] at H
        have c7b0 := Z37 c7
        clear c7
        by_cases c8 : (rd l0 x13_1) = (rd l1 x13_1)
        ·rw [if_pos c8] at H
         have c8b0 : ((rd l0 x13_1) == (rd l1 x13_1)) = true := beq_iff_eq.mpr c8
         have c8b1 : ((rd l0 x13_1) != (rd l1 x13_1)) = false := bne_eq_false_iff_eq.mpr c8
         clear c8
         have H' := Ya H
         clear H
         have p161 : 0 ≤ (x13_1 : Int) := Z29 Q1
         have q161 : x13_1 < (l0.length : Int) := Z29 Q1
         obtain ⟨ad161, e161, hx161_0⟩ := Kd.at_int HR0.out x13_1 p161 q161
         cases e161
         replace p161 := eq_true p161
         replace q161 := eq_true q161
         have p162 : 0 ≤ (x13_1 : Int) := Z29 Q1
         have q162 : x13_1 < (l1.length : Int) := Z29 Q1
         obtain ⟨ad162, e162, hx162_0⟩ := Kd.at_int HR1.out x13_1 p162 q162
         cases e162
         replace p162 := eq_true p162
         replace q162 := eq_true q162
         go_wp2
         repeat (go_quiet (fail); try go_wp2)
         go_roundg k1
         case measure => have := HK1.out; omega
         case rel => exact ⟨(wrap64 (x13_1 + 1)), Q5, H', ⟨Q28⟩, Q7⟩
        ·rw [if_neg c8] at H
         have c8b0 : ((rd l0 x13_1) == (rd l1 x13_1)) = false := beq_eq_false_iff_ne.mpr c8
         have c8b1 : ((rd l0 x13_1) != (rd l1 x13_1)) = true := bne_iff_ne.mpr c8
         obtain rfl := Option.some.inj H
         have p161 : 0 ≤ (x13_1 : Int) := Z29 Q1
         have q161 : x13_1 < (l0.length : Int) := Z29 Q1
         obtain ⟨ad161, e161, hx161_0⟩ := Kd.at_int HR0.out x13_1 p161 q161
         cases e161
         replace p161 := eq_true p161
         replace q161 := eq_true q161
         have p162 : 0 ≤ (x13_1 : Int) := Z29 Q1
         have q162 : x13_1 < (l1.length : Int) := Z29 Q1
         obtain ⟨ad162, e162, hx162_0⟩ := Kd.at_int HR1.out x13_1 p162 q162
         cases e162
         replace p162 := eq_true p162
         replace q162 := eq_true q162
         go_wp2
         repeat (go_quiet (fail); try go_wp2)
         go_ret
         exact ⟨Q18, Q7⟩
       ·rw [if_neg c7] at H
        exact absurd H (by simp)
      ·rw [if_neg c6] at H
       exact absurd H (by simp)
     ·rw [if_neg c5] at H
      exact absurd H (by simp)
    ·rw [if_neg c4] at H
     have c4b0 := Z36 c4
     clear c4
     obtain rfl := Option.some.inj H
     go_wp2
     repeat (go_quiet (fail); try go_wp2)
     go_ret
     exact ⟨Q18, Q7⟩
 ·rw [if_neg c3] at H
  have c3b0 : ((l0.length : Int) == (l1.length : Int)) = false := beq_eq_false_iff_ne.mpr c3
  have c3b1 : ((l0.length : Int) != (l1.length : Int)) = true := bne_iff_ne.mpr c3
  have c3b2 : (l0.length == l1.length) = false := by first | simpa using c3 | (simp at c3 ⊢; omega)
  obtain rfl := Option.some.inj H
  go_enter Try.func90, Try.ntmps90
  go_wp2
  repeat (go_quiet (fail); try go_wp2)
  go_ret
  exact ⟨Q18, Q7⟩
def impl_IsPermutation.f (k : Nat) (l0 : List Int) : Option Bool := if l0.length ≤ 12 then ((impl_identity.f k (l0.length : Int)).bind fun d => slices_Equal_int_int.f k (l0.mergeSort (fun x y => decide (x ≤ y))) d) else some false
theorem impl_IsPermutation.mono : ∀ a0 k, LeO (impl_IsPermutation.f k a0) (impl_IsPermutation.f (k + 1) a0) := by
 intro a0 k
 unfold impl_IsPermutation.f
 repeat' first
   | (with_reducible exact impl_identity.mono _ _)
   | (with_reducible exact slices_Equal_int_int.mono _ _ _)
   | (with_reducible exact LeO.refl _)
   | (with_reducible exact LeO.none _)
   | (with_reducible refine LeO.ite ?_ ?_)
   | (with_reducible refine LeO.bind ?_ (fun _ => ?_))
   | exact impl_identity.mono _ _
   | exact slices_Equal_int_int.mono _ _ _
   | exact LeO.none _
   | refine LeO.ite ?_ ?_
   | refine LeO.bind ?_ (fun _ => ?_)
open Go.Maps Go.Sort Go.Shelf in
shelf_lay_g SlLaysZI.n6 Ggz 6 at Try 91 as Try.sortedA
open Go.Maps Go.Sort Go.Shelf in
shelf_lay_g SlLaysM.n5 Slgm 5 at Try 102 as Try.sortA
open Go.Maps Go.Sort Go.Shelf in
theorem impl_IsPermutation.sorts (m : Nat) : AnyZI.SortsIn Try.prog Try.sortedA_ren Fence.wide m :=
 ⟨fun blk off cap ss W hH hblk hsz => callsIn_wide.2 (AnyM.slices_Sort_int Try.sortA blk off cap ss W hH hblk hsz),
  fun p cap W => callsIn_wide.2 (AnyM.slices_Sort_int_none Try.sortA p cap W)⟩
open Go.Maps Go.Sort Go.Shelf in
def impl_IsPermutation.GivesB (F : Fence) (n : Nat) (P : Program) (g : Nat) (lb : Array Value) (N : Nat) (S : List Int → Prop) (w : World) : Prop :=
 ∀ (lp : Nat) (J : List Int → World → Prop) (W : World), Below w.heap.size w W → AbidesFrom W.heap.size J → (∀ s W', J s W' → Below w.heap.size w W') →
  (∀ pre x W1, J pre W1 → pre.length < N → YieldAt F (n - 1) P lp #[encZ x] W1 fun e W' => e = .returned (.bool true) ∧ J (pre ++ [x]) W' ∧ KeepsWalks W1 W') → J [] W →
  CallsIn F n P g (#[.func (.yield lp) #[] #[]] ++ lb) W fun e W' => (∃ v, e = .returned v) ∧ ∃ xs, S xs ∧ J xs W'
theorem impl_IsPermutation.takeRd (l : List Int) (i : Nat) (ci : i < l.length) : l.take (i + 1) = l.take i ++ [rd l (i : Int)] := by
 rw [List.take_add_one, List.getElem?_eq_getElem ci]
 unfold rd
 rw [Int.toNat_natCast, List.getD_eq_getElem?_getD, List.getElem?_eq_getElem ci]; rfl
set_option maxRecDepth 100000 in
set_option maxHeartbeats 2000000 in
open Go.Maps Go.Sort Go.Shelf in
theorem impl_IsPermutation.values (n : Nat) (hn : 1 ≤ n) (Bm : Nat) (A : Option Addr) (c : Nat) (l : List Int) (hll : l.length < 1000000) (w : World) (hBm : w.heap[Bm]? = some (.cells #[.slice A l.length c] 24 (0, 0))) (hr : Kd.C (Kd.int .i64) w A l.length l) :
  impl_IsPermutation.GivesB Fence.wide n Try.prog 103 #[.pointer (some ⟨Bm, 0, none⟩)] l.length (fun xs => xs = l) w := by
 intro lp J W hW hJ hJB hY h0
 have hBlt : Bm < w.heap.size := (Array.getElem?_eq_some_iff.1 hBm).1
 have hc : W.cell? ⟨Bm, 0, none⟩ = some (.slice A l.length c) := by simp [World.cell?, (hW.block Bm hBlt).trans hBm]
 refine callsIn_of_wp Try.func103 rfl trivial ?_ rfl
 simp only [Try.ntmps103, List.size_toArray, List.length_cons, List.length_nil, Nat.reduceAdd, Nat.reduceSub, Array.replicate_succ, Array.replicate_zero, List.push_toArray, List.append_toArray, List.nil_append, List.cons_append]
 gi_wp2
 gi_loopw [7] (fun v7 wr => ∃ i : Nat, v7 = .int .i64 (i : Int) ∧ i ≤ l.length ∧ J (l.take i) wr) (fun v7 _ => match v7 with | .int _ i => l.length - i.toNat | _ => 0)
 case atStart => exact ⟨0, rfl, Nat.zero_le _, by simpa using h0⟩
 case round =>
  obtain ⟨i, rfl, hi, hJi⟩ := hrel
  by_cases ci : i < l.length
  ·have c1 : decide ((i : Int) < (l.length : Int)) = true := Z37 (by omega)
   have hB := hJB _ _ hJi
   obtain ⟨ad, ead, hx⟩ := Kd.at_int (Z21 hr hB) (i : Int) (by omega) (by omega)
   subst ead
   simp only [Int.toNat_natCast] at hx
   obtain ⟨fn, tmps, assign, body, hy, hR⟩ := hY (l.take i) (rd l (i : Int)) wr hJi (by rw [Z31]; omega)
   have p1 : (0 ≤ (i : Int)) = True := eq_true (by omega)
   have p2 : ((i : Int) < (l.length : Int)) = True := eq_true (by omega)
   have ht1 := impl_IsPermutation.takeRd l i ci
   gi_wp2
   refine hR.mono ?_
   rintro e W3 ⟨rfl, hJ3, hk3⟩
   gi_wp2
   have hw1 : wrap64 ((i : Int) + 1) = ((i + 1 : Nat) : Int) := by unfold wrap64; omega
   go_roundw
   case rel => exact ⟨i + 1, by first | rw [hw1] | rfl | (simp; done) | (congr 1; omega), by omega, by rw [ht1]; exact hJ3⟩
   case measure =>
    (try rw [hw1])
    first
     | (show l.length - (((i + 1 : Nat) : Int)).toNat < l.length - ((i : Int)).toNat; omega)
     | (show l.length - ((i : Int) + 1).toNat < l.length - ((i : Int)).toNat; omega)
  ·have c1 : decide ((i : Int) < (l.length : Int)) = false := Z36 (by omega)
   gi_wp2
   go_end0
   exact ⟨⟨_, rfl⟩, l, rfl, by rw [List.take_of_length_le (by omega)] at hJi; exact hJi⟩
section
open Go.Maps Go.Sort Go.Shelf
variable {P : Program} {ρ : Ren}
set_option maxRecDepth 100000 in
set_option maxHeartbeats 2000000 in
theorem impl_IsPermutation.appendSeq (L : SlLaysZI.n11 P ρ) (F : Fence) (n : Nat) (h11 : F.fn (ρ.f 11)) (hro : F.round = none) (hn : 2 ≤ n) (g : Nat) (lb : Array Value) (hFg : F.fn g) (eg : ∀ args w, (callFunc g args).run P w = .ok (.enter g args) w)
  (S : List Int → Prop) (N : Nat) (hN : N ≤ maxLen) (hNb : N * 8 ≤ 140737488355328) (w : World) (hseq : impl_IsPermutation.GivesB F (n - 1) P g lb N S w) :
  CallsIn F n P (ρ.f 11) #[.slice none 0 0, .func (.func g) #[] lb] w fun e w' => ∃ (v : Value) (ss : List Int), e = .returned v ∧ S ss ∧ w'.ownsRow w.heap.size (ρ.t 26) 1 v ss.length (ss.map encZ) ∧ (v = .slice none 0 0 ↔ ss = []) ∧ Below w.heap.size w w' := by
 have h1 : 1 ≤ n := by omega
 have mixed := L.mixed; have t24 := L.t24; have a24 := L.a24; have z24 := L.z24; have v24 := L.v24; have t26 := L.t26; have a26 := L.a26; have z26 := L.z26; have v26 := L.v26; have t28 := L.t28; have a28 := L.a28; have z28 := L.z28; have v28 := L.v28; have t0 := L.t0; have a0 := L.a0; have z0 := L.z0; have v0 := L.v0
 have hne : ρ.t 24 ≠ ρ.t 26 := fun e => by have h := L.t24; rw [e, L.t26] at h; cases h
 have u0 := run_underlying L.t0; have u24 := run_underlying L.t24; have u26 := run_underlying L.t26; have u28 := run_underlying L.t28
 obtain ⟨_, _, FG⟩ := L.f11
 refine callsIn_of_wp_marks FG rfl h11 ?_ hro
 simp only [SlBodyZ.n11_ntmps ρ, List.size_toArray, List.length_cons, List.length_nil, Nat.reduceAdd, Nat.reduceSub, Array.replicate_succ, Array.replicate_zero, List.push_toArray, List.append_toArray, List.nil_append, List.cons_append]
 gi_wp2
 refine wpIn_rangeFunc ?_
 intro fn hfn
 rw [hro]
 
 generalize hW0 : w.alloc (.cells #[.slice none 0 0] (ρ.t 24)) = W0
 have hs0 : W0.heap.size = w.heap.size + 1 := by rw [← hW0]; simp
 have hv0 : W0.heap[w.heap.size]? = some (.cells #[.slice none 0 0] (ρ.t 24) (0, 0)) := by rw [← hW0]; exact World.alloc_heap_new w _
 have hb0 : Below w.heap.size w W0 := by rw [← hW0]; exact (Below.refl _ w).alloc (Nat.le_refl _) _
 generalize hW1 : (W0.alloc (.deferred (some []))).alloc (.loop (AnyZI.apRec ρ fn (.func (.func g) #[] lb) w.heap.size W0.heap.size .ready none)) = W1
 have hold : ∀ k, k < W0.heap.size → W1.heap[k]? = W0.heap[k]? := fun k hk => by
  rw [← hW1]; exact (Below.heap_alloc _ _ k (by simp; omega)).trans (Below.heap_alloc _ _ k hk)
 have hb1 : Below w.heap.size w W1 := by rw [← hW1]; exact (hb0.alloc hb0.size _).alloc (by have := hb0.size; simp; omega) _
 have hL1 : W1.heap[W0.heap.size + 1]? = some (.loop (AnyZI.apRec ρ fn (.func (.func g) #[] lb) w.heap.size W0.heap.size .ready none)) := by
  rw [← hW1]; have := World.alloc_heap_new (W0.alloc (.deferred (some []))) (.loop (AnyZI.apRec ρ fn (.func (.func g) #[] lb) w.heap.size W0.heap.size .ready none)); rwa [World.size_alloc] at this
 have hK1 : W1.heap[W0.heap.size]? = some (.deferred (some [])) := by
  rw [← hW1]; exact (Below.heap_alloc _ _ _ (by simp)).trans (World.alloc_heap_new W0 _)
 have hM : AnyZI.ApAt ρ w fn (.func (.func g) #[] lb) w.heap.size (W0.heap.size + 1) W0.heap.size [] W1 :=
  ⟨⟨_, (hold w.heap.size (by omega)).trans hv0, ⟨rfl, .inl ⟨rfl, rfl⟩⟩, by simp⟩, hL1, hK1, hb1⟩
 refine ⟨W0.heap.size + 1, [{ target := .collected W0.heap.size, args := #[] }], W1, { target := .fn (.func g) lb, args := #[.func (.yield (W0.heap.size + 1)) #[] #[]] }, W1, g,
  #[.func (.yield (W0.heap.size + 1)) #[] #[]] ++ lb, W1, ?_, ?_, ?_, ?_, fun _ => h1, ?_⟩
 ·rw [← hW1]; exact run_enterLoop_outer _ _ _ _ _
 ·simp [resolve, go_sem]
 ·intro f' hf'; simp [Target.leads] at hf'; subst hf'; exact hFg
 ·simp [invoke, go_sem, eg]
 ·refine (hseq (W0.heap.size + 1) (AnyZI.ApAt ρ w fn (.func (.func g) #[] lb) w.heap.size (W0.heap.size + 1) W0.heap.size) W1 hb1 (AnyZI.ap_abides ρ _ _ _ _ _ _ _ hb1.size) (fun s W' h => h.below)
   (fun pre x W hJ hl => AnyZI.apYield { L with } F (n - 1 - 1) w fn hfn _ w.heap.size (W0.heap.size + 1) W0.heap.size (by omega) (by omega) (by omega) (Nat.le_refl _) (by omega) N hN hNb pre x W hJ hl) hM).mono ?_
  rintro e W2 ⟨⟨v0, rfl⟩, ss, hS, h2⟩
  obtain ⟨v, hv, hrow, hnil⟩ := h2.box
  have hend := run_endLoop (P := P) h2.L (by simp [AnyZI.apRec])
  generalize hW3 : W2.putObj (W0.heap.size + 1) (.loop { AnyZI.apRec ρ fn (.func (.func g) #[] lb) w.heap.size W0.heap.size .ready none with state := .exhausted }) = W3 at hend
  have hg3 : W2.grownBy W3 (some (W0.heap.size + 1)) := by rw [← hW3]; exact grownBy_putObj_a _ _ _
  have hv3 : W3.heap[w.heap.size]? = some (.cells #[v] (ρ.t 24) (0, 0)) := by rw [← hW3]; exact (World.putObj_heap_other (by omega)).trans hv
  have hK3 : W3.heap[W0.heap.size]? = some (.deferred (some [])) := by rw [← hW3]; exact (World.putObj_heap_other (by omega)).trans h2.K
  have hrow3 := hrow.kept hg3 (ownsRow_ne_a hrow h2.L (fun cur e => by first | cases e | exact hne (Obj.cells.inj e).2.1))
  have hb3 : Below w.heap.size w W3 := h2.below.grown hg3 h2.below.size (fun k e => by cases e; omega)
  obtain ⟨hc3, hf3⟩ := cell_of_box_a hv3
  clear hW3
  refine ⟨none, W3, hend, ?_⟩
  gi_wp2
  rw [← hs0]
  refine ⟨by simp, .inl ⟨_, _, rfl, run_takeDeferred hK3, ?_⟩⟩
  exact ⟨_, results_tmp rfl _ _ _, v, ss, rfl, hS, hrow3.kept (grownBy_putObj_a _ _ _) (ownsRow_ne_a hrow3 hK3 (fun cur e => by first | cases e | exact hne (Obj.cells.inj e).2.1)), hnil, hb3.grown (grownBy_putObj_a _ _ _) hb3.size (fun k e => by cases e; omega)⟩
set_option maxHeartbeats 1000000 in
theorem impl_IsPermutation.collect (L : SlLaysZI.n8 P ρ) (F : Fence) (n : Nat) (h8 : F.fn (ρ.f 8)) (h11 : F.fn (ρ.f 11)) (hro : F.round = none) (hn : 3 ≤ n) (g : Nat) (lb : Array Value) (hFg : F.fn g) (eg : ∀ args w, (callFunc g args).run P w = .ok (.enter g args) w)
  (S : List Int → Prop) (N : Nat) (hN : N ≤ maxLen) (hNb : N * 8 ≤ 140737488355328) (w : World) (hseq : impl_IsPermutation.GivesB F (n - 1 - 1) P g lb N S w) :
  CallsIn F n P (ρ.f 8) #[.func (.func g) #[] lb] w fun e w' => ∃ (v : Value) (ss : List Int), e = .returned v ∧ S ss ∧ w'.ownsRow w.heap.size (ρ.t 26) 1 v ss.length (ss.map encZ) ∧ (v = .slice none 0 0 ↔ ss = []) ∧ Below w.heap.size w w' := by
 have h1 : 1 ≤ n := by omega
 have e11 : ∀ args w, (callFunc (ρ.f 11) args).run P w = .ok (.enter (ρ.f 11) args) w := L.f11.enters rfl
 have mixed := L.mixed; have t24 := L.t24; have a24 := L.a24; have z24 := L.z24; have v24 := L.v24; have t26 := L.t26; have a26 := L.a26; have z26 := L.z26; have v26 := L.v26; have t28 := L.t28; have a28 := L.a28; have z28 := L.z28; have v28 := L.v28; have t0 := L.t0; have a0 := L.a0; have z0 := L.z0; have v0 := L.v0
 have u0 := run_underlying L.t0; have u24 := run_underlying L.t24; have u26 := run_underlying L.t26; have u28 := run_underlying L.t28
 obtain ⟨_, _, FG⟩ := L.f8
 refine callsIn_of_wp FG rfl h8 ?_ hro
 simp only [SlBodyZ.n8_ntmps ρ, List.size_toArray, List.length_cons, List.length_nil, Nat.reduceAdd, Nat.reduceSub, Array.replicate_succ, Array.replicate_zero, List.push_toArray, List.append_toArray, List.nil_append, List.cons_append]
 gi_wp2_with (gi_at_fn (ρ.f 11); refine (impl_IsPermutation.appendSeq { L with } F (n - 1) h11 hro (by omega) g lb hFg eg S N hN hNb _ hseq).mono ?_; rintro e w' ⟨v, ss, rfl, hS, hrow, hnil, hb⟩)
 go_ret
 exact ⟨v, ss, rfl, hS, hrow, hnil, hb⟩
set_option maxRecDepth 100000 in
set_option maxHeartbeats 2000000 in
theorem impl_IsPermutation.sorted (L : SlLaysZI.n6 P ρ) (F : Fence) (n : Nat) (h6 : F.fn (ρ.f 6)) (h8 : F.fn (ρ.f 8)) (h9 : F.fn (ρ.f 9)) (h11 : F.fn (ρ.f 11)) (hro : F.round = none) (hn : 4 ≤ n) (hsort : AnyZI.SortsIn P ρ F (n - 1)) (e9 : ∀ args w, (callFunc (ρ.f 9) args).run P w = .ok (.enter (ρ.f 9) args) w) (g : Nat) (lb : Array Value) (hFg : F.fn g) (eg : ∀ args w, (callFunc g args).run P w = .ok (.enter g args) w)
  (l : List Int) (hl : l.length < 1000000) (w : World) (hseq : impl_IsPermutation.GivesB F (n - 1 - 1 - 1) P g lb l.length (fun xs => xs = l) w) :
  CallsIn F n P (ρ.f 6) #[.func (.func g) #[] lb] w fun e w' => ∃ v, e = .returned v ∧ w'.ownsRow w.heap.size (ρ.t 26) 1 v l.length ((l.mergeSort (fun x y => decide (x ≤ y))).map encZ) ∧ Below w.heap.size w w' := by
 have h1 : 1 ≤ n := by omega
 have e8 : ∀ args w, (callFunc (ρ.f 8) args).run P w = .ok (.enter (ρ.f 8) args) w := L.f8.enters rfl
 have mixed := L.mixed; have t24 := L.t24; have a24 := L.a24; have z24 := L.z24; have v24 := L.v24; have t26 := L.t26; have a26 := L.a26; have z26 := L.z26; have v26 := L.v26; have t28 := L.t28; have a28 := L.a28; have z28 := L.z28; have v28 := L.v28; have t0 := L.t0; have a0 := L.a0; have z0 := L.z0; have v0 := L.v0
 have u0 := run_underlying L.t0; have u24 := run_underlying L.t24; have u26 := run_underlying L.t26; have u28 := run_underlying L.t28
 have hmx : maxLen = 9223372036854775807 := rfl
 obtain ⟨_, _, FG⟩ := L.f6
 refine callsIn_of_wp FG rfl h6 ?_ hro
 simp only [SlBodyZ.n6_ntmps ρ, List.size_toArray, List.length_cons, List.length_nil, Nat.reduceAdd, Nat.reduceSub, Array.replicate_succ, Array.replicate_zero, List.push_toArray, List.append_toArray, List.nil_append, List.cons_append]
 gi_wp2_with (gi_at_fn (ρ.f 8); refine (impl_IsPermutation.collect { L with } F (n - 1) h8 h11 hro (by omega) g lb hFg eg _ l.length (by omega) (by omega) _ hseq).mono ?_; rintro e W ⟨v, ss, rfl, hS, hrow, hnil, hb⟩)
 subst hS
 rcases hrow.2 with ⟨rfl, hz⟩ | ⟨gb, cap, cur, rfl, hbase, hgb, r1, r2, r3, r4⟩
 ·have hss : ss = [] := List.eq_nil_of_length_eq_zero hz
  subst hss
  gi_wp2_with (gi_at_fn (ρ.f 9); refine (hsort.2 none 0 W).mono ?_; rintro e w' ⟨rfl, rfl⟩)
  go_ret
  exact ⟨.slice none 0 0, rfl, by simpa using hrow, hb⟩
 ·have hH : Holds encZ W gb 0 ss.toArray := holds_of_block_i hgb (by simpa using r4)
  have hgl : gb < W.heap.size := (Array.getElem?_eq_some_iff.1 hgb).1
  have cS := hsort.1 gb 0 cap ss W hH hgl (by omega)
  gi_wp2_with (gi_at_fn (ρ.f 9); refine cS.mono ?_; rintro e w' ⟨rfl, nn, os, rfl⟩)
  go_ret
  exact ⟨_, rfl, ownsRow_sorted_i (by simp) hbase hgb r1 r2 r3, hb.grown (grownBy_sorted_i _) hb.size (fun j hj => by cases hj; exact hbase)⟩
end
set_option maxHeartbeats 8000000 in
set_option maxRecDepth 100000 in
theorem impl_IsPermutation.valuesCall (A : Option Addr) (n c : Nat) (w : World) :
  Calls Try.prog 92 #[.slice A n c] w fun e w' => e = .returned (.func (.func 103) #[] #[.pointer (some ⟨w.heap.size, 0, none⟩)]) ∧ w' = w.alloc (.cells #[.slice A n c] 24) := by
 go_enter Try.func92, Try.ntmps92
 go_wp2
 go_ret
 exact ⟨rfl, rfl⟩
open Go.Maps Go.Sort Go.Shelf in
theorem impl_IsPermutation.sortedCall (Bm : Nat) (A : Option Addr) (c : Nat) (l : List Int) (hll : l.length < 1000000) (w : World) (hBm : w.heap[Bm]? = some (.cells #[.slice A l.length c] 24 (0, 0))) (hr : Kd.C (Kd.int .i64) w A l.length l) :
  Calls Try.prog 91 #[.func (.func 103) #[] #[.pointer (some ⟨Bm, 0, none⟩)]] w fun e w' => ∃ v, e = .returned v ∧ Kd.R (Kd.int .i64) 3 w' w.heap.size (fun _ => True) v (l.mergeSort (fun x y => decide (x ≤ y))) ∧ Below w.heap.size w w' := by
 have h := impl_IsPermutation.sorted Try.sortedA Fence.wide 5 trivial trivial trivial trivial rfl (by omega) (impl_IsPermutation.sorts _) (enters_of Try.func102 (by kernel_rfl) rfl) 103 #[.pointer (some ⟨Bm, 0, none⟩)] trivial (enters_of Try.func103 (by kernel_rfl) rfl) l hll w (impl_IsPermutation.values _ (by omega) Bm A c l hll w hBm hr)
 change CallsIn _ _ Try.prog 91 _ _ _ at h
 refine ((callsIn_wide (n := 5)).1 h).mono ?_
 rintro e w' ⟨v, rfl, hrow, hb⟩
 have hlen : (l.mergeSort (fun x y => decide (x ≤ y))).length = l.length := by simp
 exact ⟨v, rfl, Kd.R_of_own (by rw [hlen]; exact hrow) (fun _ _ => trivial), hb⟩
set_option maxHeartbeats 8000000 in
set_option maxRecDepth 100000 in
theorem impl_IsPermutation.calls (k : Nat) (A0 : Option Addr) (c0 : Nat) (l0 : List Int) (r : Bool) (w : World) (hr0 : Kd.C (Kd.int .i64) w A0 l0.length l0) (hc0 : l0.length ≤ c0) (h : impl_IsPermutation.f k l0 = some r) :
  Calls Try.prog 62 #[.slice A0 l0.length c0] w fun e w' => e = .returned (.bool r) ∧ Below w.heap.size w w' := by
 unfold impl_IsPermutation.f at h
 have HR := Ya hr0
 have HC := Ya hc0
 clear hr0 hc0
 by_cases c : l0.length ≤ 12
 ·rw [if_pos c] at h
  have cb : decide ((l0.length : Int) ≤ 12) = true := Z37 (by omega)
  have cb2 : decide (l0.length ≤ 12) = true := Z37 c
  have CC := Ya c
  clear c
  obtain ⟨d, h1, h2⟩ := Z35.mp h
  generalize hsr : l0.mergeSort (fun x y => decide (x ≤ y)) = s at h2
  have HS := Ya hsr
  have H1 := Ya h1
  have H2 := Ya h2
  clear h h1 h2 hsr
  go_enter Try.func62, Try.ntmps62
  go_wp2_with fail
  refine (impl_IsPermutation.valuesCall A0 l0.length c0 w).mono ?_
  rintro e w1 ⟨rfl, rfl⟩
  have HB1 := Ya (Z5 (Below.refl w.heap.size w) (.cells #[.slice A0 l0.length c0] 24))
  have HM := Ya (show (w.alloc (.cells #[.slice A0 l0.length c0] 24)).heap[w.heap.size]? = some (.cells #[.slice A0 l0.length c0] 24 (0, 0)) from World.alloc_heap_new w _)
  go_wp2_with fail
  refine (impl_IsPermutation.sortedCall w.heap.size A0 c0 l0 (by have := CC.out; omega) _ HM.out (Z21 HR.out HB1.out)).mono ?_
  rintro e w2 ⟨v2, rfl, ho2, hb2⟩
  rw [HS.out] at ho2
  obtain ⟨A2, c2, rfl⟩ := Z17 ho2
  have HO2 := Ya ho2
  have HB2 := Ya (HB1.out.trans (hb2.mono HB1.out.size))
  clear ho2 hb2
  go_wp2_with fail
  refine (impl_identity.calls k (l0.length : Int) d _ H1.out).mono ?_
  rintro e w3 ⟨v3, rfl, ho3, hb3⟩
  obtain ⟨A3, c3, rfl⟩ := Z17 ho3
  have HO3 := Ya (Kd.R_reads' ho3)
  have HL2 := Ya (Kd.R_reads' (Z14 HO2.out hb3))
  have HB3 := Ya (HB2.out.trans (hb3.mono HB2.out.size))
  clear ho3 hb3
  go_wp2_with fail
  refine (slices_Equal_int_int.calls k A2 c2 s A3 c3 d r _ HL2.out.2.2 HL2.out.2.1 HO3.out.2.2 HO3.out.2.1 H2.out).mono ?_
  rintro e w4 ⟨rfl, ⟨n4, rfl⟩⟩
  go_wp2
  go_ret
  exact ⟨rfl, Z3 HB3.out _⟩
 ·rw [if_neg c] at h
  obtain rfl := Option.some.inj h
  have cb : decide ((l0.length : Int) ≤ 12) = false := Z36 (by omega)
  have cb2 : decide (l0.length ≤ 12) = false := Z36 c
  clear c
  go_enter Try.func62, Try.ntmps62
  go_wp2
  go_ret
  exact ⟨rfl, by repeat (first | exact Below.refl _ _ | apply Z3 | apply below_drew)⟩
def impl_ApplyMove.f (k : Nat) (l0 : List Int) (a1_0 : Int) (a1_1 : Int) (a1_2 : Int) : Option (List Int × Bool) := (impl_IsPermutation.f k l0).bind fun t164 => (if t164 = true then ((impl_isMove.f (l0.length : Int) a1_0 a1_1 a1_2).bind fun t165 => (if t165 = true then ((impl_moved.f k l0 a1_0 a1_1 a1_2).bind fun t166 => (some (t166, true))) else (some (([] : List Int), false)))) else (some (([] : List Int), false)))
theorem impl_ApplyMove.mono : ∀ a0 a1 a2 a3 k, LeO (impl_ApplyMove.f k a0 a1 a2 a3) (impl_ApplyMove.f (k + 1) a0 a1 a2 a3) := by
 intro a0 a1 a2 a3 k
 unfold impl_ApplyMove.f
 repeat' first
   | (with_reducible exact impl_IsPermutation.mono _ _)
   | (with_reducible exact impl_moved.mono _ _ _ _ _)
   | (with_reducible exact LeO.refl _)
   | (with_reducible exact LeO.none _)
   | (with_reducible refine LeO.ite ?_ ?_)
   | (with_reducible refine LeO.bind ?_ (fun _ => ?_))
   | exact impl_IsPermutation.mono _ _
   | exact impl_moved.mono _ _ _ _ _
   | exact LeO.none _
   | refine LeO.ite ?_ ?_
   | refine LeO.bind ?_ (fun _ => ?_)
set_option maxHeartbeats 8000000 in
set_option maxRecDepth 100000 in
theorem impl_ApplyMove.calls (k : Nat) (A0 : Option Addr) (c0 : Nat) (l0 : List Int) (a1_0 : Int) (a1_1 : Int) (a1_2 : Int) (r1 : List Int) (r2 : Bool) (w : World) (hr0 : Kd.C (Kd.int .i64) w A0 l0.length l0) (hc0 : l0.length ≤ c0) (h : impl_ApplyMove.f k l0 a1_0 a1_1 a1_2 = some (r1, r2)) :
  Calls Try.prog 24 #[.slice A0 l0.length c0, .agg #[.int .i64 a1_0, .int .i64 a1_1, .int .i64 a1_2]] w fun e w' => ∃ v0_ : Value, e = .returned (.tuple #[v0_, .bool r2]) ∧ Kd.R (Kd.int .i64) 3 w' w.heap.size (fun _ => True) v0_ r1 ∧ Below w.heap.size w w' := by
 have hu45 := Try.underlying45
 have HR0 := Ya hr0
 have HC0 := Ya hc0
 clear hr0 hc0
 have HB := Ya (Below.refl w.heap.size w)
 have H : ((impl_IsPermutation.f k l0).bind fun t164 => (if t164 = true then ((impl_isMove.f (l0.length : Int) a1_0 a1_1 a1_2).bind fun t165 => (if t165 = true then ((impl_moved.f k l0 a1_0 a1_1 a1_2).bind fun t166 => (some (t166, true))) else (some (([] : List Int), false)))) else (some (([] : List Int), false)))) = some (r1, r2) := h
 clear h
 replace H := Z35.mp H
 obtain ⟨t164, A30, H⟩ := H
 replace H : (if t164 = true then ((impl_isMove.f (l0.length : Int) a1_0 a1_1 a1_2).bind fun t165 => (if t165 = true then ((impl_moved.f k l0 a1_0 a1_1 a1_2).bind fun t166 => (some (t166, true))) else (some (([] : List Int), false)))) else (some (([] : List Int), false))) = some (r1, r2) := H
 have A3 := Ya A30
 clear A30
 by_cases c4 : t164 = true
 ·subst c4
  have H1 : ((impl_isMove.f (l0.length : Int) a1_0 a1_1 a1_2).bind fun t165 => (if t165 = true then ((impl_moved.f k l0 a1_0 a1_1 a1_2).bind fun t166 => (some (t166, true))) else (some (([] : List Int), false)))) = some (r1, r2) := by rw [if_pos rfl] at H; exact H
  clear H
  have H := H1
  clear H1
  replace H := Z35.mp H
  obtain ⟨t165, A50, H⟩ := H
  replace H : (if t165 = true then ((impl_moved.f k l0 a1_0 a1_1 a1_2).bind fun t166 => (some (t166, true))) else (some (([] : List Int), false))) = some (r1, r2) := H
  have A5 := Ya A50
  clear A50
  by_cases c6 : t165 = true
  ·subst c6
   have H1 : ((impl_moved.f k l0 a1_0 a1_1 a1_2).bind fun t166 => (some (t166, true))) = some (r1, r2) := by rw [if_pos rfl] at H; exact H
   clear H
   have H := H1
   clear H1
   replace H := Z35.mp H
   obtain ⟨t166, A70, H⟩ := H
   replace H : (some (t166, true)) = some (r1, r2) := H
   have A7 := Ya A70
   clear A70
   simp only [Option.some.injEq, Prod.mk.injEq] at H
   obtain ⟨rfl, rfl⟩ := H
   go_enter Try.func24, Try.ntmps24
   go_wp2_with (first | ((with_reducible refine gate_dst (N := 3) rfl ?_); (try (refine gate_guard (by rfl) ?_; dsimp only)); refine Yx 3 #[.int .i64 a1_0, .int .i64 a1_1, .int .i64 a1_2] 45 ?_; intro gb163 hg w8 hbox hb; have BK163 := Ya hbox; have GE163 := Yg hg; replace HB := Yh hb; clear hb hbox hg) | ((with_reducible refine gate_callee (f := 62) rfl ?_); refine Yz 7 Try.func62 #[.slice A0 l0.length c0] ?_; (with_reducible refine (impl_IsPermutation.calls k _ _ l0 true _ (Yc (Z21 HR0.out HB.out)) HC0.out A3.out).mono ?_); rintro e w9 ⟨rfl, hb⟩; refine ⟨_, rfl, ?_⟩; replace BK163 := Yb BK163 hb; replace HB := Yh hb; (try clear hb); have hcz10_0 : w9.cell? ⟨gb163, 0, none⟩ = some (.int .i64 a1_0) := (Z22 BK163.out 0).trans rfl; have hcz10_1 : w9.cell? ⟨gb163, 1, none⟩ = some (.int .i64 a1_1) := (Z22 BK163.out 1).trans rfl; have hcz10_2 : w9.cell? ⟨gb163, 2, none⟩ = some (.int .i64 a1_2) := (Z22 BK163.out 2).trans rfl; have hfz10_0 := Z23 BK163.out 0; have hfz10_1 := Z23 BK163.out 1; have hfz10_2 := Z23 BK163.out 2) | (go_at_call 63; (with_reducible refine (impl_isMove.calls (l0.length : Int) a1_0 a1_1 a1_2 true _ A5.out).mono ?_); rintro e w11 ⟨rfl, hb⟩; replace BK163 := Yb BK163 hb; replace HB := Yh hb; (try clear hb); have hcz12_0 : w11.cell? ⟨gb163, 0, none⟩ = some (.int .i64 a1_0) := (Z22 BK163.out 0).trans rfl; have hcz12_1 : w11.cell? ⟨gb163, 1, none⟩ = some (.int .i64 a1_1) := (Z22 BK163.out 1).trans rfl; have hcz12_2 : w11.cell? ⟨gb163, 2, none⟩ = some (.int .i64 a1_2) := (Z22 BK163.out 2).trans rfl; have hfz12_0 := Z23 BK163.out 0; have hfz12_1 := Z23 BK163.out 1; have hfz12_2 := Z23 BK163.out 2) | ((with_reducible refine gate_callee (f := 51) rfl ?_); refine Yz 18 Try.func51 #[.slice A0 l0.length c0, .agg #[.int .i64 a1_0, .int .i64 a1_1, .int .i64 a1_2]] ?_; (with_reducible refine (impl_moved.calls k _ _ l0 a1_0 a1_1 a1_2 t166 _ (Yc (Z21 HR0.out HB.out)) HC0.out A7.out).mono ?_); rintro e w13 ⟨v167, rfl, ho0, hb⟩; refine ⟨_, rfl, ?_⟩; have HO168 := Yl ho0; replace BK163 := Yb BK163 hb; replace HB := Yh hb; (try clear hb ho0)))
   go_ret2
   exact ⟨_, Q2, by (with_reducible repeat (first | apply Z9 | apply Z10 | apply Z11)); exact HO168.out, Q0⟩
  ·replace c6 := Bool.eq_false_iff.mpr c6
   subst c6
   have H1 : (some (([] : List Int), false)) = some (r1, r2) := by rw [if_neg (show ¬ (false = true) by decide)] at H; exact H
   clear H
   have H := H1
   clear H1
   simp only [Option.some.injEq, Prod.mk.injEq] at H
   obtain ⟨rfl, rfl⟩ := H
   go_enter Try.func24, Try.ntmps24
   go_wp2_with (first | ((with_reducible refine gate_dst (N := 3) rfl ?_); (try (refine gate_guard (by rfl) ?_; dsimp only)); refine Yx 3 #[.int .i64 a1_0, .int .i64 a1_1, .int .i64 a1_2] 45 ?_; intro gb163 hg w14 hbox hb; have BK163 := Ya hbox; have GE163 := Yg hg; replace HB := Yh hb; clear hb hbox hg) | ((with_reducible refine gate_callee (f := 62) rfl ?_); refine Yz 7 Try.func62 #[.slice A0 l0.length c0] ?_; (with_reducible refine (impl_IsPermutation.calls k _ _ l0 true _ (Yc (Z21 HR0.out HB.out)) HC0.out A3.out).mono ?_); rintro e w15 ⟨rfl, hb⟩; refine ⟨_, rfl, ?_⟩; replace BK163 := Yb BK163 hb; replace HB := Yh hb; (try clear hb); have hcz16_0 : w15.cell? ⟨gb163, 0, none⟩ = some (.int .i64 a1_0) := (Z22 BK163.out 0).trans rfl; have hcz16_1 : w15.cell? ⟨gb163, 1, none⟩ = some (.int .i64 a1_1) := (Z22 BK163.out 1).trans rfl; have hcz16_2 : w15.cell? ⟨gb163, 2, none⟩ = some (.int .i64 a1_2) := (Z22 BK163.out 2).trans rfl; have hfz16_0 := Z23 BK163.out 0; have hfz16_1 := Z23 BK163.out 1; have hfz16_2 := Z23 BK163.out 2) | (go_at_call 63; (with_reducible refine (impl_isMove.calls (l0.length : Int) a1_0 a1_1 a1_2 false _ A5.out).mono ?_); rintro e w17 ⟨rfl, hb⟩; replace BK163 := Yb BK163 hb; replace HB := Yh hb; (try clear hb)))
   go_ret2
   exact ⟨_, Q2, Q11, Q0⟩
 ·replace c4 := Bool.eq_false_iff.mpr c4
  subst c4
  have H1 : (some (([] : List Int), false)) = some (r1, r2) := by rw [if_neg (show ¬ (false = true) by decide)] at H; exact H
  clear H
  have H := H1
  clear H1
  simp only [Option.some.injEq, Prod.mk.injEq] at H
  obtain ⟨rfl, rfl⟩ := H
  go_enter Try.func24, Try.ntmps24
  go_wp2_with (first | ((with_reducible refine gate_dst (N := 3) rfl ?_); (try (refine gate_guard (by rfl) ?_; dsimp only)); refine Yx 3 #[.int .i64 a1_0, .int .i64 a1_1, .int .i64 a1_2] 45 ?_; intro gb163 hg w18 hbox hb; have BK163 := Ya hbox; have GE163 := Yg hg; replace HB := Yh hb; clear hb hbox hg) | ((with_reducible refine gate_callee (f := 62) rfl ?_); refine Yz 7 Try.func62 #[.slice A0 l0.length c0] ?_; (with_reducible refine (impl_IsPermutation.calls k _ _ l0 false _ (Yc (Z21 HR0.out HB.out)) HC0.out A3.out).mono ?_); rintro e w19 ⟨rfl, hb⟩; refine ⟨_, rfl, ?_⟩; replace BK163 := Yb BK163 hb; replace HB := Yh hb; (try clear hb)))
  go_ret2
  exact ⟨_, Q2, Q11, Q0⟩
def impl_PermutationRank.f (k : Nat) (l0 : List Int) : Option (Int × Bool) := (impl_IsPermutation.f k l0).bind fun t169 => (if t169 = true then ((impl_permutationRank.f k l0).bind fun t170 => (some (t170, true))) else (some (0, false)))
theorem impl_PermutationRank.mono : ∀ a0 k, LeO (impl_PermutationRank.f k a0) (impl_PermutationRank.f (k + 1) a0) := by
 intro a0 k
 unfold impl_PermutationRank.f
 repeat' first
   | (with_reducible exact impl_IsPermutation.mono _ _)
   | (with_reducible exact impl_permutationRank.mono _ _)
   | (with_reducible exact LeO.refl _)
   | (with_reducible exact LeO.none _)
   | (with_reducible refine LeO.ite ?_ ?_)
   | (with_reducible refine LeO.bind ?_ (fun _ => ?_))
   | exact impl_IsPermutation.mono _ _
   | exact impl_permutationRank.mono _ _
   | exact LeO.none _
   | refine LeO.ite ?_ ?_
   | refine LeO.bind ?_ (fun _ => ?_)
set_option maxHeartbeats 8000000 in
set_option maxRecDepth 100000 in
theorem impl_PermutationRank.calls (k : Nat) (A0 : Option Addr) (c0 : Nat) (l0 : List Int) (r1 : Int) (r2 : Bool) (w : World) (hr0 : Kd.C (Kd.int .i64) w A0 l0.length l0) (hc0 : l0.length ≤ c0) (h : impl_PermutationRank.f k l0 = some (r1, r2)) :
  Calls Try.prog 25 #[.slice A0 l0.length c0] w fun e w' => e = .returned (.tuple #[.int .i64 r1, .bool r2]) ∧ Below w.heap.size w w' := by
 have HR0 := Ya hr0
 have HC0 := Ya hc0
 clear hr0 hc0
 have HB := Ya (Below.refl w.heap.size w)
 have H : ((impl_IsPermutation.f k l0).bind fun t169 => (if t169 = true then ((impl_permutationRank.f k l0).bind fun t170 => (some (t170, true))) else (some (0, false)))) = some (r1, r2) := h
 clear h
 replace H := Z35.mp H
 obtain ⟨t169, A20, H⟩ := H
 replace H : (if t169 = true then ((impl_permutationRank.f k l0).bind fun t170 => (some (t170, true))) else (some (0, false))) = some (r1, r2) := H
 have A2 := Ya A20
 clear A20
 by_cases c3 : t169 = true
 ·subst c3
  have H1 : ((impl_permutationRank.f k l0).bind fun t170 => (some (t170, true))) = some (r1, r2) := by rw [if_pos rfl] at H; exact H
  clear H
  have H := H1
  clear H1
  replace H := Z35.mp H
  obtain ⟨t170, A40, H⟩ := H
  replace H : (some (t170, true)) = some (r1, r2) := H
  have A4 := Ya A40
  clear A40
  simp only [Option.some.injEq, Prod.mk.injEq] at H
  obtain ⟨rfl, rfl⟩ := H
  go_enter Try.func25, Try.ntmps25
  go_wp2_with (first | ((with_reducible refine gate_callee (f := 62) rfl ?_); refine Yz 5 Try.func62 #[.slice A0 l0.length c0] ?_; (with_reducible refine (impl_IsPermutation.calls k _ _ l0 true _ (Yc HR0.out) HC0.out A2.out).mono ?_); rintro e w5 ⟨rfl, hb⟩; refine ⟨_, rfl, ?_⟩; replace HB := Yh hb; (try clear hb)) | ((with_reducible refine gate_callee (f := 52) rfl ?_); refine Yz 8 Try.func52 #[.slice A0 l0.length c0] ?_; (with_reducible refine (impl_permutationRank.calls k _ _ l0 t170 _ (Yc (Z21 HR0.out HB.out)) HC0.out A4.out).mono ?_); rintro e w' ⟨rfl, ⟨nd, rfl⟩⟩; refine ⟨_, rfl, ?_⟩))
  go_ret2
  exact ⟨Q2, Q0⟩
 ·replace c3 := Bool.eq_false_iff.mpr c3
  subst c3
  have H1 : (some (0, false)) = some (r1, r2) := by rw [if_neg (show ¬ (false = true) by decide)] at H; exact H
  clear H
  have H := H1
  clear H1
  simp only [Option.some.injEq, Prod.mk.injEq] at H
  obtain ⟨rfl, rfl⟩ := H
  go_enter Try.func25, Try.ntmps25
  go_wp2_with (first | ((with_reducible refine gate_callee (f := 62) rfl ?_); refine Yz 5 Try.func62 #[.slice A0 l0.length c0] ?_; (with_reducible refine (impl_IsPermutation.calls k _ _ l0 false _ (Yc HR0.out) HC0.out A2.out).mono ?_); rintro e w6 ⟨rfl, hb⟩; refine ⟨_, rfl, ?_⟩; replace HB := Yh hb; (try clear hb)))
  go_ret2
  exact ⟨Q2, Q0⟩
def impl_allWithin.l0 : Nat → Int → Int → List Int → Int → Int → Option (Bool)
 | 0, _, _, _, _, _ => none
 | k + 1, x1, x2, x9, x10, x11 => if x11 < x10 then (if 0 ≤ x11 then (if x11 < (x9.length : Int) then ((impl_within.f (rd x9 x11) x1 x2).bind fun t172 => (if t172 = true then (impl_allWithin.l0 k x1 x2 x9 x10 (wrap64 (x11 + 1))) else (some false))) else (none)) else (none)) else (some true)
def impl_allWithin.f (k : Nat) (l0 : List Int) (a1 : Int) (a2 : Int) : Option (Bool) := impl_allWithin.l0 k a1 a2 l0 (l0.length : Int) 0
theorem impl_allWithin.mono_l : ∀ k, (∀ y0 y1 y2 y3 y4, LeO (impl_allWithin.l0 k y0 y1 y2 y3 y4) (impl_allWithin.l0 (k + 1) y0 y1 y2 y3 y4))
 | 0 => fun _ _ _ _ _ r h => by simp [impl_allWithin.l0] at h
 | k + 1 => by
  have ih0 := impl_allWithin.mono_l k
  ·intro y0 y1 y2 y3 y4
   unfold impl_allWithin.l0
   repeat' first
   | (with_reducible exact ih0 _ _ _ _ _)
   | (with_reducible exact LeO.refl _)
   | (with_reducible exact LeO.none _)
   | (with_reducible refine LeO.ite ?_ ?_)
   | (with_reducible refine LeO.bind ?_ (fun _ => ?_))
   | exact ih0 _ _ _ _ _
   | exact LeO.none _
   | refine LeO.ite ?_ ?_
   | refine LeO.bind ?_ (fun _ => ?_)
theorem impl_allWithin.mono : ∀ a0 a1 a2 k, LeO (impl_allWithin.f k a0 a1 a2) (impl_allWithin.f (k + 1) a0 a1 a2) := by
 intro a0 a1 a2 k
 have ih0 := impl_allWithin.mono_l k
 unfold impl_allWithin.f
 repeat' first
   | (with_reducible exact ih0 _ _ _ _ _)
   | (with_reducible exact LeO.refl _)
   | (with_reducible exact LeO.none _)
   | (with_reducible refine LeO.ite ?_ ?_)
   | (with_reducible refine LeO.bind ?_ (fun _ => ?_))
   | exact ih0 _ _ _ _ _
   | exact LeO.none _
   | refine LeO.ite ?_ ?_
   | refine LeO.bind ?_ (fun _ => ?_)
set_option maxHeartbeats 8000000 in
set_option maxRecDepth 100000 in
theorem impl_allWithin.calls (k : Nat) (A0 : Option Addr) (c0 : Nat) (l0 : List Int) (a1 : Int) (a2 : Int) (r : Bool) (w : World) (hr0 : Kd.C (Kd.int .i64) w A0 l0.length l0) (hc0 : l0.length ≤ c0) (h : impl_allWithin.f k l0 a1 a2 = some r) :
  Calls Try.prog 66 #[.slice A0 l0.length c0, .int .i64 a1, .int .i64 a2] w fun e w' => e = .returned (.bool r) ∧ Drawn0 w w' := by
 have HR0 := Ya hr0
 have HC0 := Ya hc0
 clear hr0 hc0
 have H : (impl_allWithin.l0 k a1 a2 l0 (l0.length : Int) 0) = some r := h
 clear h
 have H' := Ya H
 clear H
 go_enter Try.func66, Try.ntmps66
 go_wp2
 go_loopg [11] k (fun kq v11 w' => ∃ (x11_1 : Int), v11 = .int .i64 x11_1 ∧ Aside0 (impl_allWithin.l0 kq a1 a2 l0 (l0.length : Int) x11_1 = some r) ∧ Aside0 (kq ≤ k) ∧ Drawn0 w w')
 case atStart => exact ⟨(0), Q5, H', ⟨Nat.le_refl _⟩, Q7⟩
 case round =>
  clear H'
  try clear p2
  obtain ⟨x11_1, rfl, HA, HK1, ⟨m1, rfl⟩⟩ := hrel
  cases gk with
  | zero => exact absurd HA.out (by simp [impl_allWithin.l0])
  | succ k1 =>
   have H := HA.out
   clear HA
   simp only [impl_allWithin.l0] at H
   by_cases c4 : x11_1 < (l0.length : Int)
   ·rw [if_pos c4] at H
    have c4b0 := Z37 c4
    clear c4
    by_cases c5 : 0 ≤ x11_1
    ·rw [if_pos c5] at H
     have c5b0 := Z37 c5
     clear c5
     by_cases c6 : x11_1 < (l0.length : Int)
     ·rw [if_pos c6] at H
      have c6b0 := Z37 c6
      clear c6
      replace H := Z35.mp H
      obtain ⟨t172, A70, H⟩ := H
      replace H : (if t172 = true then (impl_allWithin.l0 k1 a1 a2 l0 (l0.length : Int) (wrap64 (x11_1 + 1))) else (some false)) = some r := H
      have A7 := Ya A70
      clear A70
      by_cases c8 : t172 = true
      ·subst c8
       have H1 : (impl_allWithin.l0 k1 a1 a2 l0 (l0.length : Int) (wrap64 (x11_1 + 1))) = some r := by rw [if_pos rfl] at H; exact H
       clear H
       have H := H1
       clear H1
       have H' := Ya H
       clear H
       have p171 : 0 ≤ (x11_1 : Int) := Z29 Q1
       have q171 : x11_1 < (l0.length : Int) := Z29 Q1
       obtain ⟨ad171, e171, hx171_0⟩ := Kd.at_int HR0.out x11_1 p171 q171
       cases e171
       replace p171 := eq_true p171
       replace q171 := eq_true q171
       go_wp2_with (first | ((with_reducible refine gate_callee (f := 48) rfl ?_); refine Yz 18 Try.func48 #[.int .i64 (rd l0 x11_1), .int .i64 a1, .int .i64 a2] ?_; (with_reducible refine (impl_within.calls (rd l0 x11_1) a1 a2 true _ A7.out).mono ?_); rintro e w' ⟨rfl, ⟨nd, rfl⟩⟩; refine ⟨_, rfl, ?_⟩))
       go_roundg k1
       case measure => have := HK1.out; omega
       case rel => exact ⟨(wrap64 (x11_1 + 1)), Q5, H', ⟨Q28⟩, Q7⟩
      ·replace c8 := Bool.eq_false_iff.mpr c8
       subst c8
       have H1 : (some false) = some r := by rw [if_neg (show ¬ (false = true) by decide)] at H; exact H
       clear H
       have H := H1
       clear H1
       obtain rfl := Option.some.inj H
       have p171 : 0 ≤ (x11_1 : Int) := Z29 Q1
       have q171 : x11_1 < (l0.length : Int) := Z29 Q1
       obtain ⟨ad171, e171, hx171_0⟩ := Kd.at_int HR0.out x11_1 p171 q171
       cases e171
       replace p171 := eq_true p171
       replace q171 := eq_true q171
       go_wp2_with (first | ((with_reducible refine gate_callee (f := 48) rfl ?_); refine Yz 18 Try.func48 #[.int .i64 (rd l0 x11_1), .int .i64 a1, .int .i64 a2] ?_; (with_reducible refine (impl_within.calls (rd l0 x11_1) a1 a2 false _ A7.out).mono ?_); rintro e w' ⟨rfl, ⟨nd, rfl⟩⟩; refine ⟨_, rfl, ?_⟩))
       go_ret
       exact ⟨Q18, Q7⟩
     ·rw [if_neg c6] at H
      exact absurd H (by simp)
    ·rw [if_neg c5] at H
     exact absurd H (by simp)
   ·rw [if_neg c4] at H
    have c4b0 := Z36 c4
    clear c4
    obtain rfl := Option.some.inj H
    go_wp2
    go_ret
    exact ⟨Q18, Q7⟩
mutual
def impl_FollowMoves.l0 : Nat → List (S45) → List Int → List (List Int) → Int → Option ((List (List Int)) × Bool)
 | 0, _, _, _, _ => none
 | k + 1, x1, x2, x8, i => if i < (x2.length : Int) then (if 0 ≤ i then (if i < (x8.length : Int) then (if 0 ≤ (rd x2 i) then (if (rd x2 i) < (x1.length : Int) then ((impl_moved.f k (rd_L3 x8 i) ((rd_T45 x1 (rd x2 i)).f0) ((rd_T45 x1 (rd x2 i)).f1) ((rd_T45 x1 (rd x2 i)).f2)).bind fun t => (if x8.length < 5864062014805 then (impl_FollowMoves.l0 k x1 x2 (x8 ++ [t]) (wrap64 (i + 1))) else (none))) else (none)) else (none)) else (none)) else (none)) else (some (x8, true))
end
def impl_FollowMoves.f (k : Nat) (a0 : Int) (l1 : List (S45)) (l2 : List Int) : Option ((List (List Int)) × Bool) := (impl_areMoves.f k a0 l1).bind fun t => (if t = true then (if (l2.length : Int) > 1099 then (some (([] : List (List Int)), false)) else ((impl_allWithin.f k l2 0 (wrap64 ((l1.length : Int) - 1))).bind fun u => (if u = true then ((impl_identity.f k a0).bind fun s => (impl_FollowMoves.l0 k l1 l2 [s] 0)) else (some (([] : List (List Int)), false))))) else (some (([] : List (List Int)), false)))
theorem impl_FollowMoves.mono_l : ∀ k, (∀ y0 y1 y2 y3, LeO (impl_FollowMoves.l0 k y0 y1 y2 y3) (impl_FollowMoves.l0 (k + 1) y0 y1 y2 y3))
 | 0 => fun _ _ _ _ r h => by simp [impl_FollowMoves.l0] at h
 | k + 1 => by
  have ih0 := impl_FollowMoves.mono_l k
  ·intro y0 y1 y2 y3
   unfold impl_FollowMoves.l0
   repeat' first
   | (with_reducible exact ih0 _ _ _ _)
   | (with_reducible exact impl_allWithin.mono _ _ _ _)
   | (with_reducible exact impl_areMoves.mono _ _ _)
   | (with_reducible exact impl_identity.mono _ _)
   | (with_reducible exact impl_moved.mono _ _ _ _ _)
   | (with_reducible exact LeO.refl _)
   | (with_reducible exact LeO.none _)
   | (with_reducible refine LeO.ite ?_ ?_)
   | (with_reducible refine LeO.bind ?_ (fun _ => ?_))
   | exact ih0 _ _ _ _
   | exact impl_allWithin.mono _ _ _ _
   | exact impl_areMoves.mono _ _ _
   | exact impl_identity.mono _ _
   | exact impl_moved.mono _ _ _ _ _
   | exact LeO.none _
   | refine LeO.ite ?_ ?_
   | refine LeO.bind ?_ (fun _ => ?_)
theorem impl_FollowMoves.mono : ∀ a0 a1 a2 k, LeO (impl_FollowMoves.f k a0 a1 a2) (impl_FollowMoves.f (k + 1) a0 a1 a2) := by
 intro a0 a1 a2 k
 have ih0 := impl_FollowMoves.mono_l k
 unfold impl_FollowMoves.f
 repeat' first
   | (with_reducible exact ih0 _ _ _ _)
   | (with_reducible exact impl_allWithin.mono _ _ _ _)
   | (with_reducible exact impl_areMoves.mono _ _ _)
   | (with_reducible exact impl_identity.mono _ _)
   | (with_reducible exact impl_moved.mono _ _ _ _ _)
   | (with_reducible exact LeO.refl _)
   | (with_reducible exact LeO.none _)
   | (with_reducible refine LeO.ite ?_ ?_)
   | (with_reducible refine LeO.bind ?_ (fun _ => ?_))
   | exact ih0 _ _ _ _
   | exact impl_allWithin.mono _ _ _ _
   | exact impl_areMoves.mono _ _ _
   | exact impl_identity.mono _ _
   | exact impl_moved.mono _ _ _ _ _
   | exact LeO.none _
   | refine LeO.ite ?_ ?_
   | refine LeO.bind ?_ (fun _ => ?_)
set_option maxHeartbeats 8000000 in
set_option maxRecDepth 100000 in
theorem impl_FollowMoves.calls (k : Nat) (a0 : Int) (A1 : Option Addr) (c1 : Nat) (l1 : List (S45)) (A2 : Option Addr) (c2 : Nat) (l2 : List Int) (r1 : List (List Int)) (r2 : Bool) (w : World) (hr1 : Kd.C k45 w A1 l1.length l1) (hc1 : l1.length ≤ c1) (hr2 : Kd.C (Kd.int .i64) w A2 l2.length l2) (hc2 : l2.length ≤ c2) (h : impl_FollowMoves.f k a0 l1 l2 = some (r1, r2)) :
  Calls Try.prog 27 #[.int .i64 a0, .slice A1 l1.length c1, .slice A2 l2.length c2] w fun e w' => ∃ v0_ : Value, e = .returned (.tuple #[v0_, .bool r2]) ∧ Kd.S (Kd.slice 3 (Kd.int .i64)) 24 w' w.heap.size (fun _ => True) v0_ r1 ∧ Below w.heap.size w w' := by
 have hu := Try.underlying45
 have HR1 := Ya hr1
 have HC1 := Ya hc1
 have HR2 := Ya hr2
 have HC2 := Ya hc2
 clear hr1 hc1 hr2 hc2
 unfold impl_FollowMoves.f at h
 obtain ⟨t1, h1, H⟩ := Z35.mp h
 have T1 := Ya h1
 clear h h1
 cases t1
 ·simp only [Bool.false_eq_true, if_false, Option.some.injEq, Prod.mk.injEq] at H
  obtain ⟨rfl, rfl⟩ := H
  go_enter Try.func27, Try.ntmps27
  go_wp2_with fail
  refine (impl_areMoves.calls k a0 A1 c1 l1 false _ HR1.out HC1.out T1.out).mono ?_
  rintro e w1 ⟨rfl, hb1⟩
  have HB1 := Ya hb1
  clear hb1
  have HBx := HB1
  go_wp2
  go_ret2
  exact ⟨_, rfl, Kd.S_nil _ _ _ _ _, HBx.out⟩
 ·simp only [if_true] at H
  by_cases cl : (l2.length : Int) > 1099
  ·rw [if_pos cl] at H
   have cb0 : decide (1099 < (l2.length : Int)) = true := Z37 cl
   have cb1 : decide (1099 < l2.length) = true := Z37 (by omega)
   clear cl
   simp only [Option.some.injEq, Prod.mk.injEq] at H
   obtain ⟨rfl, rfl⟩ := H
   go_enter Try.func27, Try.ntmps27
   go_wp2_with fail
   refine (impl_areMoves.calls k a0 A1 c1 l1 true _ HR1.out HC1.out T1.out).mono ?_
   rintro e w1 ⟨rfl, hb1⟩
   have HB1 := Ya hb1
   clear hb1
   have HBx := HB1
   go_wp2
   go_ret2
   exact ⟨_, rfl, Kd.S_nil _ _ _ _ _, HBx.out⟩
  ·rw [if_neg cl] at H
   have cb0 : decide (1099 < (l2.length : Int)) = false := Z36 cl
   have cb1 : decide (1099 < l2.length) = false := Z36 (by omega)
   clear cl
   obtain ⟨t2, h2, H⟩ := Z35.mp H
   have T2 := Ya h2
   clear h2
   cases t2
   ·simp only [Bool.false_eq_true, if_false, Option.some.injEq, Prod.mk.injEq] at H
    obtain ⟨rfl, rfl⟩ := H
    go_enter Try.func27, Try.ntmps27
    go_wp2_with fail
    refine (impl_areMoves.calls k a0 A1 c1 l1 true _ HR1.out HC1.out T1.out).mono ?_
    rintro e w1 ⟨rfl, hb1⟩
    have HB1 := Ya hb1
    clear hb1
    go_wp2_with fail
    refine (impl_allWithin.calls k A2 c2 l2 0 _ false _ (Z21 HR2.out HB1.out) HC2.out T2.out).mono ?_
    rintro e w2 ⟨rfl, ⟨n2, rfl⟩⟩
    have HBx := Ya (Z3 HB1.out n2)
    clear HB1
    go_wp2
    go_ret2
    exact ⟨_, rfl, Kd.S_nil _ _ _ _ _, HBx.out⟩
   ·simp only [if_true] at H
    obtain ⟨t3, h3, H⟩ := Z35.mp H
    have T3 := Ya h3
    have H' := Ya H
    clear h3 H
    go_enter Try.func27, Try.ntmps27
    go_wp2_with fail
    refine (impl_areMoves.calls k a0 A1 c1 l1 true _ HR1.out HC1.out T1.out).mono ?_
    rintro e w1 ⟨rfl, hb1⟩
    have HB1 := Ya hb1
    clear hb1
    go_wp2_with fail
    refine (impl_allWithin.calls k A2 c2 l2 0 _ true _ (Z21 HR2.out HB1.out) HC2.out T2.out).mono ?_
    rintro e w2 ⟨rfl, ⟨n2, rfl⟩⟩
    have HB2 := Ya (Z3 HB1.out n2)
    clear HB1
    go_wp2_with fail
    refine (impl_identity.calls k a0 t3 _ T3.out).mono ?_
    rintro e w3 ⟨v3, rfl, ho3, hb3⟩
    obtain ⟨Af, cf, rfl⟩ := Z17 ho3
    have HF := Ya (Kd.R_lower ho3 HB2.out.size)
    have HB := Ya (HB2.out.trans (hb3.mono HB2.out.size))
    clear ho3 hb3 HB2
    go_wp2_with (first | ((with_reducible refine gate_dst (N := 30) rfl ?_); refine Kd.R_lit (Kd.tag (fun _ => 0) (Kd.slice 3 (Kd.int .i64))) (w0 := w) w.heap.size 24 ?hg (N := 30) ?hd (xs := [(t3, 0)]) (inner := [.slice Af t3.length cf]) (ok := fun _ => True) (okp := fun k_ => some k_ = (.slice Af t3.length cf : Value).ownBlock) ?hr ?hp (fun _ hk => trivial) trivial HB.out HB.out.size (by simp) ?_; (case hd => rfl); (case hg => rfl); (case hr => first | (go_simp; done) | (go_simp; rfl)); (case hp => exact (Reps.one (show Kd.M (Kd.tag (fun _ => 0) (Kd.slice 3 (Kd.int .i64))) _ _ _ (t3, 0) [.slice Af t3.length cf] from ⟨_, rfl, Z12 (Kd.R_tight rfl HF.out) (fun _ hk => ⟨hk, rfl⟩)⟩) (Reps.none _ _))); intro v4 w4 ho4 hb4 hg4 hnew4; have HF4 := Ya (Kd.R_grown HF.out hg4 (fun _ _ e => by cases e)); have HO4 := Ya (show Kd.S (Kd.slice 3 (Kd.int .i64)) 24 w4 w.heap.size (fun _ => True) v4 [t3] from ⟨_, ho4⟩); have HB4 := Ya hb4; clear HF HB ho4 hb4 hg4 hnew4))
    go_loopg [8, 33] k (fun kq v8 v33 w' => ∃ (x8 : List (List Int)) (i : Int), v33 = .int .i64 i ∧ Aside0 (impl_FollowMoves.l0 kq l1 l2 x8 i = some (r1, r2)) ∧ Aside0 (kq ≤ k) ∧ Aside0 (Kd.S (Kd.slice 3 (Kd.int .i64)) 24 w' w.heap.size (fun _ => True) v8 x8) ∧ Aside0 (Below w.heap.size w w'))
    case atStart => exact ⟨[t3], 0, rfl, H', ⟨Nat.le_refl _⟩, HO4, HB4⟩
    case round =>
     clear H' HO4 HF4 HB4
     obtain ⟨x8, i, rfl, HA, HK1, HO, HB⟩ := hrel
     cases gk with
     | zero => exact absurd HA.out (by simp [impl_FollowMoves.l0])
     | succ k1 =>
      have H := HA.out
      clear HA
      simp only [impl_FollowMoves.l0] at H
      obtain ⟨Ao, co, eo⟩ := Z17 (Kd.S_R HO.out)
      subst eo
      by_cases c : i < (l2.length : Int)
      ·rw [if_pos c] at H
       have cb : decide (i < (l2.length : Int)) = true := Z37 c
       by_cases p : 0 ≤ i
       ·rw [if_pos p] at H
        by_cases q : i < (x8.length : Int)
        rotate_left
        ·rw [if_neg q] at H; exact absurd H (by simp)
        rw [if_pos q] at H
        by_cases p1 : 0 ≤ rd l2 i
        ·rw [if_pos p1] at H
         by_cases p2 : rd l2 i < (l1.length : Int)
         ·rw [if_pos p2] at H
          obtain ⟨t, ht, H⟩ := Z35.mp H
          have T4 := Ya ht
          clear ht
          by_cases c8 : x8.length < 5864062014805
          ·rw [if_pos c8] at H
           have LM := Ya c8
           have H' := Ya H
           clear c8 H
           obtain ⟨ad2, ead2, hx2⟩ := Kd.at_int HR2.out i p c
           cases ead2
           replace hx2 := (HB.out.cell (World.block_lt_of_cell? w _ hx2)).trans hx2
           obtain ⟨ad3, A3, c3, ead3, hx3, hle3, hie3⟩ := at_L3 (Kd.R_reads' (Kd.S_R HO.out)).2.2 i p q
           cases ead3
           have HLE := Ya hle3
           have HIE := Ya hie3
           obtain ⟨ad1, ead1, hy0, hy1, hy2⟩ := at_T45 HR1.out (rd l2 i) p1 p2
           cases ead1
           replace hy0 := (HB.out.cell (World.block_lt_of_cell? w _ hy0)).trans hy0
           replace hy1 := (HB.out.cell (World.block_lt_of_cell? w _ hy1)).trans hy1
           replace hy2 := (HB.out.cell (World.block_lt_of_cell? w _ hy2)).trans hy2
           have pp := eq_true p
           have pc := eq_true c
           have pq := eq_true q
           have pp1 := eq_true p1
           have pp2 := eq_true p2
           clear p c p1 p2 q hle3 hie3
           go_wp2_with fail
           replace HO := Ya (Kd.S_drew HO.out)
           replace HB := Ya (Z4 HB.out)
           replace HIE := Ya (Z20 HIE.out)
           refine start_ (n := 13) (S := fun w' => w'.cell? (ad3.add i.toNat) = some (.slice A3 (rd_L3 x8 i).length c3) ∧ w'.cell? (ad1.add ((rd l2 i).toNat * 3)) = some (.int .i64 (rd_T45 l1 (rd l2 i)).f0) ∧ w'.cell? ⟨(ad1.add ((rd l2 i).toNat * 3)).block, (ad1.add ((rd l2 i).toNat * 3)).off + 1, none⟩ = some (.int .i64 (rd_T45 l1 (rd l2 i)).f1) ∧ w'.cell? ⟨(ad1.add ((rd l2 i).toNat * 3)).block, (ad1.add ((rd l2 i).toNat * 3)).off + 2, none⟩ = some (.int .i64 (rd_T45 l1 (rd l2 i)).f2)) (ds := [10, 11]) (YA 13 0) (by kernel_rfl) rfl rfl ⟨hx3, hy0, hy1, hy2⟩ (fun hHeld => ?_)
           generalize wr.drew = w6 at HO HB HIE hHeld ⊢
           clear hx3 hy0 hy1 hy2
           refine Yq 0 (some 38) (YA 13 1) rfl ?_
           refine Yq 1 (some 39) (YA 13 3) rfl ?_
           refine Yq 2 (some 40) (YA 13 7) rfl ?_
           refine Yq 3 (some 41) (YA 13 15) rfl ?_
           refine Yq 5 (some 43) (YA 13 47) rfl ?_
           refine Yq 6 (some 44) (YA 13 111) rfl ?_
           refine Yq 7 (some 45) (YA 13 239) rfl ?_
           refine Ys 4 (some 42) (YA 13 255) rfl hHeld Q17 ?_
           refine Ys 8 (some 46) (YA 13 511) rfl hHeld Q17 ?_
           refine one_ (i := 9) (N := some 47) (YA 13 1023) rfl rfl (by kernel_rfl) (by decide) (fun K hK => ?_)
           refine goes_ Try.func51 (by kernel_rfl) rfl #[.slice A3 (rd_L3 x8 i).length c3, .agg #[.int .i64 (rd_T45 l1 (rd l2 i)).f0, .int .i64 (rd_T45 l1 (rd l2 i)).f1, .int .i64 (rd_T45 l1 (rd l2 i)).f2]] (by rfl) rfl rfl Q51 ?_
           with_reducible refine (impl_moved.calls k1 A3 c3 (rd_L3 x8 i) _ _ _ t _ HIE.out HLE.out T4.out).mono ?_
           rintro e w7 ⟨v7, rfl, ho7, hb⟩
           refine ⟨_, rfl, ?_⟩
           have hs0 := (hb.cell (World.block_lt_of_cell? _ _ (hHeld.1))).trans (hHeld.1)
           have hs1 := (hb.cell (World.block_lt_of_cell? _ _ (hHeld.2.1))).trans (hHeld.2.1)
           have hs2 := (hb.cell (World.block_lt_of_cell? _ _ (hHeld.2.2.1))).trans (hHeld.2.2.1)
           have hs3 := (hb.cell (World.block_lt_of_cell? _ _ (hHeld.2.2.2))).trans (hHeld.2.2.2)
           obtain ⟨An, cn, rfl⟩ := Z17 ho7
           have HO7 := Ya (Kd.S_elder' HO.out (Kd.R_base ho7) hb)
           have HL7 := Ya (Kd.R_lower ho7 HB.out.size)
           have HB7 := Ya (HB.out.trans (hb.mono HB.out.size))
           have HS7 := Ya (⟨hs0, hs1, hs2, hs3⟩ : _ ∧ _ ∧ _ ∧ _)
           clear HO HB ho7 hb hs0 hs1 hs2 hs3
           refine hK.out _ _ ⟨HS7.out.1, HS7.out.2.1, HS7.out.2.2.1, HS7.out.2.2.2⟩ (fun hHeld => ?_)
           clear hK K
           refine norm_ (a' := ?_) ?_ ?_
           rotate_left
           ·show Act.put _ (some 47) _ = _
            simp only [Act.put, Z0, Z1, Z2, i64_w, i32_w]
            rfl
           refine last_ (i := 10) (N := some 48) (YA 13 2047) rfl rfl (by kernel_rfl) (by decide) (fun K hK => ?_)
           refine value_ (w1 := ?_) (v := ?_) (by rfl) rfl ?_ ?_
           rotate_left 2
           ·go_simp
            constructor
            ·rfl
            ·rfl
           refine hK.out _ _ ?_
           clear hK K
           refine norm_ (a' := ?_) ?_ ?_
           rotate_left
           ·show Act.put _ (some 48) _ = _
            simp only [Act.put, Z0, Z1, Z2, i64_w, i32_w]
            rfl
           refine last_ (i := 11) (N := some 49) (YA 13 4095) rfl rfl (by kernel_rfl) (by decide) (fun K hK => ?_)
           refine Kd.S_append_step (Kd.slice 3 (Kd.int .i64)) (w0 := w) w.heap.size (by rfl) (.tmp 38) (.tmp 48) 50 24 (.slice none 0 0) 24 rfl Try.underlying50 info24 rfl (by decide) (by omega) (.slice (some ad3) x8.length co) x8 t [.slice An t.length cn] (fun _ => True) (fun k_ => some k_ = (.slice An t.length cn : Value).ownBlock) rfl rfl ?aP (fun k_ hk_ => ⟨trivial, ((Kd.R_apart' HL7.out (Kd.S_typed HO7.out) (by decide)).1 k_ hk_.symm).2⟩) ?aF ?aO ?aB ?aS ?aL ?_
           (case aP => exact Kd.M_row (Kd.R_tight rfl HL7.out))
           (case aB => exact HB7.out)
           (case aF => exact (fun _ _ => trivial))
           (case aO => exact (Kd.S_mono HO7.out (fun k_ hk => ⟨trivial, fun e_ => hk.2 e_⟩)))
           (case aS => exact HB7.out.size)
           (case aL => have := LM.out; omega)
           intro v9n w9 ho9 hb9 hg9 hat9
           have HO9 := Ya ho9
           have HB9 := Ya hb9
           clear HL7 HO7 HB7 HS7 ho9 hb9 hg9 hat9
           refine hK.out _ _ ?_
           clear hK K
           refine norm_ (a' := ?_) ?_ ?_
           rotate_left
           ·show Act.put _ (some 49) _ = _
            simp only [Act.put, Z0, Z1, Z2, i64_w, i32_w]
            rfl
           refine Yq 12 (some 8) (YA 13 8191) rfl ?_
           refine done_ (by kernel_rfl) ?_
           go_wp2
           go_roundg k1
           case measure => have := HK1.out; omega
           case rel => exact ⟨x8 ++ [t], wrap64 (i + 1), rfl, H', ⟨Q28⟩, HO9, HB9⟩
          ·rw [if_neg c8] at H; exact absurd H (by simp)
         ·rw [if_neg p2] at H; exact absurd H (by simp)
        ·rw [if_neg p1] at H; exact absurd H (by simp)
       ·rw [if_neg p] at H; exact absurd H (by simp)
      ·rw [if_neg c] at H
       have cb : decide (i < (l2.length : Int)) = false := Z36 c
       clear c
       simp only [Option.some.injEq, Prod.mk.injEq] at H
       obtain ⟨rfl, rfl⟩ := H
       go_wp2
       go_ret2
       exact ⟨_, rfl, HO.out, HB.out⟩
def impl_arePermutations.l0 : Nat → Int → List (List Int) → List (List Int) → Int → Int → Option (Bool)
 | 0, _, _, _, _, _ => none
 | k + 1, x0, x1, x7, x8, x9 => if x9 < x8 then (if 0 ≤ x9 then (if x9 < (x7.length : Int) then (if ((rd_L3 x7 x9).length : Int) = x0 then ((impl_IsPermutation.f k (rd_L3 x7 x9)).bind fun t174 => (if t174 = true then (impl_arePermutations.l0 k x0 x1 x7 x8 (wrap64 (x9 + 1))) else (some false))) else (some false)) else (none)) else (none)) else (some (decide ((x1.length : Int) ≤ 1100)))
def impl_arePermutations.f (k : Nat) (a0 : Int) (l1 : List (List Int)) : Option (Bool) := impl_arePermutations.l0 k a0 l1 l1 (l1.length : Int) 0
theorem impl_arePermutations.mono_l : ∀ k, (∀ y0 y1 y2 y3 y4, LeO (impl_arePermutations.l0 k y0 y1 y2 y3 y4) (impl_arePermutations.l0 (k + 1) y0 y1 y2 y3 y4))
 | 0 => fun _ _ _ _ _ r h => by simp [impl_arePermutations.l0] at h
 | k + 1 => by
  have ih0 := impl_arePermutations.mono_l k
  ·intro y0 y1 y2 y3 y4
   unfold impl_arePermutations.l0
   repeat' first
   | (with_reducible exact ih0 _ _ _ _ _)
   | (with_reducible exact impl_IsPermutation.mono _ _)
   | (with_reducible exact LeO.refl _)
   | (with_reducible exact LeO.none _)
   | (with_reducible refine LeO.ite ?_ ?_)
   | (with_reducible refine LeO.bind ?_ (fun _ => ?_))
   | exact ih0 _ _ _ _ _
   | exact impl_IsPermutation.mono _ _
   | exact LeO.none _
   | refine LeO.ite ?_ ?_
   | refine LeO.bind ?_ (fun _ => ?_)
theorem impl_arePermutations.mono : ∀ a0 a1 k, LeO (impl_arePermutations.f k a0 a1) (impl_arePermutations.f (k + 1) a0 a1) := by
 intro a0 a1 k
 have ih0 := impl_arePermutations.mono_l k
 unfold impl_arePermutations.f
 repeat' first
   | (with_reducible exact ih0 _ _ _ _ _)
   | (with_reducible exact impl_IsPermutation.mono _ _)
   | (with_reducible exact LeO.refl _)
   | (with_reducible exact LeO.none _)
   | (with_reducible refine LeO.ite ?_ ?_)
   | (with_reducible refine LeO.bind ?_ (fun _ => ?_))
   | exact ih0 _ _ _ _ _
   | exact impl_IsPermutation.mono _ _
   | exact LeO.none _
   | refine LeO.ite ?_ ?_
   | refine LeO.bind ?_ (fun _ => ?_)
set_option maxHeartbeats 8000000 in
set_option maxRecDepth 100000 in
theorem impl_arePermutations.calls (k : Nat) (a0 : Int) (A1 : Option Addr) (c1 : Nat) (l1 : List (List Int)) (r : Bool) (w : World) (hr1 : Kd.C (Kd.slice 3 (Kd.int .i64)) w A1 l1.length l1) (hc1 : l1.length ≤ c1) (h : impl_arePermutations.f k a0 l1 = some r) :
  Calls Try.prog 67 #[.int .i64 a0, .slice A1 l1.length c1] w fun e w' => e = .returned (.bool r) ∧ Below w.heap.size w w' := by
 have HR1 := Ya hr1
 have HC1 := Ya hc1
 clear hr1 hc1
 have HB := Ya (Below.refl w.heap.size w)
 have H : (impl_arePermutations.l0 k a0 l1 l1 (l1.length : Int) 0) = some r := h
 clear h
 have H' := Ya H
 clear H
 go_enter Try.func67, Try.ntmps67
 go_wp2
 go_loopg [9] k (fun kq v9 w' => ∃ (x9_1 : Int), v9 = .int .i64 x9_1 ∧ Aside0 (impl_arePermutations.l0 kq a0 l1 l1 (l1.length : Int) x9_1 = some r) ∧ Aside0 (kq ≤ k) ∧ Aside0 (Below w.heap.size w w'))
 case atStart => exact ⟨(0), Q5, H', ⟨Nat.le_refl _⟩, ⟨Q0⟩⟩
 case round =>
  clear H'
  try clear c1
  try clear p2
  obtain ⟨x9_1, rfl, HA, HK1, HB⟩ := hrel
  cases gk with
  | zero => exact absurd HA.out (by simp [impl_arePermutations.l0])
  | succ k1 =>
   have H := HA.out
   clear HA
   simp only [impl_arePermutations.l0] at H
   by_cases c3 : x9_1 < (l1.length : Int)
   ·rw [if_pos c3] at H
    have c3b0 := Z37 c3
    clear c3
    by_cases c4 : 0 ≤ x9_1
    ·rw [if_pos c4] at H
     have c4b0 := Z37 c4
     clear c4
     by_cases c5 : x9_1 < (l1.length : Int)
     ·rw [if_pos c5] at H
      have c5b0 := Z37 c5
      clear c5
      by_cases c6 : ((rd_L3 l1 x9_1).length : Int) = a0
      ·rw [if_pos c6] at H
       have c6b0 : (((rd_L3 l1 x9_1).length : Int) == a0) = true := beq_iff_eq.mpr c6
       have c6b1 : (((rd_L3 l1 x9_1).length : Int) != a0) = false := bne_eq_false_iff_eq.mpr c6
       clear c6
       replace H := Z35.mp H
       obtain ⟨t174, A70, H⟩ := H
       replace H : (if t174 = true then (impl_arePermutations.l0 k1 a0 l1 l1 (l1.length : Int) (wrap64 (x9_1 + 1))) else (some false)) = some r := H
       have A7 := Ya A70
       clear A70
       by_cases c8 : t174 = true
       ·subst c8
        have H1 : (impl_arePermutations.l0 k1 a0 l1 l1 (l1.length : Int) (wrap64 (x9_1 + 1))) = some r := by rw [if_pos rfl] at H; exact H
        clear H
        have H := H1
        clear H1
        have H' := Ya H
        clear H
        have p173 : 0 ≤ (x9_1 : Int) := Z29 Q1
        have q173 : x9_1 < (l1.length : Int) := Z29 Q1
        obtain ⟨ad173, A173_0, c173_0, e173, hx173_0, hl173_0, hi173_0⟩ := at_L3 HR1.out x9_1 p173 q173
        cases e173
        try replace hx173_0 := (HB.out.cell (World.block_lt_of_cell? w _ hx173_0)).trans hx173_0
        have HR173_0 := Ya hi173_0
        have HC173_0 := Ya hl173_0
        clear hi173_0 hl173_0
        replace p173 := eq_true p173
        replace q173 := eq_true q173
        go_wp2_with (first | (go_at_call 62; (with_reducible refine (impl_IsPermutation.calls k1 _ _ (rd_L3 l1 x9_1) true _ (Yc (Z21 HR173_0.out HB.out)) HC173_0.out A7.out).mono ?_); rintro e w9 ⟨rfl, hb⟩; replace HB := Yh hb; (try clear hb)))
        go_roundg k1
        case measure => have := HK1.out; omega
        case rel => exact ⟨(wrap64 (x9_1 + 1)), Q5, H', ⟨Q28⟩, ⟨Q0⟩⟩
       ·replace c8 := Bool.eq_false_iff.mpr c8
        subst c8
        have H1 : (some false) = some r := by rw [if_neg (show ¬ (false = true) by decide)] at H; exact H
        clear H
        have H := H1
        clear H1
        obtain rfl := Option.some.inj H
        have p173 : 0 ≤ (x9_1 : Int) := Z29 Q1
        have q173 : x9_1 < (l1.length : Int) := Z29 Q1
        obtain ⟨ad173, A173_0, c173_0, e173, hx173_0, hl173_0, hi173_0⟩ := at_L3 HR1.out x9_1 p173 q173
        cases e173
        try replace hx173_0 := (HB.out.cell (World.block_lt_of_cell? w _ hx173_0)).trans hx173_0
        have HR173_0 := Ya hi173_0
        have HC173_0 := Ya hl173_0
        clear hi173_0 hl173_0
        replace p173 := eq_true p173
        replace q173 := eq_true q173
        go_wp2_with (first | (go_at_call 62; (with_reducible refine (impl_IsPermutation.calls k1 _ _ (rd_L3 l1 x9_1) false _ (Yc (Z21 HR173_0.out HB.out)) HC173_0.out A7.out).mono ?_); rintro e w10 ⟨rfl, hb⟩; replace HB := Yh hb; (try clear hb)))
        go_ret
        exact ⟨Q2, Q0⟩
      ·rw [if_neg c6] at H
       have c6b0 : (((rd_L3 l1 x9_1).length : Int) == a0) = false := beq_eq_false_iff_ne.mpr c6
       have c6b1 : (((rd_L3 l1 x9_1).length : Int) != a0) = true := bne_iff_ne.mpr c6
       obtain rfl := Option.some.inj H
       have p173 : 0 ≤ (x9_1 : Int) := Z29 Q1
       have q173 : x9_1 < (l1.length : Int) := Z29 Q1
       obtain ⟨ad173, A173_0, c173_0, e173, hx173_0, hl173_0, hi173_0⟩ := at_L3 HR1.out x9_1 p173 q173
       cases e173
       try replace hx173_0 := (HB.out.cell (World.block_lt_of_cell? w _ hx173_0)).trans hx173_0
       have HR173_0 := Ya hi173_0
       have HC173_0 := Ya hl173_0
       clear hi173_0 hl173_0
       replace p173 := eq_true p173
       replace q173 := eq_true q173
       go_wp2
       go_ret
       exact ⟨Q2, Q0⟩
     ·rw [if_neg c5] at H
      exact absurd H (by simp)
    ·rw [if_neg c4] at H
     exact absurd H (by simp)
   ·rw [if_neg c3] at H
    have c3b0 := Z36 c3
    clear c3
    obtain rfl := Option.some.inj H
    go_wp2
    go_ret
    exact ⟨Q2, Q0⟩
def impl_steps.idx (g : Nat → S45 → Option Bool) : Nat → List (S45) → Int → Option Int
 | 0, _, _ => none
 | k + 1, L, i => if i < (L.length : Int) then (if 0 ≤ i then ((g k (rd_T45 L i)).bind fun t => (if t = true then (some i) else (impl_steps.idx g k L (wrap64 (i + 1))))) else (none)) else (some (-1))
theorem impl_steps.idx_mono {g : Nat → S45 → Option Bool} (hg : ∀ k x, LeO (g k x) (g (k + 1) x)) : ∀ k L i, LeO (impl_steps.idx g k L i) (impl_steps.idx g (k + 1) L i)
 | 0, _, _ => fun r h => by simp [impl_steps.idx] at h
 | k + 1, L, i => by
  unfold impl_steps.idx
  repeat' first
   | (with_reducible exact impl_steps.idx_mono hg k _ _)
   | (with_reducible exact hg _ _)
   | (with_reducible exact LeO.refl _)
   | (with_reducible exact LeO.none _)
   | (with_reducible refine LeO.ite ?_ ?_)
   | (with_reducible refine LeO.bind ?_ (fun _ => ?_))
set_option maxHeartbeats 8000000 in
set_option maxRecDepth 100000 in
theorem impl_steps.index (g : Nat → S45 → Option Bool) (g1 g2 : Nat) (k : Nat) (A1 : Option Addr) (c1 : Nat) (L : List (S45)) (r : Int) (w : World) (hL : Kd.C k45 w A1 L.length L) (hcL : L.length ≤ c1)
  (hlam : ∀ (kq : Nat) (x : S45) (t : Bool) (w' : World), Below w.heap.size w w' → g kq x = some t → Calls Try.prog 94 #[.agg #[.int .i64 x.f0, .int .i64 x.f1, .int .i64 x.f2], .pointer (some ⟨g1, 0, none⟩), .pointer (some ⟨g2, 0, none⟩)] w' fun e w'' => e = .returned (.bool t) ∧ Below w.heap.size w w'')
  (h : impl_steps.idx g k L 0 = some r) :
  Calls Try.prog 73 #[.slice A1 L.length c1, .func (Fn.func 94) #[] #[.pointer (some ⟨g1, 0, none⟩), .pointer (some ⟨g2, 0, none⟩)]] w fun e w' => e = .returned (.int .i64 r) ∧ Below w.heap.size w w' := by
 have hu := Try.underlying45
 have HL := Ya hL
 have HCL := Ya hcL
 have HM := Ya hlam
 have H' := Ya h
 have HB := Ya (Below.refl w.heap.size w)
 clear hL hcL hlam h
 go_enter Try.func73, Try.ntmps73
 go_wp2
 go_loopg [5, 8] k (fun kq v5 v8 w' => ∃ (i : Int), v8 = .int .i64 i ∧ Aside0 (Below w.heap.size w w') ∧ Aside0 (impl_steps.idx g kq L i = some r) ∧ Aside0 (kq ≤ k))
 case atStart => exact ⟨0, rfl, HB, H', ⟨Nat.le_refl _⟩⟩
 case round =>
  clear H' HB
  obtain ⟨i, rfl, HB, HA, HK1⟩ := hrel
  cases gk with
  | zero => exact absurd HA.out (by simp [impl_steps.idx])
  | succ k1 =>
   have H := HA.out
   clear HA
   simp only [impl_steps.idx] at H
   by_cases c3 : i < (L.length : Int)
   ·rw [if_pos c3] at H
    have c3b0 := Z37 c3
    by_cases c4 : 0 ≤ i
    ·rw [if_pos c4] at H
     obtain ⟨t, A30, H⟩ := Z35.mp H
     have A3 := Ya A30
     clear A30
     obtain ⟨ad, ead, hx0, hx1, hx2⟩ := at_T45 HL.out i c4 c3
     cases ead
     replace hx0 := (HB.out.cell (World.block_lt_of_cell? w _ hx0)).trans hx0
     replace hx1 := (HB.out.cell (World.block_lt_of_cell? w _ hx1)).trans hx1
     replace hx2 := (HB.out.cell (World.block_lt_of_cell? w _ hx2)).trans hx2
     have c4b : (0 ≤ i) = True := eq_true c4
     have c3b : (i < (L.length : Int)) = True := eq_true c3
     clear c3 c4
     cases t
     ·simp only [Bool.false_eq_true, if_false] at H
      have H' := Ya H
      clear H
      go_wp2_with fail
      refine (HM.out k1 (rd_T45 L i) false _ HB.out A3.out).mono ?_
      rintro e w2 ⟨rfl, hb2⟩
      have HB2 := Ya hb2
      clear hb2
      go_wp2
      go_roundg k1
      case measure => have := HK1.out; omega
      case rel => exact ⟨wrap64 (i + 1), rfl, HB2, H', ⟨Q28⟩⟩
     ·simp only [if_true] at H
      obtain rfl := Option.some.inj H
      clear H
      go_wp2_with fail
      refine (HM.out k1 (rd_T45 L i) true _ HB.out A3.out).mono ?_
      rintro e w2 ⟨rfl, hb2⟩
      have HB2 := Ya hb2
      clear hb2
      go_wp2
      go_ret
      exact ⟨rfl, HB2.out⟩
    ·rw [if_neg c4] at H
     exact absurd H (by simp)
   ·rw [if_neg c3] at H
    obtain rfl := Option.some.inj H
    have c3b0 := Z36 c3
    clear c3 H
    go_wp2
    go_ret
    exact ⟨rfl, HB.out⟩
def impl_steps.g (L : List (List Int)) (i : Int) (k : Nat) (x : S45) : Option Bool := if 1 ≤ i then (if i < (L.length : Int) then (if i < 1000000000 then ((impl_moved.f k (rd_L3 L (i - 1)) x.f0 x.f1 x.f2).bind fun u => slices_Equal_int_int.f k u (rd_L3 L i)) else none) else none) else none
theorem impl_steps.g_mono (L : List (List Int)) (i : Int) : ∀ k x, LeO (impl_steps.g L i k x) (impl_steps.g L i (k + 1) x) := by
 intro k x
 unfold impl_steps.g
 exact LeO.ite (LeO.ite (LeO.ite (LeO.bind (impl_moved.mono _ _ _ _ _) (fun _ => slices_Equal_int_int.mono _ _ _)) (LeO.none _)) (LeO.none _)) (LeO.none _)
def impl_steps.l0 : Nat → List (List Int) → List (S45) → List Int → Int → Option (List Int × Bool)
 | 0, _, _, _, _ => none
 | k + 1, L, M, out, i => if i < (L.length : Int) then ((impl_steps.idx (impl_steps.g L i) k M 0).bind fun r => (if r < 0 then (some (([] : List Int), false)) else (if out.length < 17592186044416 then (impl_steps.l0 k L M (out ++ [r]) (wrap64 (i + 1))) else (none)))) else (some (out, true))
def impl_steps.f (k : Nat) (l0 : List (List Int)) (l1 : List (S45)) : Option (List Int × Bool) := impl_steps.l0 k l0 l1 [] 1
theorem impl_steps.mono_l : ∀ k L M out i, LeO (impl_steps.l0 k L M out i) (impl_steps.l0 (k + 1) L M out i)
 | 0, _, _, _, _ => fun r h => by simp [impl_steps.l0] at h
 | k + 1, L, M, out, i => by
  unfold impl_steps.l0
  exact LeO.ite (LeO.bind (impl_steps.idx_mono (impl_steps.g_mono L i) k _ _) (fun _ => LeO.ite (LeO.refl _) (LeO.ite (impl_steps.mono_l k _ _ _ _) (LeO.none _)))) (LeO.refl _)
theorem impl_steps.mono : ∀ a0 a1 k, LeO (impl_steps.f k a0 a1) (impl_steps.f (k + 1) a0 a1) := fun a0 a1 k => impl_steps.mono_l k a0 a1 [] 1
set_option maxHeartbeats 8000000 in
set_option maxRecDepth 100000 in
theorem impl_steps.lam (L : List (List Int)) (i : Int) (AL : Option Addr) (cL : Nat) (g1 g2 : Nat) (w : World) (hL : Kd.C (Kd.slice 3 (Kd.int .i64)) w AL L.length L) (hn1 : w.cell? ⟨g1, 0, none⟩ = some (.slice AL L.length cL)) (hn2 : w.cell? ⟨g2, 0, none⟩ = some (.int .i64 i)) (kq : Nat) (x : S45) (t : Bool) (w1 : World) (hB : Below w.heap.size w w1) (h : impl_steps.g L i kq x = some t) :
  Calls Try.prog 94 #[.agg #[.int .i64 x.f0, .int .i64 x.f1, .int .i64 x.f2], .pointer (some ⟨g1, 0, none⟩), .pointer (some ⟨g2, 0, none⟩)] w1 fun e w' => e = .returned (.bool t) ∧ Below w.heap.size w w' := by
 have hu := Try.underlying45
 have HB := Ya hB
 unfold impl_steps.g at h
 by_cases p1 : 1 ≤ i
 rotate_left
 ·rw [if_neg p1] at h; cases h
 rw [if_pos p1] at h
 by_cases p2 : i < (L.length : Int)
 rotate_left
 ·rw [if_neg p2] at h; cases h
 rw [if_pos p2] at h
 by_cases p3 : i < 1000000000
 rotate_left
 ·rw [if_neg p3] at h; cases h
 rw [if_pos p3] at h
 obtain ⟨u, h1, h2⟩ := Z35.mp h
 have H1 := Ya h1
 have H2 := Ya h2
 obtain ⟨aL, Ap, cp, eaL, hxp, hlp, hrp⟩ := at_L3 hL (i - 1) (by omega) (by omega)
 obtain ⟨aL', Ai, ci, eaL', hxi, hli, hri⟩ := at_L3 hL i (by omega) p2
 cases eaL
 cases eaL'
 rw [show (i - 1).toNat = i.toNat - 1 from by omega] at hxp
 have HN1 := Ya hn1
 have HN2 := Ya hn2
 have HXP := Ya hxp
 have HXI := Ya hxi
 have HLP := Ya hlp
 have HLI := Ya hli
 have HRP := Ya hrp
 have HRI := Ya hri
 have hw1 : IntKind.i64.wrap (i - 1) = i - 1 := IntWalk.i64_in _ (by omega)
 have q0 : (0 ≤ i - 1) = True := eq_true (by omega)
 have q0' : (1 ≤ i) = True := eq_true p1
 have q1 : (i - 1 < (L.length : Int)) = True := eq_true (by omega)
 have q2 : (0 ≤ i) = True := eq_true (by omega)
 have q3 : (i < (L.length : Int)) = True := eq_true p2
 have q4 : decide (0 ≤ i - 1) = true := Z37 (by omega)
 have q5 : decide (i - 1 < (L.length : Int)) = true := Z37 (by omega)
 have q6 : decide (0 ≤ i) = true := Z37 (by omega)
 have q7 : decide (i < (L.length : Int)) = true := Z37 p2
 clear h1 h2 h hB hn1 hn2 hxp hxi hlp hli hrp hri p1 p2 p3 hL
 go_enter Try.func94, Try.ntmps94
 go_wp2_with (first | ((with_reducible refine gate_dst (N := 3) rfl ?_); refine Yx 3 #[.int .i64 x.f0, .int .i64 x.f1, .int .i64 x.f2] 45 ?_; intro gx hgx w2 hbox hb2; have HB2 := Ya (show Below w.heap.size w w2 from HB.out.trans (hb2.mono HB.out.size)); have BK := Ya hbox; clear HB; have HB := HB2; clear HB2 hb2 hbox hgx))
 replace BK := Ya (Z25 BK.out)
 replace HB := Ya (Z4 HB.out)
 refine start_ (n := 13) (S := fun w' => w'.cell? ⟨g1, 0, none⟩ = some (.slice (some aL) L.length cL) ∧ w'.cell? ⟨g2, 0, none⟩ = some (.int .i64 i) ∧ w'.cell? ⟨gx, 0, none⟩ = some (.int .i64 x.f0) ∧ w'.cell? ⟨gx, 1, none⟩ = some (.int .i64 x.f1) ∧ w'.cell? ⟨gx, 2, none⟩ = some (.int .i64 x.f2) ∧ w'.cell? (aL.add (i.toNat - 1)) = some (.slice Ap (rd_L3 L (i - 1)).length cp) ∧ w'.cell? (aL.add i.toNat) = some (.slice Ai (rd_L3 L i).length ci)) (ds := []) (YA 13 0) (by kernel_rfl) rfl rfl ⟨(HB.out.cell (World.block_lt_of_cell? w _ HN1.out)).trans HN1.out, (HB.out.cell (World.block_lt_of_cell? w _ HN2.out)).trans HN2.out, (Z22 BK.out 0).trans rfl, (Z22 BK.out 1).trans rfl, (Z22 BK.out 2).trans rfl, (HB.out.cell (World.block_lt_of_cell? w _ HXP.out)).trans HXP.out, (HB.out.cell (World.block_lt_of_cell? w _ HXI.out)).trans HXI.out⟩ (fun hHeld => ?_)
 generalize w2.drew = w6 at BK HB hHeld ⊢
 refine Ys 0 (some 5) (YA 13 1) rfl hHeld Q23 ?_
 refine Ys 1 (some 6) (YA 13 3) rfl hHeld Q23 ?_
 refine Yq 2 (some 7) (YA 13 7) rfl ?_
 refine Yq 3 (some 8) (YA 13 15) rfl ?_
 refine Ys 4 (some 9) (YA 13 31) rfl hHeld Q23 ?_
 refine Ys 5 (some 10) (YA 13 63) rfl hHeld Q23 ?_
 refine Ys 7 (some 12) (YA 13 191) rfl hHeld Q23 ?_
 refine Ys 8 (some 13) (YA 13 447) rfl hHeld Q23 ?_
 refine Yq 9 (some 14) (YA 13 959) rfl ?_
 refine Ys 10 (some 15) (YA 13 1983) rfl hHeld Q23 ?_
 refine one_ (i := 6) (N := some 11) (YA 13 2047) rfl rfl (by kernel_rfl) (by decide) (fun K hK => ?_)
 refine goes_ Try.func51 (by kernel_rfl) rfl #[.slice Ap (rd_L3 L (i - 1)).length cp, .agg #[.int .i64 x.f0, .int .i64 x.f1, .int .i64 x.f2]] (by rfl) rfl rfl Q51 ?_
 with_reducible refine (impl_moved.calls kq Ap cp (rd_L3 L (i - 1)) x.f0 x.f1 x.f2 u _ (Z21 HRP.out HB.out) HLP.out H1.out).mono ?_
 rintro e w7 ⟨v3, rfl, ho0, hb⟩
 refine ⟨_, rfl, ?_⟩
 obtain ⟨A3, c3, rfl⟩ := Z17 ho0
 have ho1 := Ya (Kd.R_reads' ho0)
 replace HB := Ya (show Below w.heap.size w _ from HB.out.trans (hb.mono HB.out.size))
 replace BK := Ya (Z27 BK.out hb)
 have HO3 := Ya (ho1.out)
 (try clear hb ho0)
 clear ho1
 refine hK.out _ _ ⟨(HB.out.cell (World.block_lt_of_cell? w _ HN1.out)).trans HN1.out, (HB.out.cell (World.block_lt_of_cell? w _ HN2.out)).trans HN2.out, (Z22 BK.out 0).trans rfl, (Z22 BK.out 1).trans rfl, (Z22 BK.out 2).trans rfl, (HB.out.cell (World.block_lt_of_cell? w _ HXP.out)).trans HXP.out, (HB.out.cell (World.block_lt_of_cell? w _ HXI.out)).trans HXI.out⟩ (fun hHeld => ?_)
 clear hK K
 refine norm_ (a' := ?_) ?_ ?_
 rotate_left
 ·show Act.put _ (some 11) _ = _
  simp only [Act.put, Z0, Z1, Z2, i64_w, i32_w]
  rfl
 refine one_ (i := 11) (N := some 16) (YA 13 4095) rfl rfl (by kernel_rfl) (by decide) (fun K hK => ?_)
 refine goes_ Try.func90 (by kernel_rfl) rfl #[.slice A3 u.length c3, .slice Ai (rd_L3 L i).length ci] (by rfl) rfl rfl Q51 ?_
 with_reducible refine (slices_Equal_int_int.calls kq A3 c3 u Ai ci (rd_L3 L i) t _ HO3.out.2.2 HO3.out.2.1 (Z21 HRI.out HB.out) HLI.out H2.out).mono ?_
 rintro e w8 ⟨rfl, hd⟩
 refine ⟨_, rfl, ?_⟩
 have hb := Drawn0.below hd
 clear hd
 replace HB := Ya (show Below w.heap.size w _ from HB.out.trans (hb.mono HB.out.size))
 replace BK := Ya (Z27 BK.out hb)
 skip
 clear HO3
 refine hK.out _ _ ⟨(HB.out.cell (World.block_lt_of_cell? w _ HN1.out)).trans HN1.out, (HB.out.cell (World.block_lt_of_cell? w _ HN2.out)).trans HN2.out, (Z22 BK.out 0).trans rfl, (Z22 BK.out 1).trans rfl, (Z22 BK.out 2).trans rfl, (HB.out.cell (World.block_lt_of_cell? w _ HXP.out)).trans HXP.out, (HB.out.cell (World.block_lt_of_cell? w _ HXI.out)).trans HXI.out⟩ (fun hHeld => ?_)
 clear hK K
 refine norm_ (a' := ?_) ?_ ?_
 rotate_left
 ·show Act.put _ (some 16) _ = _
  simp only [Act.put, Z0, Z1, Z2, i64_w, i32_w]
  rfl
 refine Yq 12 (some 4) (YA 13 8191) rfl ?_
 refine done_ (by kernel_rfl) ?_
 try go_wp2
 go_ret
 exact ⟨rfl, HB.out⟩
set_option maxHeartbeats 8000000 in
set_option maxRecDepth 100000 in
theorem impl_steps.calls (k : Nat) (A0 : Option Addr) (c0 : Nat) (l0 : List (List Int)) (A1 : Option Addr) (c1 : Nat) (l1 : List (S45)) (r1 : List Int) (r2 : Bool) (w : World) (hr0 : Kd.C (Kd.slice 3 (Kd.int .i64)) w A0 l0.length l0) (hc0 : l0.length ≤ c0) (hr1 : Kd.C k45 w A1 l1.length l1) (hc1 : l1.length ≤ c1) (h : impl_steps.f k l0 l1 = some (r1, r2)) :
  Calls Try.prog 68 #[.slice A0 l0.length c0, .slice A1 l1.length c1] w fun e w' => ∃ v0_ : Value, e = .returned (.tuple #[v0_, .bool r2]) ∧ Kd.R (Kd.int .i64) 3 w' w.heap.size (fun _ => True) v0_ r1 ∧ Below w.heap.size w w' := by
 have HR0 := Ya hr0
 have HC0 := Ya hc0
 have HR1 := Ya hr1
 have HC1 := Ya hc1
 have HB := Ya (Below.refl w.heap.size w)
 have H' := Ya h
 unfold impl_steps.f at H'
 clear hr0 hc0 hr1 hc1 h
 go_enter Try.func68, Try.ntmps68
 go_wp2_with (first | ((with_reducible refine gate_dst (N := 2) rfl ?_); refine Yx 2 #[.slice A0 l0.length c0] 50 ?_; intro gx hgx w2 hbox hb2; have HB2 := Ya (show Below w.heap.size w w2 from HB.out.trans (hb2.mono HB.out.size)); have BK := Ya hbox; have hx2 : w2.cell? ⟨gx, 0, none⟩ = some (.slice A0 l0.length c0) := (Z22 hbox 0).trans rfl; have HGX := Ya (show w.heap.size ≤ gx by rw [hgx]; exact Nat.le_refl _); clear HB; have HB := HB2; clear HB2 hb2 hbox hgx) | ((with_reducible refine gate_dst (N := 9) rfl ?_); refine Kd.R_lit (Kd.int .i64) (w0 := w) w.heap.size 3 ?hg (N := 9) ?hd (xs := ([] : List Int)) (inner := []) (ok := fun k_ => k_ ≠ gx) (okp := fun _ => False) ?hr ?hp (fun _ hk => hk.elim) (by have hlt_ := blk_lt BK.out; exact Nat.ne_of_gt hlt_) HB.out HB.out.size (by simp) ?_; (case hd => rfl); (case hg => rfl); (case hr => first | (go_simp; done) | (go_simp; rfl)); (case hp => exact (Reps.none _ _)); intro v3 w3 ho3 hb3 hg3 hnew3; have HO3 := Ya ho3; have HB3 := Ya hb3; have BK3 := Ya (blk_grown BK.out hg3 (fun e_ => by cases e_)); clear HB BK hx2 ho3 hb3 hg3 hnew3))
 have hsz : gx < w3.heap.size := blk_lt BK3.out
 have HO4 := Ya (show Kd.R (Kd.int .i64) 3 (w3.alloc (.cells #[.int .i64 1] 3 (0, 0))) w.heap.size (fun k_ => k_ ≠ w3.heap.size ∧ k_ ≠ gx) v3 [] from Z9 (Z12 (Kd.R_bound HO3.out) (fun k_ hk => ⟨by have := hk.2.2.1; omega, hk.1⟩)) _)
 have BK4 := Ya (Z26 BK3.out (.cells #[.int .i64 1] 3 (0, 0)))
 have BI4 := Ya (blk_new w3 (.cells #[.int .i64 1] 3 (0, 0)))
 have HB4 := Ya (Z5 HB3.out (.cells #[.int .i64 1] 3 (0, 0)))
 have HG4 := Ya HB3.out.size
 clear HO3 BK3 HB3 hsz
 go_loopg [6, 7] k (fun kq v6 v7 w' => ∃ (out : List Int) (i : Int) (gi : Nat), v7 = .pointer (some ⟨gi, 0, none⟩) ∧ Aside0 (impl_steps.l0 kq l0 l1 out i = some (r1, r2)) ∧ Aside0 (kq ≤ k) ∧ Aside0 (Kd.R (Kd.int .i64) 3 w' w.heap.size (fun k_ => k_ ≠ gi ∧ k_ ≠ gx) v6 out) ∧ Aside0 (w'.heap[gx]? = some (.cells #[.slice A0 l0.length c0] 50 (0, 0))) ∧ Aside0 (w'.heap[gi]? = some (.cells #[.int .i64 i] 3 (0, 0))) ∧ Aside0 (Below w.heap.size w w') ∧ Aside0 (w.heap.size ≤ gi))
 case atStart => exact ⟨[], 1, _, rfl, H', ⟨Nat.le_refl _⟩, HO4, BK4, BI4, HB4, HG4⟩
 case round =>
  clear H' HO4 BK4 BI4 HB4
  obtain ⟨out, i, gi, rfl, HA, HK1, HO, BK, BI, HB, HG⟩ := hrel
  cases gk with
  | zero => exact absurd HA.out (by simp [impl_steps.l0])
  | succ k1 =>
   have H := HA.out
   clear HA
   simp only [impl_steps.l0] at H
   have hx2 : wr.cell? ⟨gx, 0, none⟩ = some (.slice A0 l0.length c0) := (Z22 BK.out 0).trans rfl
   have hx7 : wr.cell? ⟨gi, 0, none⟩ = some (.int .i64 i) := (Z22 BI.out 0).trans rfl
   by_cases c : i < (l0.length : Int)
   ·rw [if_pos c] at H
    have cb : decide (i < (l0.length : Int)) = true := Z37 c
    clear c
    obtain ⟨r, hr, H⟩ := Z35.mp H
    have HR := Ya hr
    clear hr
    by_cases cr : r < 0
    ·rw [if_pos cr] at H
     have cb2 : decide (r < 0) = true := Z37 cr
     clear cr
     simp only [Option.some.injEq, Prod.mk.injEq] at H
     obtain ⟨rfl, rfl⟩ := H
     go_wp2_with fail
     refine (impl_steps.index (impl_steps.g l0 i) gx gi k1 A1 c1 l1 r wr (Z21 HR1.out HB.out) HC1.out (fun kq x t w' hB h => impl_steps.lam l0 i A0 c0 gx gi wr (Z21 HR0.out HB.out) ((Z22 BK.out 0).trans rfl) ((Z22 BI.out 0).trans rfl) kq x t w' hB h) HR.out).mono ?_
     rintro e w5 ⟨rfl, hb⟩
     have HB5 := Ya (HB.out.trans (hb.mono HB.out.size))
     clear hb hx2 hx7
     go_wp2
     go_ret2
     exact ⟨_, rfl, Kd.R_nil _ _ _ _ _, HB5.out⟩
    ·rw [if_neg cr] at H
     have cb2 : decide (r < 0) = false := Z36 cr
     clear cr
     by_cases c8 : out.length < 17592186044416
     rotate_left
     ·rw [if_neg c8] at H; exact absurd H (by simp)
     rw [if_pos c8] at H
     have LM := Ya c8
     have H' := Ya H
     clear c8 H
     go_wp2_with fail
     refine (impl_steps.index (impl_steps.g l0 i) gx gi k1 A1 c1 l1 r wr (Z21 HR1.out HB.out) HC1.out (fun kq x t w' hB h => impl_steps.lam l0 i A0 c0 gx gi wr (Z21 HR0.out HB.out) ((Z22 BK.out 0).trans rfl) ((Z22 BI.out 0).trans rfl) kq x t w' hB h) HR.out).mono ?_
     rintro e w5 ⟨rfl, hb⟩
     have HB5 := Ya (HB.out.trans (hb.mono HB.out.size))
     have BK5 := Ya (Z27 BK.out hb)
     have BI5 := Ya (Z27 BI.out hb)
     have HO5 := Ya (Z14 HO.out hb)
     clear hb hx2 hx7 HB BK BI HO
     go_wp2_with (first | ((with_reducible refine gate_builtin (b := .append) (xs := #[.tmp 21, .tmp 23]) rfl ?_); at_builtin; refine Kd.R_append (Kd.int .i64) (w0 := w) w.heap.size rfl (.tmp 21) (.tmp 23) 24 3 (.int .i64 0) 8 rfl Try.underlying24 info3 rfl (by decide) (by omega) u6 out r [.int .i64 r] (fun k_ => k_ ≠ gi ∧ k_ ≠ gx) (fun _ => False) rfl rfl ?aP (fun _ hk => hk.elim) ?aF ?aO ?aB ?aS ?aL ?_; (case aP => exact rfl); (case aB => exact HB5.out); (case aF => exact (fun k_ hk => by have h1 := blk_lt BK5.out; have h2 := blk_lt BI5.out; omega)); (case aO => exact Z12 HO5.out (fun k_ hk => by first | exact hk | exact ⟨hk, fun h_ => h_.elim⟩)); (case aS => exact HB5.out.size); (case aL => have := LM.out; omega); intro v8 w8 ho8 hb8 hg8 hat8; have HO8 := Ya ho8; have HB8 := Ya hb8; have BK8 := Ya (blk_grown BK5.out hg8 (fun e_ => (HO5.out.1 gx e_.symm).2 rfl)); have BI8 := Ya (blk_grown BI5.out hg8 (fun e_ => (HO5.out.1 gi e_.symm).1 rfl)); have hx8 : w8.cell? ⟨gi, 0, none⟩ = some (.int .i64 i) := (Z22 BI8.out 0).trans rfl; clear HO5 HB5 BK5 BI5 ho8 hb8 hg8 hat8))
     go_roundg k1
     case measure => have := HK1.out; omega
     case rel => exact ⟨out ++ [r], wrap64 (i + 1), _, rfl, H', ⟨Q28⟩, ⟨Z9 (Z12 (Kd.R_bound HO8.out) (fun k_ hk => ⟨by have := hk.2.2.1; omega, hk.1.2⟩)) _⟩, ⟨Z26 BK8.out _⟩, ⟨blk_new w8 _⟩, ⟨Z5 HB8.out _⟩, ⟨HB8.out.size⟩⟩
   ·rw [if_neg c] at H
    have cb : decide (i < (l0.length : Int)) = false := Z36 c
    clear c
    simp only [Option.some.injEq, Prod.mk.injEq] at H
    obtain ⟨rfl, rfl⟩ := H
    go_wp2
    go_ret2
    exact ⟨_, rfl, Z12 HO.out (fun _ _ => trivial), HB.out⟩
theorem impl_IsMoveList.zeroB (w : World) : (zeroValue 4).run Try.prog w = .ok (.bool false) w := by kernel_rfl
theorem impl_IsMoveList.mt : Try.prog.underlying 73 = some (.map 3 4) := Try.underlying73
theorem impl_IsMoveList.mk_ : Try.prog.underlying 3 = some (.int .i64) := Try.underlying3
theorem impl_IsMoveList.me : Try.prog.underlying 4 = some .bool := Try.underlying4
def impl_IsMoveList.l0 : Nat → List (List Int) → Int → List Int → Option (List Int)
 | 0, _, _, _ => none
 | k + 1, L, i, met => if i < (L.length : Int) then (if 0 ≤ i then ((impl_permutationRank.f k (rd_L3 L i)).bind fun r => (if (Lit.int .i64 r).wf = true then (if met.length < 1000000 then (impl_IsMoveList.l0 k L (wrap64 (i + 1)) (if r ∈ met then met else r :: met)) else none) else none)) else none) else some met
theorem impl_IsMoveList.mono_l : ∀ k L i met, LeO (impl_IsMoveList.l0 k L i met) (impl_IsMoveList.l0 (k + 1) L i met)
 | 0, _, _, _ => fun r h => by simp [impl_IsMoveList.l0] at h
 | k + 1, L, i, met => by
  unfold impl_IsMoveList.l0
  exact LeO.ite (LeO.ite (LeO.bind (impl_permutationRank.mono _ _) (fun _ => LeO.ite (LeO.ite (impl_IsMoveList.mono_l k _ _ _) (LeO.none _)) (LeO.none _))) (LeO.none _)) (LeO.refl _)
def impl_IsMoveList.f (k : Nat) (a0 : Int) (l1 : List (List Int)) (l2 : List (S45)) : Option (Bool × Bool) := (impl_areMoves.f k a0 l2).bind fun t => (if t = true then ((impl_arePermutations.f k a0 l1).bind fun u => (if u = true then ((impl_IsMoveList.l0 k l1 0 []).bind fun met => ((impl_steps.f k l1 l2).bind fun s => (if s.2 = true then ((impl_factorial.f k a0).bind fun q => (if (l1.length : Int) = q then (some (decide (met.length = l1.length), true)) else (some (false, true)))) else (some (false, true))))) else (some (false, false)))) else (some (false, false)))
theorem impl_IsMoveList.mono : ∀ a0 a1 a2 k, LeO (impl_IsMoveList.f k a0 a1 a2) (impl_IsMoveList.f (k + 1) a0 a1 a2) := by
 intro a0 a1 a2 k
 unfold impl_IsMoveList.f
 refine LeO.bind (impl_areMoves.mono _ _ _) (fun _ => LeO.ite (LeO.bind (impl_arePermutations.mono _ _ _) (fun _ => LeO.ite (LeO.bind (impl_IsMoveList.mono_l _ _ _ _) (fun _ => LeO.bind (impl_steps.mono _ _ _) (fun _ => LeO.ite (LeO.bind (impl_factorial.mono _ _) (fun _ => LeO.refl _)) (LeO.refl _)))) (LeO.refl _))) (LeO.refl _))
open Go.Proofs.Ytllhnnjkonghlaa.MapSet in
set_option maxHeartbeats 8000000 in
set_option maxRecDepth 100000 in
theorem impl_IsMoveList.calls (k : Nat) (a0 : Int) (A1 : Option Addr) (c1 : Nat) (l1 : List (List Int)) (A2 : Option Addr) (c2 : Nat) (l2 : List (S45)) (r1 r2 : Bool) (w : World) (hr1 : Kd.C (Kd.slice 3 (Kd.int .i64)) w A1 l1.length l1) (hc1 : l1.length ≤ c1) (hr2 : Kd.C k45 w A2 l2.length l2) (hc2 : l2.length ≤ c2) (h : impl_IsMoveList.f k a0 l1 l2 = some (r1, r2)) :
  Calls Try.prog 28 #[.int .i64 a0, .slice A1 l1.length c1, .slice A2 l2.length c2] w fun e w' => e = .returned (.tuple #[.bool r1, .bool r2]) ∧ Below w.heap.size w w' := by
 have HR1 := Ya hr1
 have HC1 := Ya hc1
 have HR2 := Ya hr2
 have HC2 := Ya hc2
 unfold impl_IsMoveList.f at h
 obtain ⟨t1, h1, H⟩ := Z35.mp h
 have T1 := Ya h1
 clear h h1 hr1 hc1 hr2 hc2
 cases t1
 ·simp only [Bool.false_eq_true, if_false, Option.some.injEq, Prod.mk.injEq] at H
  obtain ⟨rfl, rfl⟩ := H
  go_enter Try.func28, Try.ntmps28
  go_wp2_with fail
  refine (impl_areMoves.calls k a0 A2 c2 l2 false _ HR2.out HC2.out T1.out).mono ?_
  rintro e w1 ⟨rfl, hb1⟩
  go_wp2
  go_ret2
  exact ⟨rfl, hb1⟩
 simp only [if_true] at H
 obtain ⟨t2, h2, H⟩ := Z35.mp H
 have T2 := Ya h2
 clear h2
 cases t2
 ·simp only [Bool.false_eq_true, if_false, Option.some.injEq, Prod.mk.injEq] at H
  obtain ⟨rfl, rfl⟩ := H
  go_enter Try.func28, Try.ntmps28
  go_wp2_with fail
  refine (impl_areMoves.calls k a0 A2 c2 l2 true _ HR2.out HC2.out T1.out).mono ?_
  rintro e w1 ⟨rfl, hb1⟩
  have HB1 := Ya hb1
  clear hb1
  go_wp2_with fail
  refine (impl_arePermutations.calls k a0 A1 c1 l1 false _ (Z21 HR1.out HB1.out) HC1.out T2.out).mono ?_
  rintro e w2 ⟨rfl, hb2⟩
  have HB2 := Ya (HB1.out.trans ((by first | exact hb2 | exact Drawn0.below hb2 : Below w1.heap.size w1 w2).mono HB1.out.size))
  clear hb2
  go_wp2
  go_ret2
  exact ⟨rfl, HB2.out⟩
 simp only [if_true] at H
 obtain ⟨met, h3, H⟩ := Z35.mp H
 obtain ⟨⟨so, sb⟩, h4, H⟩ := Z35.mp H
 have T4 := Ya h4
 have H3 := Ya h3
 have H' := Ya H
 have hmm := @run_makeMap Try.prog
 clear h3 h4 H
 go_enter Try.func28, Try.ntmps28
 go_wp2_with fail
 refine (impl_areMoves.calls k a0 A2 c2 l2 true _ HR2.out HC2.out T1.out).mono ?_
 rintro e w1 ⟨rfl, hb1⟩
 have HB1 := Ya hb1
 clear hb1
 go_wp2_with fail
 refine (impl_arePermutations.calls k a0 A1 c1 l1 true _ (Z21 HR1.out HB1.out) HC1.out T2.out).mono ?_
 rintro e w2 ⟨rfl, hb2⟩
 have HB2 := Ya (HB1.out.trans ((by first | exact hb2 | exact Drawn0.below hb2 : Below w1.heap.size w1 w2).mono HB1.out.size))
 clear hb2 HB1
 go_wp2
 have HM3 := Ya (MSet.made w2 Try.prog 3 4)
 have HB3 := Ya (Z5 HB2.out (.map #[] 0))
 have HG3 := Ya HB2.out.size
 have hgm : ∃ gm, gm = w2.heap.size := ⟨_, rfl⟩
 clear hmm HB2
 go_loopg [26] k (fun kq v26 w' => ∃ (i : Int) (M : List Int), v26 = .int .i64 i ∧ Aside0 (impl_IsMoveList.l0 kq l1 i M = some met) ∧ Aside0 (kq ≤ k) ∧ Aside0 (MSet Try.prog 3 4 w' w2.heap.size M) ∧ Aside0 (Below w.heap.size w w'))
 case atStart => exact ⟨0, [], rfl, H3, ⟨Nat.le_refl _⟩, HM3, HB3⟩
 case round =>
  clear H3 HM3 HB3 hgm
  obtain ⟨i, M, rfl, HA, HK1, HM, HB⟩ := hrel
  cases gk with
  | zero => exact absurd HA.out (by simp [impl_IsMoveList.l0])
  | succ k1 =>
   have H := HA.out
   clear HA
   simp only [impl_IsMoveList.l0] at H
   by_cases c : i < (l1.length : Int)
   ·rw [if_pos c] at H
    have cb : decide (i < (l1.length : Int)) = true := Z37 c
    by_cases p : 0 ≤ i
    rotate_left
    ·rw [if_neg p] at H; cases H
    rw [if_pos p] at H
    obtain ⟨r, hr, H⟩ := Z35.mp H
    have HR := Ya hr
    clear hr
    by_cases cw : (Lit.int .i64 r).wf = true
    rotate_left
    ·rw [if_neg cw] at H; cases H
    rw [if_pos cw] at H
    by_cases cl : M.length < 1000000
    rotate_left
    ·rw [if_neg cl] at H; cases H
    rw [if_pos cl] at H
    have HW := Ya cw
    have HL := Ya cl
    have Hn := Ya H
    clear cw cl H
    obtain ⟨ad, Ai, ci, ead, hxe, hle, hie⟩ := at_L3 HR1.out i p c
    cases ead
    have HIE := Ya hie
    have HLE := Ya hle
    replace hxe := (HB.out.cell (World.block_lt_of_cell? w _ hxe)).trans hxe
    have pb : (0 ≤ i) = True := eq_true p
    have qb : (i < (l1.length : Int)) = True := eq_true c
    clear p c hle hie
    go_wp2_with fail
    refine (impl_permutationRank.calls k1 Ai ci (rd_L3 l1 i) r _ (Z21 HIE.out HB.out) HLE.out HR.out).mono ?_
    rintro e w5 ⟨rfl, hb⟩
    have hb5 : Below wr.heap.size wr w5 := by first | exact hb | exact Drawn0.below hb
    have HB5 := Ya (HB.out.trans (hb5.mono HB.out.size))
    have HM5 := Ya (HM.out.below hb5)
    clear hb hb5 HB HM hxe
    go_wp2_with (first | ((with_reducible refine wpList_store rfl (.tmp 30) (.tmp 32) (.const (.bool true)) rfl impl_IsMoveList.mt impl_IsMoveList.mk_ impl_IsMoveList.me rfl HM5.out ?hn r HW.out rfl rfl ?_); (case hn => have := HL.out; unfold maxLen; omega); intro w6 hm6 hg6; have HM6 := Ya hm6; have HB6 := Ya (HB5.out.grown hg6 HB5.out.size (fun j hj => by cases hj; exact HG3.out)); clear hm6 hg6 HM5 HB5))
    go_roundg k1
    case measure => have := HK1.out; omega
    case rel => exact ⟨wrap64 (i + 1), _, rfl, Hn, ⟨Q28⟩, HM6, HB6⟩
   ·rw [if_neg c] at H
    have cb : decide (i < (l1.length : Int)) = false := Z36 c
    clear c
    obtain rfl := Option.some.inj H
    have H2 := H'.out
    clear H H'
    try simp only at H2
    go_wp2_with fail
    refine (impl_steps.calls k A1 c1 l1 A2 c2 l2 so sb _ (Z21 HR1.out HB.out) HC1.out (Z21 HR2.out HB.out) HC2.out T4.out).mono ?_
    rintro e w6 ⟨v6, rfl, ho6, hb6⟩
    have HB6 := Ya (HB.out.trans (hb6.mono HB.out.size))
    have HM6 := Ya (HM.out.below hb6)
    clear ho6 hb6 HB HM
    cases sb
    ·simp only [Bool.false_eq_true, if_false, Option.some.injEq, Prod.mk.injEq] at H2
     obtain ⟨rfl, rfl⟩ := H2
     go_wp2
     go_ret2
     exact ⟨rfl, HB6.out⟩
    ·simp only [if_true] at H2
     obtain ⟨q, hq, H2⟩ := Z35.mp H2
     have HQ := Ya hq
     clear hq
     by_cases ce : (l1.length : Int) = q
     ·rw [if_pos ce] at H2
      simp only [Option.some.injEq, Prod.mk.injEq] at H2
      obtain ⟨rfl, rfl⟩ := H2
      have ce1 : ((l1.length : Int) == q) = true := beq_iff_eq.mpr ce
      have ce2 : ((M.length : Int) == (l1.length : Int)) = decide (M.length = l1.length) := by
       by_cases h_ : M.length = l1.length
       ·simp [h_]
       ·simp [h_]; omega
      clear ce
      go_wp2_with fail
      refine (impl_factorial.calls k a0 q _ HQ.out).mono ?_
      rintro e w7 ⟨rfl, hb7⟩
      have hb7' : Below w6.heap.size w6 w7 := by first | exact hb7 | exact Drawn0.below hb7 | (obtain ⟨n, rfl⟩ := hb7; exact Z3 (Below.refl _ _) n)
      have HB7 := Ya (HB6.out.trans (hb7'.mono HB6.out.size))
      have HM7 := Ya (HM6.out.below hb7')
      clear hb7 hb7' HB6 HM6
      go_wp2_with (first | ((try (refine gate_guard (by rfl) ?_; dsimp only)); (with_reducible refine wpList_len rfl (.tmp 49) rfl impl_IsMoveList.mt rfl HM7.out ?_)))
      go_ret2
      exact ⟨by first | rfl | simp, HB7.out⟩
     ·rw [if_neg ce] at H2
      simp only [Option.some.injEq, Prod.mk.injEq] at H2
      obtain ⟨rfl, rfl⟩ := H2
      have ce1 : ((l1.length : Int) == q) = false := beq_eq_false_iff_ne.mpr ce
      clear ce
      go_wp2_with fail
      refine (impl_factorial.calls k a0 q _ HQ.out).mono ?_
      rintro e w7 ⟨rfl, hb7⟩
      have hb7' : Below w6.heap.size w6 w7 := by first | exact hb7 | exact Drawn0.below hb7 | (obtain ⟨n, rfl⟩ := hb7; exact Z3 (Below.refl _ _) n)
      have HB7 := Ya (HB6.out.trans (hb7'.mono HB6.out.size))
      clear hb7 hb7' HB6 HM6
      go_wp2
      go_ret2
      exact ⟨rfl, HB7.out⟩
def laws_uLists.l0 : Nat → List (List Int) → List (List Int) → Int → Int → Option (Bool)
 | 0, _, _, _, _ => none
 | k + 1, x0, x1, x12, x13 => if x13 < x12 then (if 0 ≤ x13 then (if x13 < (x0.length : Int) then (if x13 < (x1.length : Int) then ((laws_uSame.f k (rd_L3 x0 x13) (rd_L3 x1 x13)).bind fun t177 => (if t177 = true then (laws_uLists.l0 k x0 x1 x12 (wrap64 (x13 + 1))) else (some false))) else (none)) else (none)) else (none)) else (some true)
def laws_uLists.f (k : Nat) (l0 : List (List Int)) (l1 : List (List Int)) : Option (Bool) := if (l0.length : Int) = (l1.length : Int) then (laws_uLists.l0 k l0 l1 (l0.length : Int) 0) else (some false)
theorem laws_uLists.mono_l : ∀ k, (∀ y0 y1 y2 y3, LeO (laws_uLists.l0 k y0 y1 y2 y3) (laws_uLists.l0 (k + 1) y0 y1 y2 y3))
 | 0 => fun _ _ _ _ r h => by simp [laws_uLists.l0] at h
 | k + 1 => by
  have ih0 := laws_uLists.mono_l k
  ·intro y0 y1 y2 y3
   unfold laws_uLists.l0
   repeat' first
   | (with_reducible exact ih0 _ _ _ _)
   | (with_reducible exact laws_uSame.mono _ _ _)
   | (with_reducible exact LeO.refl _)
   | (with_reducible exact LeO.none _)
   | (with_reducible refine LeO.ite ?_ ?_)
   | (with_reducible refine LeO.bind ?_ (fun _ => ?_))
   | exact ih0 _ _ _ _
   | exact laws_uSame.mono _ _ _
   | exact LeO.none _
   | refine LeO.ite ?_ ?_
   | refine LeO.bind ?_ (fun _ => ?_)
theorem laws_uLists.mono : ∀ a0 a1 k, LeO (laws_uLists.f k a0 a1) (laws_uLists.f (k + 1) a0 a1) := by
 intro a0 a1 k
 have ih0 := laws_uLists.mono_l k
 unfold laws_uLists.f
 repeat' first
   | (with_reducible exact ih0 _ _ _ _)
   | (with_reducible exact laws_uSame.mono _ _ _)
   | (with_reducible exact LeO.refl _)
   | (with_reducible exact LeO.none _)
   | (with_reducible refine LeO.ite ?_ ?_)
   | (with_reducible refine LeO.bind ?_ (fun _ => ?_))
   | exact ih0 _ _ _ _
   | exact laws_uSame.mono _ _ _
   | exact LeO.none _
   | refine LeO.ite ?_ ?_
   | refine LeO.bind ?_ (fun _ => ?_)
set_option maxHeartbeats 8000000 in
set_option maxRecDepth 100000 in
theorem laws_uLists.calls (k : Nat) (A0 : Option Addr) (c0 : Nat) (l0 : List (List Int)) (A1 : Option Addr) (c1 : Nat) (l1 : List (List Int)) (r : Bool) (w : World) (hr0 : Kd.C (Kd.slice 3 (Kd.int .i64)) w A0 l0.length l0) (hc0 : l0.length ≤ c0) (hr1 : Kd.C (Kd.slice 3 (Kd.int .i64)) w A1 l1.length l1) (hc1 : l1.length ≤ c1) (h : laws_uLists.f k l0 l1 = some r) :
  Calls Try.prog 31 #[.slice A0 l0.length c0, .slice A1 l1.length c1] w fun e w' => e = .returned (.bool r) ∧ Drawn0 w w' := by
 have HR0 := Ya hr0
 have HC0 := Ya hc0
 clear hr0 hc0
 have HR1 := Ya hr1
 have HC1 := Ya hc1
 clear hr1 hc1
 have H : (if (l0.length : Int) = (l1.length : Int) then (laws_uLists.l0 k l0 l1 (l0.length : Int) 0) else (some false)) = some r := h
 clear h
 by_cases c3 : (l0.length : Int) = (l1.length : Int)
 ·rw [if_pos c3] at H
  have c3b0 : ((l0.length : Int) == (l1.length : Int)) = true := beq_iff_eq.mpr c3
  have c3b1 : ((l0.length : Int) != (l1.length : Int)) = false := bne_eq_false_iff_eq.mpr c3
  have c3b2 : (l0.length == l1.length) = true := by first | simpa using c3 | (simp at c3 ⊢; omega)
  clear c3
  have H' := Ya H
  clear H
  go_enter Try.func31, Try.ntmps31
  go_wp2
  repeat (go_quiet (fail); try go_wp2)
  go_loopg [13] k (fun kq v13 w' => ∃ (x13_1 : Int), v13 = .int .i64 x13_1 ∧ Aside0 (laws_uLists.l0 kq l0 l1 (l0.length : Int) x13_1 = some r) ∧ Aside0 (kq ≤ k) ∧ Drawn0 w w')
  case atStart => exact ⟨(0), Q5, H', ⟨Nat.le_refl _⟩, Q7⟩
  case round =>
   clear H'
   try clear c1
   try clear p2
   try clear c3
   try clear c3b0
   try clear c3b1
   try clear c3b2
   obtain ⟨x13_1, rfl, HA, HK1, ⟨m1, rfl⟩⟩ := hrel
   cases gk with
   | zero => exact absurd HA.out (by simp [laws_uLists.l0])
   | succ k1 =>
    have H := HA.out
    clear HA
    simp only [laws_uLists.l0] at H
    by_cases c4 : x13_1 < (l0.length : Int)
    ·rw [if_pos c4] at H
     have c4b0 := Z37 c4
     clear c4
     by_cases c5 : 0 ≤ x13_1
     ·rw [if_pos c5] at H
      have c5b0 := Z37 c5
      clear c5
      by_cases c6 : x13_1 < (l0.length : Int)
      ·rw [if_pos c6] at H
       have c6b0 := Z37 c6
       clear c6
       by_cases c7 : x13_1 < (l1.length : Int)
       ·rw [if_pos c7] at H
        have c7b0 := Z37 c7
        clear c7
        replace H := Z35.mp H
        obtain ⟨t177, A80, H⟩ := H
        replace H : (if t177 = true then (laws_uLists.l0 k1 l0 l1 (l0.length : Int) (wrap64 (x13_1 + 1))) else (some false)) = some r := H
        have A8 := Ya A80
        clear A80
        by_cases c9 : t177 = true
        ·subst c9
         have H1 : (laws_uLists.l0 k1 l0 l1 (l0.length : Int) (wrap64 (x13_1 + 1))) = some r := by rw [if_pos rfl] at H; exact H
         clear H
         have H := H1
         clear H1
         have H' := Ya H
         clear H
         have p175 : 0 ≤ (x13_1 : Int) := Z29 Q1
         have q175 : x13_1 < (l0.length : Int) := Z29 Q1
         obtain ⟨ad175, A175_0, c175_0, e175, hx175_0, hl175_0, hi175_0⟩ := at_L3 HR0.out x13_1 p175 q175
         cases e175
         have HR175_0 := Ya hi175_0
         have HC175_0 := Ya hl175_0
         clear hi175_0 hl175_0
         replace p175 := eq_true p175
         replace q175 := eq_true q175
         have p176 : 0 ≤ (x13_1 : Int) := Z29 Q1
         have q176 : x13_1 < (l1.length : Int) := Z29 Q1
         obtain ⟨ad176, A176_0, c176_0, e176, hx176_0, hl176_0, hi176_0⟩ := at_L3 HR1.out x13_1 p176 q176
         cases e176
         have HR176_0 := Ya hi176_0
         have HC176_0 := Ya hl176_0
         clear hi176_0 hl176_0
         replace p176 := eq_true p176
         replace q176 := eq_true q176
         go_wp2_with (first | (go_at_call 22; (with_reducible refine (laws_uSame.calls k1 _ _ (rd_L3 l0 x13_1) _ _ (rd_L3 l1 x13_1) true _ (Yc HR175_0.out) HC175_0.out (Yc HR176_0.out) HC176_0.out A8.out).mono ?_); rintro e w' ⟨rfl, ⟨nd, rfl⟩⟩; (try first | exact ⟨rfl, _, World.drewN_drewN _ _ _⟩ | exact ⟨rfl, _, Eq.trans (World.drewN_drewN _ _ _) (congrArg (World.drewN _) (Nat.add_assoc _ _ _))⟩)))
         repeat (go_quiet (first | (go_at_call 22; (with_reducible refine (laws_uSame.calls k1 _ _ (rd_L3 l0 x13_1) _ _ (rd_L3 l1 x13_1) true _ (Yc HR175_0.out) HC175_0.out (Yc HR176_0.out) HC176_0.out A8.out).mono ?_); rintro e w' ⟨rfl, ⟨nd, rfl⟩⟩; (try first | exact ⟨rfl, _, World.drewN_drewN _ _ _⟩ | exact ⟨rfl, _, Eq.trans (World.drewN_drewN _ _ _) (congrArg (World.drewN _) (Nat.add_assoc _ _ _))⟩))); try go_wp2_with (first | (go_at_call 22; (with_reducible refine (laws_uSame.calls k1 _ _ (rd_L3 l0 x13_1) _ _ (rd_L3 l1 x13_1) true _ (Yc HR175_0.out) HC175_0.out (Yc HR176_0.out) HC176_0.out A8.out).mono ?_); rintro e w' ⟨rfl, ⟨nd, rfl⟩⟩; (try first | exact ⟨rfl, _, World.drewN_drewN _ _ _⟩ | exact ⟨rfl, _, Eq.trans (World.drewN_drewN _ _ _) (congrArg (World.drewN _) (Nat.add_assoc _ _ _))⟩))))
         go_roundg k1
         case measure => have := HK1.out; omega
         case rel => exact ⟨(wrap64 (x13_1 + 1)), Q5, H', ⟨Q28⟩, Q7⟩
        ·replace c9 := Bool.eq_false_iff.mpr c9
         subst c9
         have H1 : (some false) = some r := by rw [if_neg (show ¬ (false = true) by decide)] at H; exact H
         clear H
         have H := H1
         clear H1
         obtain rfl := Option.some.inj H
         have p175 : 0 ≤ (x13_1 : Int) := Z29 Q1
         have q175 : x13_1 < (l0.length : Int) := Z29 Q1
         obtain ⟨ad175, A175_0, c175_0, e175, hx175_0, hl175_0, hi175_0⟩ := at_L3 HR0.out x13_1 p175 q175
         cases e175
         have HR175_0 := Ya hi175_0
         have HC175_0 := Ya hl175_0
         clear hi175_0 hl175_0
         replace p175 := eq_true p175
         replace q175 := eq_true q175
         have p176 : 0 ≤ (x13_1 : Int) := Z29 Q1
         have q176 : x13_1 < (l1.length : Int) := Z29 Q1
         obtain ⟨ad176, A176_0, c176_0, e176, hx176_0, hl176_0, hi176_0⟩ := at_L3 HR1.out x13_1 p176 q176
         cases e176
         have HR176_0 := Ya hi176_0
         have HC176_0 := Ya hl176_0
         clear hi176_0 hl176_0
         replace p176 := eq_true p176
         replace q176 := eq_true q176
         go_wp2_with (first | (go_at_call 22; (with_reducible refine (laws_uSame.calls k1 _ _ (rd_L3 l0 x13_1) _ _ (rd_L3 l1 x13_1) false _ (Yc HR175_0.out) HC175_0.out (Yc HR176_0.out) HC176_0.out A8.out).mono ?_); rintro e w' ⟨rfl, ⟨nd, rfl⟩⟩; (try first | exact ⟨rfl, _, World.drewN_drewN _ _ _⟩ | exact ⟨rfl, _, Eq.trans (World.drewN_drewN _ _ _) (congrArg (World.drewN _) (Nat.add_assoc _ _ _))⟩)))
         repeat (go_quiet (first | (go_at_call 22; (with_reducible refine (laws_uSame.calls k1 _ _ (rd_L3 l0 x13_1) _ _ (rd_L3 l1 x13_1) false _ (Yc HR175_0.out) HC175_0.out (Yc HR176_0.out) HC176_0.out A8.out).mono ?_); rintro e w' ⟨rfl, ⟨nd, rfl⟩⟩; (try first | exact ⟨rfl, _, World.drewN_drewN _ _ _⟩ | exact ⟨rfl, _, Eq.trans (World.drewN_drewN _ _ _) (congrArg (World.drewN _) (Nat.add_assoc _ _ _))⟩))); try go_wp2_with (first | (go_at_call 22; (with_reducible refine (laws_uSame.calls k1 _ _ (rd_L3 l0 x13_1) _ _ (rd_L3 l1 x13_1) false _ (Yc HR175_0.out) HC175_0.out (Yc HR176_0.out) HC176_0.out A8.out).mono ?_); rintro e w' ⟨rfl, ⟨nd, rfl⟩⟩; (try first | exact ⟨rfl, _, World.drewN_drewN _ _ _⟩ | exact ⟨rfl, _, Eq.trans (World.drewN_drewN _ _ _) (congrArg (World.drewN _) (Nat.add_assoc _ _ _))⟩))))
         go_ret
         exact ⟨Q18, Q7⟩
       ·rw [if_neg c7] at H
        exact absurd H (by simp)
      ·rw [if_neg c6] at H
       exact absurd H (by simp)
     ·rw [if_neg c5] at H
      exact absurd H (by simp)
    ·rw [if_neg c4] at H
     have c4b0 := Z36 c4
     clear c4
     obtain rfl := Option.some.inj H
     go_wp2
     repeat (go_quiet (fail); try go_wp2)
     go_ret
     exact ⟨Q18, Q7⟩
 ·rw [if_neg c3] at H
  have c3b0 : ((l0.length : Int) == (l1.length : Int)) = false := beq_eq_false_iff_ne.mpr c3
  have c3b1 : ((l0.length : Int) != (l1.length : Int)) = true := bne_iff_ne.mpr c3
  have c3b2 : (l0.length == l1.length) = false := by first | simpa using c3 | (simp at c3 ⊢; omega)
  obtain rfl := Option.some.inj H
  go_enter Try.func31, Try.ntmps31
  go_wp2
  repeat (go_quiet (fail); try go_wp2)
  go_ret
  exact ⟨Q18, Q7⟩
end Go.Proofs.Ytllhnnjkonghlaa.MFnGreedyLists
