/- Functions of the program as Lean functions, each with the proof that its call comes to just that: laid for this claim by this session's own program. -/
import Derived.Test.YtcplfdfmebibpaaMFnExactMovesOfx0
import Derived.Test.YtcplfdfmebibpaaMFnExactMovesOfx6
namespace Go.Proofs.Ytcplfdfmebibpaa.MFnExactMovesOf
open Go.RowKit Go.Proofs.YtcplfdfmebibpaaW.PrintWords Go.Proofs.YtcplfdfmebibpaaW.PrintLast Go.Proofs.YtcplfdfmebibpaaW.PrintMore
attribute [local go_sem] max2_int min2_int max_two min_two max_three min_three max_four min_four   -- for this text's walks alone
set_option linter.unusedVariables false
set_option linter.unusedSimpArgs false

-- NOT PRINTED: function 108 (slices_Values_int_int)

/-! ### impl_IsPermutation: function 83 -/
/-- Is the list one of 0 .. n - 1, each once? Its elements, sorted, against the identity. -/
def impl_IsPermutation.f (k : Nat) (l0 : List Int) : Option Bool := if l0.length ≤ 12 then ((impl_identity.f k (l0.length : Int)).bind fun d => slices_Equal_int_int.f k (l0.mergeSort (fun x y => decide (x ≤ y))) d) else some false
theorem impl_IsPermutation.mono : ∀ a0 k, LeO (impl_IsPermutation.f k a0) (impl_IsPermutation.f (k + 1) a0) := by
  intro a0 k
  unfold impl_IsPermutation.f
  repeat' first
      | (with_reducible exact impl_identity.mono _ _)
      | (with_reducible exact slices_Equal_int_int.mono _ _ _)
      | (with_reducible exact LeO.refl _)
      | (with_reducible exact LeO.none _)
      | (with_reducible refine LeO.ite ?_ ?_)
      | (with_reducible refine LeO.bind ?_ (fun _ => ?_))
      | exact impl_identity.mono _ _
      | exact slices_Equal_int_int.mono _ _ _
      | exact LeO.none _
      | refine LeO.ite ?_ ?_
      | refine LeO.bind ?_ (fun _ => ?_)
open Go.Maps Go.Sort Go.Shelf in
shelf_lay_g SlLaysZI.n6 Ggz 6 at Try 107 as Try.sortedA
open Go.Maps Go.Sort Go.Shelf in
shelf_lay_g SlLaysM.n5 Slgm 5 at Try 118 as Try.sortA
open Go.Maps Go.Sort Go.Shelf in
theorem impl_IsPermutation.sorts (m : Nat) : AnyZI.SortsIn Try.prog Try.sortedA_ren Fence.wide m :=
  ⟨fun blk off cap ss W hH hblk hsz => callsIn_wide.2 (AnyM.slices_Sort_int Try.sortA blk off cap ss W hH hblk hsz),
   fun p cap W => callsIn_wide.2 (AnyM.slices_Sort_int_none Try.sortA p cap W)⟩
open Go.Maps Go.Sort Go.Shelf in
/-- What an iterator gives as long as whatever lay before stands: what a range over a slice's values can say. -/
def impl_IsPermutation.GivesB (F : Fence) (n : Nat) (P : Program) (g : Nat) (lb : Array Value) (N : Nat) (S : List Int → Prop) (w : World) : Prop :=
  ∀ (lp : Nat) (J : List Int → World → Prop) (W : World), Below w.heap.size w W → AbidesFrom W.heap.size J → (∀ s W', J s W' → Below w.heap.size w W') →
    (∀ pre x W1, J pre W1 → pre.length < N → YieldAt F (n - 1) P lp #[encZ x] W1 fun e W' => e = .returned (.bool true) ∧ J (pre ++ [x]) W' ∧ KeepsWalks W1 W') → J [] W →
    CallsIn F n P g (#[.func (.yield lp) #[] #[]] ++ lb) W fun e W' => (∃ v, e = .returned v) ∧ ∃ xs, S xs ∧ J xs W'
theorem impl_IsPermutation.takeRd (l : List Int) (i : Nat) (ci : i < l.length) : l.take (i + 1) = l.take i ++ [rd l (i : Int)] := by
  rw [List.take_add_one, List.getElem?_eq_getElem ci]
  unfold rd
  rw [Int.toNat_natCast, List.getD_eq_getElem?_getD, List.getElem?_eq_getElem ci]; rfl
set_option maxRecDepth 100000 in
set_option maxHeartbeats 2000000 in
open Go.Maps Go.Sort Go.Shelf in
theorem impl_IsPermutation.values (n : Nat) (hn : 1 ≤ n) (Bm : Nat) (A : Option Addr) (c : Nat) (l : List Int) (hll : l.length < 1000000) (w : World) (hBm : w.heap[Bm]? = some (.cells #[.slice A l.length c] 22 (0, 0))) (hr : Kd.C (Kd.int .i64) w A l.length l) :
    impl_IsPermutation.GivesB Fence.wide n Try.prog 119 #[.pointer (some ⟨Bm, 0, none⟩)] l.length (fun xs => xs = l) w := by
  intro lp J W hW hJ hJB hY h0
  have hBlt : Bm < w.heap.size := (Array.getElem?_eq_some_iff.1 hBm).1
  have hc : W.cell? ⟨Bm, 0, none⟩ = some (.slice A l.length c) := by simp [World.cell?, (hW.block Bm hBlt).trans hBm]
  refine callsIn_of_wp Try.func119 rfl trivial ?_ rfl
  simp only [Try.ntmps119, List.size_toArray, List.length_cons, List.length_nil, Nat.reduceAdd, Nat.reduceSub, Array.replicate_succ, Array.replicate_zero, List.push_toArray, List.append_toArray, List.nil_append, List.cons_append]
  gi_wp2
  gi_loopw [7] (fun v7 wr => ∃ i : Nat, v7 = .int .i64 (i : Int) ∧ i ≤ l.length ∧ J (l.take i) wr) (fun v7 _ => match v7 with | .int _ i => l.length - i.toNat | _ => 0)
  case atStart => exact ⟨0, rfl, Nat.zero_le _, by simpa using h0⟩
  case round =>
    obtain ⟨i, rfl, hi, hJi⟩ := hrel
    by_cases ci : i < l.length
    · have c1 : decide ((i : Int) < (l.length : Int)) = true := decide_eq_true (by omega)
      have hB := hJB _ _ hJi
      obtain ⟨ad, ead, hx⟩ := Kd.at_int (Kd.C_below hr hB) (i : Int) (by omega) (by omega)
      subst ead
      simp only [Int.toNat_natCast] at hx
      obtain ⟨fn, tmps, assign, body, hy, hR⟩ := hY (l.take i) (rd l (i : Int)) wr hJi (by rw [List.length_take]; omega)
      have p1 : (0 ≤ (i : Int)) = True := eq_true (by omega)
      have p2 : ((i : Int) < (l.length : Int)) = True := eq_true (by omega)
      have ht1 := impl_IsPermutation.takeRd l i ci
      gi_wp2
      refine hR.mono ?_
      rintro e W3 ⟨rfl, hJ3, hk3⟩
      gi_wp2
      have hw1 : wrap64 ((i : Int) + 1) = ((i + 1 : Nat) : Int) := by unfold wrap64; omega
      go_roundw
      case rel => exact ⟨i + 1, by first | rw [hw1] | rfl | (simp; done) | (congr 1; omega), by omega, by rw [ht1]; exact hJ3⟩
      case measure =>
        (try rw [hw1])
        first
          | (show l.length - (((i + 1 : Nat) : Int)).toNat < l.length - ((i : Int)).toNat; omega)
          | (show l.length - ((i : Int) + 1).toNat < l.length - ((i : Int)).toNat; omega)
    · have c1 : decide ((i : Int) < (l.length : Int)) = false := decide_eq_false (by omega)
      gi_wp2
      go_end0
      exact ⟨⟨_, rfl⟩, l, rfl, by rw [List.take_of_length_le (by omega)] at hJi; exact hJi⟩

section
open Go.Maps Go.Sort Go.Shelf
variable {P : Program} {ρ : Ren}
set_option maxRecDepth 100000 in
set_option maxHeartbeats 2000000 in
/-- slices.AppendSeq to nil, over an iterator that gives as long as whatever lay before stands. -/
theorem impl_IsPermutation.appendSeq (L : SlLaysZI.n11 P ρ) (F : Fence) (n : Nat) (h11 : F.fn (ρ.f 11)) (hro : F.round = none) (hn : 2 ≤ n) (g : Nat) (lb : Array Value) (hFg : F.fn g) (eg : ∀ args w, (callFunc g args).run P w = .ok (.enter g args) w)
    (S : List Int → Prop) (N : Nat) (hN : N ≤ maxLen) (hNb : N * 8 ≤ 140737488355328) (w : World) (hseq : impl_IsPermutation.GivesB F (n - 1) P g lb N S w) :
    CallsIn F n P (ρ.f 11) #[.slice none 0 0, .func (.func g) #[] lb] w fun e w' => ∃ (v : Value) (ss : List Int), e = .returned v ∧ S ss ∧ w'.ownsRow w.heap.size (ρ.t 26) 1 v ss.length (ss.map encZ) ∧ (v = .slice none 0 0 ↔ ss = []) ∧ Below w.heap.size w w' := by
  have h1 : 1 ≤ n := by omega
  have mixed := L.mixed; have t24 := L.t24; have a24 := L.a24; have z24 := L.z24; have v24 := L.v24; have t26 := L.t26; have a26 := L.a26; have z26 := L.z26; have v26 := L.v26; have t28 := L.t28; have a28 := L.a28; have z28 := L.z28; have v28 := L.v28; have t0 := L.t0; have a0 := L.a0; have z0 := L.z0; have v0 := L.v0
  have hne : ρ.t 24 ≠ ρ.t 26 := fun e => by have h := L.t24; rw [e, L.t26] at h; cases h
  have u0 := run_underlying L.t0; have u24 := run_underlying L.t24; have u26 := run_underlying L.t26; have u28 := run_underlying L.t28
  obtain ⟨_, _, FG⟩ := L.f11
  refine callsIn_of_wp_marks FG rfl h11 ?_ hro
  simp only [SlBodyZ.n11_ntmps ρ, List.size_toArray, List.length_cons, List.length_nil, Nat.reduceAdd, Nat.reduceSub, Array.replicate_succ, Array.replicate_zero, List.push_toArray, List.append_toArray, List.nil_append, List.cons_append]
  gi_wp2
  refine wpIn_rangeFunc ?_
  intro fn hfn
  rw [hro]
  -- the box of 's', the loop's two records
  generalize hW0 : w.alloc (.cells #[.slice none 0 0] (ρ.t 24)) = W0
  have hs0 : W0.heap.size = w.heap.size + 1 := by rw [← hW0]; simp
  have hv0 : W0.heap[w.heap.size]? = some (.cells #[.slice none 0 0] (ρ.t 24) (0, 0)) := by rw [← hW0]; exact World.alloc_heap_new w _
  have hb0 : Below w.heap.size w W0 := by rw [← hW0]; exact (Below.refl _ w).alloc (Nat.le_refl _) _
  generalize hW1 : (W0.alloc (.deferred (some []))).alloc (.loop (AnyZI.apRec ρ fn (.func (.func g) #[] lb) w.heap.size W0.heap.size .ready none)) = W1
  have hold : ∀ k, k < W0.heap.size → W1.heap[k]? = W0.heap[k]? := fun k hk => by
    rw [← hW1]; exact (Below.heap_alloc _ _ k (by simp; omega)).trans (Below.heap_alloc _ _ k hk)
  have hb1 : Below w.heap.size w W1 := by rw [← hW1]; exact (hb0.alloc hb0.size _).alloc (by have := hb0.size; simp; omega) _
  have hL1 : W1.heap[W0.heap.size + 1]? = some (.loop (AnyZI.apRec ρ fn (.func (.func g) #[] lb) w.heap.size W0.heap.size .ready none)) := by
    rw [← hW1]; have := World.alloc_heap_new (W0.alloc (.deferred (some []))) (.loop (AnyZI.apRec ρ fn (.func (.func g) #[] lb) w.heap.size W0.heap.size .ready none)); rwa [World.size_alloc] at this
  have hK1 : W1.heap[W0.heap.size]? = some (.deferred (some [])) := by
    rw [← hW1]; exact (Below.heap_alloc _ _ _ (by simp)).trans (World.alloc_heap_new W0 _)
  have hM : AnyZI.ApAt ρ w fn (.func (.func g) #[] lb) w.heap.size (W0.heap.size + 1) W0.heap.size [] W1 :=
    ⟨⟨_, (hold w.heap.size (by omega)).trans hv0, ⟨rfl, .inl ⟨rfl, rfl⟩⟩, by simp⟩, hL1, hK1, hb1⟩
  refine ⟨W0.heap.size + 1, [{ target := .collected W0.heap.size, args := #[] }], W1, { target := .fn (.func g) lb, args := #[.func (.yield (W0.heap.size + 1)) #[] #[]] }, W1, g,
    #[.func (.yield (W0.heap.size + 1)) #[] #[]] ++ lb, W1, ?_, ?_, ?_, ?_, fun _ => h1, ?_⟩
  · rw [← hW1]; exact run_enterLoop_outer _ _ _ _ _
  · simp [resolve, go_sem]
  · intro f' hf'; simp [Target.leads] at hf'; subst hf'; exact hFg
  · simp [invoke, go_sem, eg]
  · refine (hseq (W0.heap.size + 1) (AnyZI.ApAt ρ w fn (.func (.func g) #[] lb) w.heap.size (W0.heap.size + 1) W0.heap.size) W1 hb1 (AnyZI.ap_abides ρ _ _ _ _ _ _ _ hb1.size) (fun s W' h => h.below)
      (fun pre x W hJ hl => AnyZI.apYield { L with } F (n - 1 - 1) w fn hfn _ w.heap.size (W0.heap.size + 1) W0.heap.size (by omega) (by omega) (by omega) (Nat.le_refl _) (by omega) N hN hNb pre x W hJ hl) hM).mono ?_
    rintro e W2 ⟨⟨v0, rfl⟩, ss, hS, h2⟩
    obtain ⟨v, hv, hrow, hnil⟩ := h2.box
    have hend := run_endLoop (P := P) h2.L (by simp [AnyZI.apRec])
    generalize hW3 : W2.putObj (W0.heap.size + 1) (.loop { AnyZI.apRec ρ fn (.func (.func g) #[] lb) w.heap.size W0.heap.size .ready none with state := .exhausted }) = W3 at hend
    have hg3 : W2.grownBy W3 (some (W0.heap.size + 1)) := by rw [← hW3]; exact grownBy_putObj_a _ _ _
    have hv3 : W3.heap[w.heap.size]? = some (.cells #[v] (ρ.t 24) (0, 0)) := by rw [← hW3]; exact (World.putObj_heap_other (by omega)).trans hv
    have hK3 : W3.heap[W0.heap.size]? = some (.deferred (some [])) := by rw [← hW3]; exact (World.putObj_heap_other (by omega)).trans h2.K
    have hrow3 := hrow.kept hg3 (ownsRow_ne_a hrow h2.L (fun cur e => by first | cases e | exact hne (Obj.cells.inj e).2.1))
    have hb3 : Below w.heap.size w W3 := h2.below.grown hg3 h2.below.size (fun k e => by cases e; omega)
    obtain ⟨hc3, hf3⟩ := cell_of_box_a hv3
    clear hW3
    refine ⟨none, W3, hend, ?_⟩
    gi_wp2
    rw [← hs0]
    refine ⟨by simp, .inl ⟨_, _, rfl, run_takeDeferred hK3, ?_⟩⟩
    exact ⟨_, results_tmp rfl _ _ _, v, ss, rfl, hS, hrow3.kept (grownBy_putObj_a _ _ _) (ownsRow_ne_a hrow3 hK3 (fun cur e => by first | cases e | exact hne (Obj.cells.inj e).2.1)), hnil, hb3.grown (grownBy_putObj_a _ _ _) hb3.size (fun k e => by cases e; omega)⟩
set_option maxHeartbeats 1000000 in
theorem impl_IsPermutation.collect (L : SlLaysZI.n8 P ρ) (F : Fence) (n : Nat) (h8 : F.fn (ρ.f 8)) (h11 : F.fn (ρ.f 11)) (hro : F.round = none) (hn : 3 ≤ n) (g : Nat) (lb : Array Value) (hFg : F.fn g) (eg : ∀ args w, (callFunc g args).run P w = .ok (.enter g args) w)
    (S : List Int → Prop) (N : Nat) (hN : N ≤ maxLen) (hNb : N * 8 ≤ 140737488355328) (w : World) (hseq : impl_IsPermutation.GivesB F (n - 1 - 1) P g lb N S w) :
    CallsIn F n P (ρ.f 8) #[.func (.func g) #[] lb] w fun e w' => ∃ (v : Value) (ss : List Int), e = .returned v ∧ S ss ∧ w'.ownsRow w.heap.size (ρ.t 26) 1 v ss.length (ss.map encZ) ∧ (v = .slice none 0 0 ↔ ss = []) ∧ Below w.heap.size w w' := by
  have h1 : 1 ≤ n := by omega
  have e11 : ∀ args w, (callFunc (ρ.f 11) args).run P w = .ok (.enter (ρ.f 11) args) w := L.f11.enters rfl
  have mixed := L.mixed; have t24 := L.t24; have a24 := L.a24; have z24 := L.z24; have v24 := L.v24; have t26 := L.t26; have a26 := L.a26; have z26 := L.z26; have v26 := L.v26; have t28 := L.t28; have a28 := L.a28; have z28 := L.z28; have v28 := L.v28; have t0 := L.t0; have a0 := L.a0; have z0 := L.z0; have v0 := L.v0
  have u0 := run_underlying L.t0; have u24 := run_underlying L.t24; have u26 := run_underlying L.t26; have u28 := run_underlying L.t28
  obtain ⟨_, _, FG⟩ := L.f8
  refine callsIn_of_wp FG rfl h8 ?_ hro
  simp only [SlBodyZ.n8_ntmps ρ, List.size_toArray, List.length_cons, List.length_nil, Nat.reduceAdd, Nat.reduceSub, Array.replicate_succ, Array.replicate_zero, List.push_toArray, List.append_toArray, List.nil_append, List.cons_append]
  gi_wp2_with (gi_at_fn (ρ.f 11); refine (impl_IsPermutation.appendSeq { L with } F (n - 1) h11 hro (by omega) g lb hFg eg S N hN hNb _ hseq).mono ?_; rintro e w' ⟨v, ss, rfl, hS, hrow, hnil, hb⟩)
  go_ret
  exact ⟨v, ss, rfl, hS, hrow, hnil, hb⟩
set_option maxRecDepth 100000 in
set_option maxHeartbeats 2000000 in
theorem impl_IsPermutation.sorted (L : SlLaysZI.n6 P ρ) (F : Fence) (n : Nat) (h6 : F.fn (ρ.f 6)) (h8 : F.fn (ρ.f 8)) (h9 : F.fn (ρ.f 9)) (h11 : F.fn (ρ.f 11)) (hro : F.round = none) (hn : 4 ≤ n) (hsort : AnyZI.SortsIn P ρ F (n - 1)) (e9 : ∀ args w, (callFunc (ρ.f 9) args).run P w = .ok (.enter (ρ.f 9) args) w) (g : Nat) (lb : Array Value) (hFg : F.fn g) (eg : ∀ args w, (callFunc g args).run P w = .ok (.enter g args) w)
    (l : List Int) (hl : l.length < 1000000) (w : World) (hseq : impl_IsPermutation.GivesB F (n - 1 - 1 - 1) P g lb l.length (fun xs => xs = l) w) :
    CallsIn F n P (ρ.f 6) #[.func (.func g) #[] lb] w fun e w' => ∃ v, e = .returned v ∧ w'.ownsRow w.heap.size (ρ.t 26) 1 v l.length ((l.mergeSort (fun x y => decide (x ≤ y))).map encZ) ∧ Below w.heap.size w w' := by
  have h1 : 1 ≤ n := by omega
  have e8 : ∀ args w, (callFunc (ρ.f 8) args).run P w = .ok (.enter (ρ.f 8) args) w := L.f8.enters rfl
  have mixed := L.mixed; have t24 := L.t24; have a24 := L.a24; have z24 := L.z24; have v24 := L.v24; have t26 := L.t26; have a26 := L.a26; have z26 := L.z26; have v26 := L.v26; have t28 := L.t28; have a28 := L.a28; have z28 := L.z28; have v28 := L.v28; have t0 := L.t0; have a0 := L.a0; have z0 := L.z0; have v0 := L.v0
  have u0 := run_underlying L.t0; have u24 := run_underlying L.t24; have u26 := run_underlying L.t26; have u28 := run_underlying L.t28
  have hmx : maxLen = 9223372036854775807 := rfl
  obtain ⟨_, _, FG⟩ := L.f6
  refine callsIn_of_wp FG rfl h6 ?_ hro
  simp only [SlBodyZ.n6_ntmps ρ, List.size_toArray, List.length_cons, List.length_nil, Nat.reduceAdd, Nat.reduceSub, Array.replicate_succ, Array.replicate_zero, List.push_toArray, List.append_toArray, List.nil_append, List.cons_append]
  gi_wp2_with (gi_at_fn (ρ.f 8); refine (impl_IsPermutation.collect { L with } F (n - 1) h8 h11 hro (by omega) g lb hFg eg _ l.length (by omega) (by omega) _ hseq).mono ?_; rintro e W ⟨v, ss, rfl, hS, hrow, hnil, hb⟩)
  subst hS
  rcases hrow.2 with ⟨rfl, hz⟩ | ⟨gb, cap, cur, rfl, hbase, hgb, r1, r2, r3, r4⟩
  · have hss : ss = [] := List.eq_nil_of_length_eq_zero hz
    subst hss
    gi_wp2_with (gi_at_fn (ρ.f 9); refine (hsort.2 none 0 W).mono ?_; rintro e w' ⟨rfl, rfl⟩)
    go_ret
    exact ⟨.slice none 0 0, rfl, by simpa using hrow, hb⟩
  · have hH : Holds encZ W gb 0 ss.toArray := holds_of_block_i hgb (by simpa using r4)
    have hgl : gb < W.heap.size := (Array.getElem?_eq_some_iff.1 hgb).1
    have cS := hsort.1 gb 0 cap ss W hH hgl (by omega)
    gi_wp2_with (gi_at_fn (ρ.f 9); refine cS.mono ?_; rintro e w' ⟨rfl, nn, os, rfl⟩)
    go_ret
    exact ⟨_, rfl, ownsRow_sorted_i (by simp) hbase hgb r1 r2 r3, hb.grown (grownBy_sorted_i _) hb.size (fun j hj => by cases hj; exact hbase)⟩
end
set_option maxHeartbeats 8000000 in
set_option maxRecDepth 100000 in
theorem impl_IsPermutation.valuesCall (A : Option Addr) (n c : Nat) (w : World) :
    Calls Try.prog 108 #[.slice A n c] w fun e w' => e = .returned (.func (.func 119) #[] #[.pointer (some ⟨w.heap.size, 0, none⟩)]) ∧ w' = w.alloc (.cells #[.slice A n c] 22) := by
  go_enter Try.func108, Try.ntmps108
  go_wp2
  go_ret
  exact ⟨rfl, rfl⟩
open Go.Maps Go.Sort Go.Shelf in
theorem impl_IsPermutation.sortedCall (Bm : Nat) (A : Option Addr) (c : Nat) (l : List Int) (hll : l.length < 1000000) (w : World) (hBm : w.heap[Bm]? = some (.cells #[.slice A l.length c] 22 (0, 0))) (hr : Kd.C (Kd.int .i64) w A l.length l) :
    Calls Try.prog 107 #[.func (.func 119) #[] #[.pointer (some ⟨Bm, 0, none⟩)]] w fun e w' => ∃ v, e = .returned v ∧ Kd.R (Kd.int .i64) 3 w' w.heap.size (fun _ => True) v (l.mergeSort (fun x y => decide (x ≤ y))) ∧ Below w.heap.size w w' := by
  have h := impl_IsPermutation.sorted Try.sortedA Fence.wide 5 trivial trivial trivial trivial rfl (by omega) (impl_IsPermutation.sorts _) (enters_of Try.func118 (by kernel_rfl) rfl) 119 #[.pointer (some ⟨Bm, 0, none⟩)] trivial (enters_of Try.func119 (by kernel_rfl) rfl) l hll w (impl_IsPermutation.values _ (by omega) Bm A c l hll w hBm hr)
  change CallsIn _ _ Try.prog 107 _ _ _ at h
  refine ((callsIn_wide (n := 5)).1 h).mono ?_
  rintro e w' ⟨v, rfl, hrow, hb⟩
  have hlen : (l.mergeSort (fun x y => decide (x ≤ y))).length = l.length := by simp
  exact ⟨v, rfl, Kd.R_of_own (by rw [hlen]; exact hrow) (fun _ _ => trivial), hb⟩
set_option maxHeartbeats 8000000 in
set_option maxRecDepth 100000 in
theorem impl_IsPermutation.calls (k : Nat) (A0 : Option Addr) (c0 : Nat) (l0 : List Int) (r : Bool) (w : World) (hr0 : Kd.C (Kd.int .i64) w A0 l0.length l0) (hc0 : l0.length ≤ c0) (h : impl_IsPermutation.f k l0 = some r) :
    Calls Try.prog 83 #[.slice A0 l0.length c0] w fun e w' => e = .returned (.bool r) ∧ Below w.heap.size w w' := by
  unfold impl_IsPermutation.f at h
  have HR := Aside0.mk hr0
  have HC := Aside0.mk hc0
  clear hr0 hc0
  by_cases c : l0.length ≤ 12
  · rw [if_pos c] at h
    have cb : decide ((l0.length : Int) ≤ 12) = true := decide_eq_true (by omega)
    have cb2 : decide (l0.length ≤ 12) = true := decide_eq_true c
    have CC := Aside0.mk c
    clear c
    obtain ⟨d, h1, h2⟩ := Option.bind_eq_some_iff.mp h
    generalize hsr : l0.mergeSort (fun x y => decide (x ≤ y)) = s at h2
    have HS := Aside0.mk hsr
    have H1 := Aside0.mk h1
    have H2 := Aside0.mk h2
    clear h h1 h2 hsr
    go_enter Try.func83, Try.ntmps83
    go_wp2_with fail
    refine (impl_IsPermutation.valuesCall A0 l0.length c0 w).mono ?_
    rintro e w1 ⟨rfl, rfl⟩
    have HB1 := Aside0.mk (below_alloc (Below.refl w.heap.size w) (.cells #[.slice A0 l0.length c0] 22))
    have HM := Aside0.mk (show (w.alloc (.cells #[.slice A0 l0.length c0] 22)).heap[w.heap.size]? = some (.cells #[.slice A0 l0.length c0] 22 (0, 0)) from World.alloc_heap_new w _)
    go_wp2_with fail
    refine (impl_IsPermutation.sortedCall w.heap.size A0 c0 l0 (by have := CC.out; omega) _ HM.out (Kd.C_below HR.out HB1.out)).mono ?_
    rintro e w2 ⟨v2, rfl, ho2, hb2⟩
    rw [HS.out] at ho2
    obtain ⟨A2, c2, rfl⟩ := Kd.R_slice ho2
    have HO2 := Aside0.mk ho2
    have HB2 := Aside0.mk (HB1.out.trans (hb2.mono HB1.out.size))
    clear ho2 hb2
    go_wp2_with fail
    refine (impl_identity.calls k (l0.length : Int) d _ H1.out).mono ?_
    rintro e w3 ⟨v3, rfl, ho3, hb3⟩
    obtain ⟨A3, c3, rfl⟩ := Kd.R_slice ho3
    have HO3 := Aside0.mk (Kd.R_reads' ho3)
    have HL2 := Aside0.mk (Kd.R_reads' (Kd.R_below HO2.out hb3))
    have HB3 := Aside0.mk (HB2.out.trans (hb3.mono HB2.out.size))
    clear ho3 hb3
    go_wp2_with fail
    refine (slices_Equal_int_int.calls k A2 c2 s A3 c3 d r _ HL2.out.2.2 HL2.out.2.1 HO3.out.2.2 HO3.out.2.1 H2.out).mono ?_
    rintro e w4 ⟨rfl, ⟨n4, rfl⟩⟩
    go_wp2
    go_ret
    exact ⟨rfl, pw_below_drewN HB3.out _⟩
  · rw [if_neg c] at h
    obtain rfl := Option.some.inj h
    have cb : decide ((l0.length : Int) ≤ 12) = false := decide_eq_false (by omega)
    have cb2 : decide (l0.length ≤ 12) = false := decide_eq_false c
    clear c
    go_enter Try.func83, Try.ntmps83
    go_wp2
    go_ret
    exact ⟨rfl, by repeat (first | exact Below.refl _ _ | apply pw_below_drewN | apply below_drew)⟩

/-! ### impl_arePermutations: function 91 -/
def impl_arePermutations.l0 : Nat → Int → List (List Int) → List (List Int) → Int → Int → Option (Bool)
  | 0, _, _, _, _, _ => none
  | k + 1, x0, x1, x7, x8, x9 => if x9 < x8 then (if 0 ≤ x9 then (if x9 < (x7.length : Int) then (if ((rd_L3 x7 x9).length : Int) = x0 then ((impl_IsPermutation.f k (rd_L3 x7 x9)).bind fun t204 => (if t204 = true then (impl_arePermutations.l0 k x0 x1 x7 x8 (wrap64 (x9 + 1))) else (some false))) else (some false)) else (none)) else (none)) else (some (decide ((x1.length : Int) ≤ 1100)))
def impl_arePermutations.f (k : Nat) (a0 : Int) (l1 : List (List Int)) : Option (Bool) := impl_arePermutations.l0 k a0 l1 l1 (l1.length : Int) 0
theorem impl_arePermutations.mono_l : ∀ k, (∀ y0 y1 y2 y3 y4, LeO (impl_arePermutations.l0 k y0 y1 y2 y3 y4) (impl_arePermutations.l0 (k + 1) y0 y1 y2 y3 y4))
  | 0 => fun _ _ _ _ _ r h => by simp [impl_arePermutations.l0] at h
  | k + 1 => by
    have ih0 := impl_arePermutations.mono_l k
    · intro y0 y1 y2 y3 y4
      unfold impl_arePermutations.l0
      repeat' first
      | (with_reducible exact ih0 _ _ _ _ _)
      | (with_reducible exact impl_IsPermutation.mono _ _)
      | (with_reducible exact LeO.refl _)
      | (with_reducible exact LeO.none _)
      | (with_reducible refine LeO.ite ?_ ?_)
      | (with_reducible refine LeO.bind ?_ (fun _ => ?_))
      | exact ih0 _ _ _ _ _
      | exact impl_IsPermutation.mono _ _
      | exact LeO.none _
      | refine LeO.ite ?_ ?_
      | refine LeO.bind ?_ (fun _ => ?_)
theorem impl_arePermutations.mono : ∀ a0 a1 k, LeO (impl_arePermutations.f k a0 a1) (impl_arePermutations.f (k + 1) a0 a1) := by
  intro a0 a1 k
  have ih0 := impl_arePermutations.mono_l k
  unfold impl_arePermutations.f
  repeat' first
      | (with_reducible exact ih0 _ _ _ _ _)
      | (with_reducible exact impl_IsPermutation.mono _ _)
      | (with_reducible exact LeO.refl _)
      | (with_reducible exact LeO.none _)
      | (with_reducible refine LeO.ite ?_ ?_)
      | (with_reducible refine LeO.bind ?_ (fun _ => ?_))
      | exact ih0 _ _ _ _ _
      | exact impl_IsPermutation.mono _ _
      | exact LeO.none _
      | refine LeO.ite ?_ ?_
      | refine LeO.bind ?_ (fun _ => ?_)
set_option maxHeartbeats 8000000 in
set_option maxRecDepth 100000 in
theorem impl_arePermutations.calls (k : Nat) (a0 : Int) (A1 : Option Addr) (c1 : Nat) (l1 : List (List Int)) (r : Bool) (w : World) (hr1 : Kd.C (Kd.slice 3 (Kd.int .i64)) w A1 l1.length l1) (hc1 : l1.length ≤ c1) (h : impl_arePermutations.f k a0 l1 = some r) :
    Calls Try.prog 91 #[.int .i64 a0, .slice A1 l1.length c1] w fun e w' => e = .returned (.bool r) ∧ Below w.heap.size w w' := by
  have HR1 := Aside0.mk hr1
  have HC1 := Aside0.mk hc1
  clear hr1 hc1
  have HB := Aside0.mk (Below.refl w.heap.size w)
  have H : (impl_arePermutations.l0 k a0 l1 l1 (l1.length : Int) 0) = some r := h
  clear h
  have H' := Aside0.mk H
  clear H
  go_enter Try.func91, Try.ntmps91
  go_wp2
  go_loopg [9] k (fun kq v9 w' => ∃ (x9_1 : Int), v9 = .int .i64 x9_1 ∧ Aside0 (impl_arePermutations.l0 kq a0 l1 l1 (l1.length : Int) x9_1 = some r) ∧ Aside0 (kq ≤ k) ∧ Aside0 (Below w.heap.size w w'))
  case atStart => exact ⟨(0), (by first | rfl | (simp; done) | (simp [*]; done)), H', ⟨Nat.le_refl _⟩, ⟨by repeat (first | (with_reducible first | exact HB.out | apply below_alloc | apply pw_below_drewN | apply below_drew1) | exact HB.out)⟩⟩
  case round =>
    clear H'
    try clear c1
    try clear p2
    obtain ⟨x9_1, rfl, HA, HK1, HB⟩ := hrel
    cases gk with
    | zero => exact absurd HA.out (by simp [impl_arePermutations.l0])
    | succ k1 =>
      have H := HA.out
      clear HA
      simp only [impl_arePermutations.l0] at H
      by_cases c3 : x9_1 < (l1.length : Int)
      · rw [if_pos c3] at H
        have c3b0 : decide (x9_1 < (l1.length : Int)) = true := decide_eq_true c3
        clear c3
        by_cases c4 : 0 ≤ x9_1
        · rw [if_pos c4] at H
          have c4b0 : decide (0 ≤ x9_1) = true := decide_eq_true c4
          clear c4
          by_cases c5 : x9_1 < (l1.length : Int)
          · rw [if_pos c5] at H
            have c5b0 : decide (x9_1 < (l1.length : Int)) = true := decide_eq_true c5
            clear c5
            by_cases c6 : ((rd_L3 l1 x9_1).length : Int) = a0
            · rw [if_pos c6] at H
              have c6b0 : (((rd_L3 l1 x9_1).length : Int) == a0) = true := beq_iff_eq.mpr c6
              have c6b1 : (((rd_L3 l1 x9_1).length : Int) != a0) = false := bne_eq_false_iff_eq.mpr c6
              clear c6
              replace H := Option.bind_eq_some_iff.mp H
              obtain ⟨t204, A70, H⟩ := H
              replace H : (if t204 = true then (impl_arePermutations.l0 k1 a0 l1 l1 (l1.length : Int) (wrap64 (x9_1 + 1))) else (some false)) = some r := H
              have A7 := Aside0.mk A70
              clear A70
              by_cases c8 : t204 = true
              · subst c8
                have H1 : (impl_arePermutations.l0 k1 a0 l1 l1 (l1.length : Int) (wrap64 (x9_1 + 1))) = some r := by rw [if_pos rfl] at H; exact H
                clear H
                have H := H1
                clear H1
                have H' := Aside0.mk H
                clear H
                have p203 : 0 ≤ (x9_1 : Int) := of_decide_eq_true (by first | (with_reducible assumption) | assumption)
                have q203 : x9_1 < (l1.length : Int) := of_decide_eq_true (by first | (with_reducible assumption) | assumption)
                obtain ⟨ad203, A203_0, c203_0, e203, hx203_0, hl203_0, hi203_0⟩ := at_L3 HR1.out x9_1 p203 q203
                cases e203
                try replace hx203_0 := (HB.out.cell (World.block_lt_of_cell? w _ hx203_0)).trans hx203_0
                have HR203_0 := Aside0.mk hi203_0
                have HC203_0 := Aside0.mk hl203_0
                clear hi203_0 hl203_0
                replace p203 := eq_true p203
                replace q203 := eq_true q203
                go_wp2_with (first | (go_at_call 83; (with_reducible refine (impl_IsPermutation.calls k1 _ _ (rd_L3 l1 x9_1) true _ ?side1 ?side2 A7.out).mono ?_); (case side1 => repeat (first | exact (Kd.C_below HR203_0.out HB.out) | (with_reducible refine Kd.C_alloc ?_ _) | (with_reducible refine Kd.C_drewN ?_ _) | (with_reducible refine Kd.C_drew ?_))); (case side2 => exact HC203_0.out); rintro e w9 ⟨rfl, hb⟩; have n0_ := Aside0.mk (below_step (by repeat (first | (with_reducible first | exact HB.out | apply below_alloc | apply pw_below_drewN | apply below_drew1) | exact HB.out)) hb); clear HB; have HB := n0_; clear n0_; (try clear hb); (try clear hb2); (try clear hk); (try clear hi)))
                go_roundg k1
                case measure => have := HK1.out; omega
                case rel => exact ⟨(wrap64 (x9_1 + 1)), (by first | rfl | (simp; done) | (simp [*]; done)), H', ⟨by have := HK1.out; omega⟩, ⟨by repeat (first | (with_reducible first | exact HB.out | apply below_alloc | apply pw_below_drewN | apply below_drew1) | exact HB.out)⟩⟩
              · replace c8 := Bool.eq_false_iff.mpr c8
                subst c8
                have H1 : (some false) = some r := by rw [if_neg (show ¬ (false = true) by decide)] at H; exact H
                clear H
                have H := H1
                clear H1
                obtain rfl := Option.some.inj H
                have p203 : 0 ≤ (x9_1 : Int) := of_decide_eq_true (by first | (with_reducible assumption) | assumption)
                have q203 : x9_1 < (l1.length : Int) := of_decide_eq_true (by first | (with_reducible assumption) | assumption)
                obtain ⟨ad203, A203_0, c203_0, e203, hx203_0, hl203_0, hi203_0⟩ := at_L3 HR1.out x9_1 p203 q203
                cases e203
                try replace hx203_0 := (HB.out.cell (World.block_lt_of_cell? w _ hx203_0)).trans hx203_0
                have HR203_0 := Aside0.mk hi203_0
                have HC203_0 := Aside0.mk hl203_0
                clear hi203_0 hl203_0
                replace p203 := eq_true p203
                replace q203 := eq_true q203
                go_wp2_with (first | (go_at_call 83; (with_reducible refine (impl_IsPermutation.calls k1 _ _ (rd_L3 l1 x9_1) false _ ?side1 ?side2 A7.out).mono ?_); (case side1 => repeat (first | exact (Kd.C_below HR203_0.out HB.out) | (with_reducible refine Kd.C_alloc ?_ _) | (with_reducible refine Kd.C_drewN ?_ _) | (with_reducible refine Kd.C_drew ?_))); (case side2 => exact HC203_0.out); rintro e w10 ⟨rfl, hb⟩; have n0_ := Aside0.mk (below_step (by repeat (first | (with_reducible first | exact HB.out | apply below_alloc | apply pw_below_drewN | apply below_drew1) | exact HB.out)) hb); clear HB; have HB := n0_; clear n0_; (try clear hb); (try clear hb2); (try clear hk); (try clear hi)))
                go_ret
                exact ⟨by first | rfl | (simp [errW_none, errW_some] <;> rfl) | (simp [*, errW_none, errW_some] <;> rfl), by repeat (first | (with_reducible first | exact HB.out | apply below_alloc | apply pw_below_drewN | apply below_drew1) | exact HB.out)⟩
            · rw [if_neg c6] at H
              have c6b0 : (((rd_L3 l1 x9_1).length : Int) == a0) = false := beq_eq_false_iff_ne.mpr c6
              have c6b1 : (((rd_L3 l1 x9_1).length : Int) != a0) = true := bne_iff_ne.mpr c6
              obtain rfl := Option.some.inj H
              have p203 : 0 ≤ (x9_1 : Int) := of_decide_eq_true (by first | (with_reducible assumption) | assumption)
              have q203 : x9_1 < (l1.length : Int) := of_decide_eq_true (by first | (with_reducible assumption) | assumption)
              obtain ⟨ad203, A203_0, c203_0, e203, hx203_0, hl203_0, hi203_0⟩ := at_L3 HR1.out x9_1 p203 q203
              cases e203
              try replace hx203_0 := (HB.out.cell (World.block_lt_of_cell? w _ hx203_0)).trans hx203_0
              have HR203_0 := Aside0.mk hi203_0
              have HC203_0 := Aside0.mk hl203_0
              clear hi203_0 hl203_0
              replace p203 := eq_true p203
              replace q203 := eq_true q203
              go_wp2
              go_ret
              exact ⟨by first | rfl | (simp [errW_none, errW_some] <;> rfl) | (simp [*, errW_none, errW_some] <;> rfl), by repeat (first | (with_reducible first | exact HB.out | apply below_alloc | apply pw_below_drewN | apply below_drew1) | exact HB.out)⟩
          · rw [if_neg c5] at H
            exact absurd H (by simp)
        · rw [if_neg c4] at H
          exact absurd H (by simp)
      · rw [if_neg c3] at H
        have c3b0 : decide (x9_1 < (l1.length : Int)) = false := decide_eq_false c3
        clear c3
        obtain rfl := Option.some.inj H
        go_wp2
        go_ret
        exact ⟨by first | rfl | (simp [errW_none, errW_some] <;> rfl) | (simp [*, errW_none, errW_some] <;> rfl), by repeat (first | (with_reducible first | exact HB.out | apply below_alloc | apply pw_below_drewN | apply below_drew1) | exact HB.out)⟩

-- NOT PRINTED: function 76 (impl_Move)

/-! ### impl_copied: function 98 -/
def impl_copied.f (l0 : List Int) : Option (List Int) := (some (([] : List Int) : List Int)).bind fun y205 => (if y205.length + l0.length < 17592186044416 then (some (y205 ++ l0)) else (none))
set_option maxHeartbeats 8000000 in
set_option maxRecDepth 100000 in
theorem impl_copied.calls (A0 : Option Addr) (c0 : Nat) (l0 : List Int) (r : List Int) (w : World) (hr0 : Kd.C (Kd.int .i64) w A0 l0.length l0) (hc0 : l0.length ≤ c0) (h : impl_copied.f l0 = some r) :
    Calls Try.prog 98 #[.slice A0 l0.length c0] w fun e w' => ∃ v0_ : Value, e = .returned (v0_) ∧ Kd.R (Kd.int .i64) 3 w' w.heap.size (fun _ => True) v0_ r ∧ Below w.heap.size w w' := by
  have HR0 := Aside0.mk hr0
  have HC0 := Aside0.mk hc0
  clear hr0 hc0
  have HB := Aside0.mk (Below.refl w.heap.size w)
  have H : ((some (([] : List Int) : List Int)).bind fun y205 => (if y205.length + l0.length < 17592186044416 then (some (y205 ++ l0)) else (none))) = some r := h
  clear h
  obtain ⟨y205, hy205⟩ : ∃ y_ : List Int, y_ = (([] : List Int)) := ⟨_, rfl⟩
  replace H : (if y205.length + l0.length < 17592186044416 then (some (y205 ++ l0)) else (none)) = some r := by first | (rw [hy205]; with_reducible exact H) | (have H2_ := (Option.bind_some _ _).symm.trans H; rw [hy205]; with_reducible exact H2_) | (have H2_ := (Option.bind_some _ _).symm.trans H; with_reducible exact H2_) | with_reducible exact H | (rw [hy205]; exact H) | exact H
  have Ny205 := Aside0.mk hy205
  clear hy205
  by_cases c2 : y205.length + l0.length < 17592186044416
  · rw [if_pos c2] at H
    have LMc2 := Aside0.mk c2
    clear c2
    obtain ⟨y208, hy208⟩ : ∃ y_ : List Int, y_ = (y205 ++ l0) := ⟨_, rfl⟩
    replace H : (some y208) = some r := by first | (rw [hy208]; with_reducible exact H) | (have H2_ := (Option.bind_some _ _).symm.trans H; rw [hy208]; with_reducible exact H2_) | (have H2_ := (Option.bind_some _ _).symm.trans H; with_reducible exact H2_) | with_reducible exact H | (rw [hy208]; exact H) | exact H
    have Ny208 := Aside0.mk hy208
    clear hy208
    obtain rfl := Option.some.inj H
    go_enter Try.func98, Try.ntmps98
    go_wp2_with (first | ((with_reducible refine gate_dst (N := 3) rfl ?_); refine Kd.R_lit (Kd.int .i64) _ 3 ?hg (N := 3) ?hd (xs := ([] : List Int)) (inner := []) (ok := fun _ => True) (okp := fun _ => True) ?hr ?hp (fun _ hk => hk) trivial (Below.refl _ _) (Nat.le_refl _) (by simp) ?_; (case hd => rfl); (case hg => rfl); (case hr => first | (go_simp; done) | (go_simp; rfl)); (case hp => exact (Reps.none _ _)); intro v206 w3 ho4 hb hg_ hnew_; clear hg_ hnew_; (first | rw [← Ny205.out] at ho4 | (simp only [Int.reduceToNat] at ho4; rw [← Ny205.out] at ho4)); have n0_ := Aside0.mk (Kd.R_lower ho4 (below_size (by repeat (first | (with_reducible first | exact HB.out | apply below_alloc | apply pw_below_drewN | apply below_drew1) | exact HB.out)))); have n1_ := Aside0.mk (below_step (by repeat (first | (with_reducible first | exact HB.out | apply below_alloc | apply pw_below_drewN | apply below_drew1) | exact HB.out)) hb); clear HB; have HO207 := n0_; have HB := n1_; clear n0_ n1_; clear hb ho4) | ((with_reducible refine gate_builtin (b := .append) (xs := #[.tmp 3, .tmp 4]) rfl ?_); at_builtin; refine Kd.R_append_rows (Kd.int .i64) (w0 := w) w.heap.size rfl (.tmp 3) (.tmp 4) 22 3 (.int .i64 0) 8 rfl Try.underlying22 info3 rfl (by decide) (by omega) v206 y205 l0 _ _ _ (fun _ => True) (fun _ => False) rfl rfl ?aO ?aR (fun _ _ h => h) (fun _ h => h.elim) ?aF ?aB ?aS ?aL ?_; (case aR => repeat (first | exact (Kd.C_below HR0.out HB.out) | (with_reducible refine Kd.C_alloc ?_ _) | (with_reducible refine Kd.C_drewN ?_ _) | (with_reducible refine Kd.C_drew ?_))); (case aB => exact (by repeat (first | (with_reducible first | exact HB.out | apply below_alloc | apply pw_below_drewN | apply below_drew1) | exact HB.out))); (case aF => exact (fun _ _ => trivial)); (case aO => exact (by (with_reducible repeat (first | apply Kd.R_alloc | apply Kd.R_drewN | apply Kd.R_drew)); exact HO207.out)); (case aS => exact (below_size (by repeat (first | (with_reducible first | exact HB.out | apply below_alloc | apply pw_below_drewN | apply below_drew1) | exact HB.out)))); (case aL => have := LMc2.out; omega); intro v209 w5 ho hb hg hat; rw [← Ny208.out] at ho; have n0_ := Aside0.mk (hb); have n1_ := Aside0.mk (ho); clear HB; clear HO207; have HB := n0_; have HO210 := n1_; clear n0_ n1_; clear ho hb hg hat))
    go_ret
    exact ⟨_, by first | rfl | (simp [errW_none, errW_some] <;> rfl) | (simp [*, errW_none, errW_some] <;> rfl), by (with_reducible repeat (first | apply Kd.R_alloc | apply Kd.R_drewN | apply Kd.R_drew)); exact HO210.out, by repeat (first | (with_reducible first | exact HB.out | apply below_alloc | apply pw_below_drewN | apply below_drew1) | exact HB.out)⟩
  · rw [if_neg c2] at H
    exact absurd H (by simp)

/-! ### impl_moved: function 66 -/
/-- A beginning turned over, from the ends inward. -/
def impl_moved.r0 : Nat → List Int → Int → Int → Option (List Int)
  | 0, _, _, _ => none
  | k + 1, x0, x2, x3 => if x2 < x3 then (impl_moved.r0 k ((x0.set x2.toNat (rd x0 x3)).set x3.toNat (rd x0 x2)) (x2 + 1) (x3 - 1)) else (some x0)
def impl_moved.f (k : Nat) (l0 : List Int) (a1_0 : Int) (a1_1 : Int) (a1_2 : Int) : Option (List Int) :=
  (impl_copied.f l0).bind fun t => (if l0.length ≤ 1000000 then (if a1_0 = 0 then (if 0 ≤ a1_1 then (if a1_1 < (l0.length : Int) then (if 0 ≤ a1_2 then (if a1_2 < (l0.length : Int) then (some ((l0.set a1_1.toNat (rd l0 a1_2)).set a1_2.toNat (rd l0 a1_1))) else (none)) else (none)) else (none)) else (none))
    else (if a1_0 = 1 then (if 1 ≤ a1_1 then (if a1_1 ≤ (l0.length : Int) then (impl_moved.r0 k l0 0 (a1_1 - 1)) else (none)) else (none))
    else (if a1_0 = 2 then (if 1 ≤ a1_1 then (if a1_1 ≤ (l0.length : Int) then (some (((l0.take a1_1.toNat).drop 1 ++ l0.drop (a1_1 - 1).toNat).set (a1_1 - 1).toNat (rd l0 0))) else (none)) else (none))
    else (none)))) else (none))
theorem impl_moved.mono_l : ∀ k, (∀ y0 y1 y2, LeO (impl_moved.r0 k y0 y1 y2) (impl_moved.r0 (k + 1) y0 y1 y2))
  | 0 => fun _ _ _ r h => by simp [impl_moved.r0] at h
  | k + 1 => by
    have ih0 := impl_moved.mono_l k
    · intro y0 y1 y2
      unfold impl_moved.r0
      repeat' first
      | (with_reducible exact ih0 _ _ _)
      | (with_reducible exact LeO.refl _)
      | (with_reducible exact LeO.none _)
      | (with_reducible refine LeO.ite ?_ ?_)
      | (with_reducible refine LeO.bind ?_ (fun _ => ?_))
      | exact ih0 _ _ _
      | exact LeO.none _
      | refine LeO.ite ?_ ?_
      | refine LeO.bind ?_ (fun _ => ?_)
theorem impl_moved.mono : ∀ a0 a1 a2 a3 k, LeO (impl_moved.f k a0 a1 a2 a3) (impl_moved.f (k + 1) a0 a1 a2 a3) := by
  intro a0 a1 a2 a3 k
  have ih0 := impl_moved.mono_l k
  unfold impl_moved.f
  repeat' first
      | (with_reducible exact ih0 _ _ _)
      | (with_reducible exact LeO.refl _)
      | (with_reducible exact LeO.none _)
      | (with_reducible refine LeO.ite ?_ ?_)
      | (with_reducible refine LeO.bind ?_ (fun _ => ?_))
      | exact ih0 _ _ _
      | exact LeO.none _
      | refine LeO.ite ?_ ?_
      | refine LeO.bind ?_ (fun _ => ?_)
theorem impl_copied_is {l0 t : List Int} (h : impl_copied.f l0 = some t) : t = l0 := by
  unfold impl_copied.f at h
  simp only [Option.bind_some, List.nil_append] at h
  split at h
  · exact (Option.some.inj h).symm
  · cases h
set_option maxHeartbeats 8000000 in
set_option maxRecDepth 100000 in
theorem slices_Reverse_begin (k : Nat) (L r : List Int) (i : Int) (go co base : Nat) (ok : Nat → Prop) (w0 w : World) (hB : Below w0.heap.size w0 w) (hg : w0.heap.size ≤ go)
    (ho : Kd.R (Kd.int .i64) 3 w base ok (.slice (some ⟨go, 0, none⟩) L.length co) L) (h0 : 0 ≤ i) (hm : i ≤ L.length) (hl : L.length ≤ 1000000) (h : impl_moved.r0 k L 0 (i - 1) = some r) :
    Calls Try.prog 99 #[.slice (some ⟨go, 0, none⟩) i.toNat co] w fun e w' => e = .returned (.tuple #[]) ∧ Kd.R (Kd.int .i64) 3 w' base ok (.slice (some ⟨go, 0, none⟩) L.length co) r ∧ Below w0.heap.size w0 w' := by
  obtain ⟨m, rfl⟩ := Int.eq_ofNat_of_zero_le h0
  rw [Int.toNat_natCast]
  have HB := Aside0.mk hB
  have HO := Aside0.mk ho
  have H' := Aside0.mk h
  clear hB ho h
  go_enter Try.func99, Try.ntmps99
  go_wp2
  go_loopg [2, 3] k (fun kq v2 v3 w' => ∃ (x0_1 : List Int) (x2_1 : Int) (x3_1 : Int), v2 = .int .i64 x2_1 ∧ v3 = .int .i64 x3_1 ∧ 0 ≤ x2_1 ∧ x2_1 ≤ m ∧ x3_1 < (m : Int) ∧ -1 ≤ x2_1 + x3_1 ∧ Aside0 (x0_1.length = L.length) ∧ Aside0 (impl_moved.r0 kq x0_1 x2_1 x3_1 = some r) ∧ Aside0 (kq ≤ k) ∧ Aside0 (Kd.R (Kd.int .i64) 3 w' base ok (.slice (some ⟨go, 0, none⟩) L.length co) x0_1) ∧ Aside0 (Below w0.heap.size w0 w'))
  case atStart => exact ⟨L, 0, (m : Int) - 1, rfl, rfl, by omega, by omega, by omega, by omega, ⟨rfl⟩, H', ⟨Nat.le_refl _⟩, HO, HB⟩
  case round =>
    clear H' HO HB
    obtain ⟨x0_1, x2_1, x3_1, rfl, rfl, g0, g1, g2, g3, HLen, HA, HK1, HO, HB⟩ := hrel
    cases gk with
    | zero => exact absurd HA.out (by simp [impl_moved.r0])
    | succ k1 =>
      have H := HA.out
      clear HA
      simp only [impl_moved.r0] at H
      by_cases c : x2_1 < x3_1
      · rw [if_pos c] at H
        have H' := Aside0.mk H
        clear H
        have cb : decide (x2_1 < x3_1) = true := decide_eq_true c
        have q2 : x2_1 < (L.length : Int) := by omega
        have q3 : x3_1 < (L.length : Int) := by omega
        have p3 : 0 ≤ x3_1 := by omega
        have q2m : x2_1 < (m : Int) := by omega
        obtain ⟨hx2, hf2⟩ := Kd.R_celln 0 HO.out x2_1 g0 q2
        obtain ⟨hx3, hf3⟩ := Kd.R_celln 0 HO.out x3_1 p3 q3
        obtain ⟨vj, hyj⟩ := cell?_setCell_some (w := wr) (p := ⟨go, x2_1.toNat, none⟩) (x := .int .i64 (rdOf 0 x0_1 x3_1)) (q := ⟨go, x3_1.toNat, none⟩) hx3
        have HP := Aside0.mk (Kd.R_putg HO.out x2_1 (rdOf 0 x0_1 x3_1)).1
        have HQ := Aside0.mk (Kd.R_putg HP.out x3_1 (rdOf 0 x0_1 x2_1)).1
        clear q2 q3
        go_wp2_with fail
        go_region
        go_wp2
        go_roundg k1
        case measure => have := HK1.out; omega
        case rel => exact ⟨_, x2_1 + 1, x3_1 - 1, rfl, rfl, by omega, by omega, by omega, by omega, ⟨by rw [List.length_set, List.length_set]; exact HLen.out⟩, H', ⟨by have := HK1.out; omega⟩, ⟨Kd.R_drew HQ.out⟩, ⟨below_drew1 (below_set (below_set HB.out hg) hg)⟩⟩
      · rw [if_neg c] at H
        obtain rfl := Option.some.inj H
        have cb : decide (x2_1 < x3_1) = false := decide_eq_false c
        go_wp2
        go_end0
        exact ⟨rfl, HO.out, HB.out⟩
set_option maxHeartbeats 8000000 in
set_option maxRecDepth 100000 in
theorem impl_moved.calls (k : Nat) (A0 : Option Addr) (c0 : Nat) (l0 : List Int) (a1_0 : Int) (a1_1 : Int) (a1_2 : Int) (r : List Int) (w : World) (hr0 : Kd.C (Kd.int .i64) w A0 l0.length l0) (hc0 : l0.length ≤ c0) (h : impl_moved.f k l0 a1_0 a1_1 a1_2 = some r) :
    Calls Try.prog 66 #[.slice A0 l0.length c0, .agg #[.int .i64 a1_0, .int .i64 a1_1, .int .i64 a1_2]] w fun e w' => ∃ v0_ : Value, e = .returned (v0_) ∧ Kd.R (Kd.int .i64) 3 w' w.heap.size (fun _ => True) v0_ r ∧ Below w.heap.size w w' := by
  have hu26 := Try.underlying55
  have HR0 := Aside0.mk hr0
  have HC0 := Aside0.mk hc0
  clear hr0 hc0
  have HB := Aside0.mk (Below.refl w.heap.size w)
  unfold impl_moved.f at h
  obtain ⟨t, A1, H⟩ := Option.bind_eq_some_iff.mp h
  clear h
  obtain rfl := impl_copied_is A1
  have Hc := Aside0.mk A1
  clear A1
  by_cases hl : t.length ≤ 1000000
  rotate_left
  · rw [if_neg hl] at H; cases H
  rw [if_pos hl] at H
  by_cases e0 : a1_0 = 0
  · subst e0
    rw [if_pos rfl] at H
    by_cases hi0 : 0 ≤ a1_1
    rotate_left
    · rw [if_neg hi0] at H; cases H
    rw [if_pos hi0] at H
    by_cases hi : a1_1 < (t.length : Int)
    rotate_left
    · rw [if_neg hi] at H; cases H
    rw [if_pos hi] at H
    by_cases hj0 : 0 ≤ a1_2
    rotate_left
    · rw [if_neg hj0] at H; cases H
    rw [if_pos hj0] at H
    by_cases hj : a1_2 < (t.length : Int)
    rotate_left
    · rw [if_neg hj] at H; cases H
    rw [if_pos hj] at H
    obtain rfl := Option.some.inj H
    clear H
    go_enter Try.func66, Try.ntmps66
    go_wp2_with (first | ((with_reducible refine gate_dst (N := 3) rfl ?_); refine box_event ?hg (N := 3) ?hd (cs := #[.int .i64 0, .int .i64 a1_1, .int .i64 a1_2]) (t := 55) ?hr ?_; (case hd => rfl); (case hg => rfl); (case hr => first | (go_simp; done) | (go_simp; rfl)); intro gb hgb w1 hbox hb; have HB1 := Aside0.mk hb; have BK1 := Aside0.mk hbox; have HG := Aside0.mk hgb; clear HB hb hbox hgb))
    refine (impl_copied.calls A0 c0 t t _ (Kd.C_below HR0.out HB1.out) HC0.out Hc.out).mono ?_
    rintro e w2 ⟨v, rfl, ho, hb2⟩
    have BK2 := Aside0.mk (blk_below BK1.out hb2)
    have HB2 := Aside0.mk (HB1.out.trans (hb2.mono HB1.out.size))
    have HO := Aside0.mk ho
    obtain ⟨go, co, ev, gb9, gl9, cl9, HG9⟩ := Kd.R_form HO.out (by omega)
    subst ev
    have hx0 : w2.cell? ⟨gb, 0, none⟩ = some (.int .i64 0) := (blk_cell BK2.out 0).trans rfl
    have hx1 : w2.cell? ⟨gb, 1, none⟩ = some (.int .i64 a1_1) := (blk_cell BK2.out 1).trans rfl
    have hx2 : w2.cell? ⟨gb, 2, none⟩ = some (.int .i64 a1_2) := (blk_cell BK2.out 2).trans rfl
    obtain ⟨hxi, hfi⟩ := Kd.R_celln 0 HO.out a1_1 hi0 hi
    obtain ⟨hxj, hfj⟩ := Kd.R_celln 0 HO.out a1_2 hj0 hj
    have hne : gb ≠ go := by have := HG.out; have := blk_lt BK1.out; omega
    have hgo : w.heap.size ≤ go := Nat.le_trans HB1.out.size gb9
    have hlt : decide (a1_1 < (t.length : Int)) = true := decide_eq_true hi
    have hltj : decide (a1_2 < (t.length : Int)) = true := decide_eq_true hj
    obtain ⟨vj, hyj⟩ := cell?_setCell_some (w := w2) (p := ⟨go, a1_1.toNat, none⟩) (x := .int .i64 (rdOf 0 t a1_2)) (q := ⟨go, a1_2.toNat, none⟩) hxj
    have HP := Aside0.mk (Kd.R_putg HO.out a1_1 (rdOf 0 t a1_2)).1
    have HQ := Aside0.mk (Kd.R_lower (Kd.R_putg HP.out a1_2 (rdOf 0 t a1_1)).1 HB1.out.size)
    clear ho hb2 HG9 HR0 HC0 Hc BK1 BK2 HB1 HO HP
    go_wp2_with fail
    go_region
    go_wp2
    go_ret
    exact ⟨_, rfl, Kd.R_drew HQ.out, below_drew1 (below_set (below_set HB2.out hgo) hgo)⟩
  · rw [if_neg e0] at H
    have e0b : (a1_0 == 0) = false := beq_eq_false_iff_ne.mpr e0
    by_cases e1 : a1_0 = 1
    · subst e1
      clear e0 e0b
      rw [if_pos rfl] at H
      by_cases hi0 : 1 ≤ a1_1
      rotate_left
      · rw [if_neg hi0] at H; cases H
      rw [if_pos hi0] at H
      by_cases hi : a1_1 ≤ (t.length : Int)
      rotate_left
      · rw [if_neg hi] at H; cases H
      rw [if_pos hi] at H
      have H' := Aside0.mk H
      clear H
      go_enter Try.func66, Try.ntmps66
      go_wp2_with (first | ((with_reducible refine gate_dst (N := 3) rfl ?_); refine box_event ?hg (N := 3) ?hd (cs := #[.int .i64 1, .int .i64 a1_1, .int .i64 a1_2]) (t := 55) ?hr ?_; (case hd => rfl); (case hg => rfl); (case hr => first | (go_simp; done) | (go_simp; rfl)); intro gb hgb w1 hbox hb; have HB1 := Aside0.mk hb; have BK1 := Aside0.mk hbox; have HG := Aside0.mk hgb; clear HB hb hbox hgb))
      refine (impl_copied.calls A0 c0 t t _ (Kd.C_below HR0.out HB1.out) HC0.out Hc.out).mono ?_
      rintro e w2 ⟨v, rfl, ho, hb2⟩
      have BK2 := Aside0.mk (blk_below BK1.out hb2)
      have HB2 := Aside0.mk (HB1.out.trans (hb2.mono HB1.out.size))
      have HO := Aside0.mk ho
      have hx0 : w2.cell? ⟨gb, 0, none⟩ = some (.int .i64 1) := (blk_cell BK2.out 0).trans rfl
      have hx1 : w2.cell? ⟨gb, 1, none⟩ = some (.int .i64 a1_1) := (blk_cell BK2.out 1).trans rfl
      obtain ⟨go, co, ev, gb9, gl9, cl9, HG9⟩ := Kd.R_form HO.out (by omega)
      subst ev
      have hgo : w.heap.size ≤ go := Nat.le_trans HB1.out.size gb9
      have Hco := (Kd.R_reads' HO.out).2.1
      obtain ⟨inf0, hinf, hz1, hsz1, hb1⟩ := info_parts info3
      have hcut := cut_to (P := Try.prog) 22 3 .i64 Try.underlying22 hinf (some ⟨go, 0, none⟩) t.length co a1_1 (by omega) hi Hco
      have Hgo := Aside0.mk hgo
      clear ho hb2 HG9 HR0 HC0 Hc BK1 BK2 hinf hz1 hsz1 hb1 gb9 gl9 hgo Hco
      go_wp2_with fail
      refine (slices_Reverse_begin k t r a1_1 go co w1.heap.size (fun _ => True) w w2 HB2.out Hgo.out HO.out (by omega) hi hl H'.out).mono ?_
      rintro e w3 ⟨rfl, ho3, hb3⟩
      have HO3 := Aside0.mk (Kd.R_lower ho3 HB1.out.size)
      have HB3 := Aside0.mk hb3
      clear ho3 hb3
      go_wp2
      go_ret
      exact ⟨_, rfl, HO3.out, HB3.out⟩
    · rw [if_neg e1] at H
      have e1b : (a1_0 == 1) = false := beq_eq_false_iff_ne.mpr e1
      by_cases e2 : a1_0 = 2
      rotate_left
      · rw [if_neg e2] at H; cases H
      subst e2
      clear e0 e0b e1 e1b
      rw [if_pos rfl] at H
      by_cases hi0 : 1 ≤ a1_1
      rotate_left
      · rw [if_neg hi0] at H; cases H
      rw [if_pos hi0] at H
      by_cases hi : a1_1 ≤ (t.length : Int)
      rotate_left
      · rw [if_neg hi] at H; cases H
      rw [if_pos hi] at H
      obtain rfl := Option.some.inj H
      clear H
      obtain ⟨inf0, hinf, hz1, hsz1, hb1⟩ := info_parts info3
      obtain ⟨A1, hA1⟩ : ∃ A1, A1 = (if c0 = (1 : Int).toNat then A0 else A0.map (·.add ((1 : Int).toNat * 1))) := ⟨_, rfl⟩
      have hcut := cut_mid (P := Try.prog) 22 3 .i64 .i64 Try.underlying22 hinf 1 hsz1 A0 t.length c0 1 a1_1 (by omega) hi0 hi HC0.out
      rw [← hA1] at hcut
      have HR1 := Aside0.mk (Kd.C_mid (lo := 1) (hi := a1_1.toNat) HR0.out (by omega) (by omega) HC0.out)
      rw [show (if c0 = 1 then A0 else A0.map (·.add (1 * (Kd.int .i64).sz))) = A1 from hA1.symm, show ((t.take a1_1.toNat).drop 1).length = a1_1.toNat - 1 from by rw [List.length_drop, List.length_take]; omega] at HR1
      clear hA1
      obtain ⟨ad0, ed0, hxl⟩ := Kd.at_int HR0.out 0 (by omega) (by omega)
      cases ed0
      have hszI : (Try.prog.info? 3).map (·.size) = some 1 := by rw [hinf]; exact congrArg some hsz1
      clear hinf hz1 hsz1 hb1
      have HSZ := Aside0.mk hszI
      have HXL := Aside0.mk hxl
      clear hszI hxl
      go_enter Try.func66, Try.ntmps66
      go_wp2_with (first | ((with_reducible refine gate_dst (N := 3) rfl ?_); refine box_event ?hg (N := 3) ?hd (cs := #[.int .i64 2, .int .i64 a1_1, .int .i64 a1_2]) (t := 55) ?hr ?_; (case hd => rfl); (case hg => rfl); (case hr => first | (go_simp; done) | (go_simp; rfl)); intro gb hgb w1 hbox hb; have HB1 := Aside0.mk hb; have BK1 := Aside0.mk hbox; have HG := Aside0.mk hgb; clear HB hb hbox hgb))
      refine (impl_copied.calls (some ad0) c0 t t _ (Kd.C_below HR0.out HB1.out) HC0.out Hc.out).mono ?_
      rintro e w2 ⟨v, rfl, ho, hb2⟩
      have BK2 := Aside0.mk (blk_below BK1.out hb2)
      have HB2 := Aside0.mk (HB1.out.trans (hb2.mono HB1.out.size))
      obtain ⟨go, co, ev, gb9, gl9, cl9, HG9⟩ := Kd.R_form ho (by omega)
      subst ev
      have HO := Aside0.mk (Kd.R_lower ho HB1.out.size)
      have hx0 : w2.cell? ⟨gb, 0, none⟩ = some (.int .i64 2) := (blk_cell BK2.out 0).trans rfl
      have hx1 : w2.cell? ⟨gb, 1, none⟩ = some (.int .i64 a1_1) := (blk_cell BK2.out 1).trans rfl
      have hne : gb ≠ go := by have := HG.out; have := blk_lt BK1.out; omega
      have Hgo := Aside0.mk (Nat.le_trans HB1.out.size gb9)
      clear ho hb2 HG9 HC0 Hc BK1 BK2 gb9 gl9
      go_wp2_with (first | ((with_reducible refine gate_builtin (b := .copy) (xs := #[.tmp 39, .tmp 43]) rfl ?_); refine Kd.R_copy (enc := Value.int .i64) (d := 0) (w0 := w) w.heap.size rfl (.tmp 39) (.tmp 43) 22 22 3 rfl Try.underlying22 HSZ.out (.slice (some ⟨go, 0, none⟩) t.length co) t ((t.take a1_1.toNat).drop 1) A1 (a1_1.toNat - 1) (c0 - 1) (fun _ => True) rfl rfl HO.out (Kd.C_below HR1.out HB2.out) HB2.out HB2.out.size ?_; intro w3 ho3 hb3 hg3; rw [show min (a1_1.toNat - 1) t.length = a1_1.toNat - 1 from by omega, List.take_of_length_le (show ((t.take a1_1.toNat).drop 1).length ≤ a1_1.toNat - 1 by rw [List.length_drop, List.length_take]; omega), show a1_1.toNat - 1 = (a1_1 - 1).toNat from by omega] at ho3; have HO3 := Aside0.mk ho3; have HB3 := Aside0.mk hb3; have hx13 := cell_grown hg3 hx1 (fun e_ => hne (Option.some.inj e_)); clear HO HR1 HB2 hcut hx0 hx1 ho3 hb3 hg3))
      have hxl3 := (HB3.out.cell (World.block_lt_of_cell? w _ HXL.out)).trans HXL.out
      rw [show ad0.add (Int.toNat 0) = ad0 from by simp [Addr.add]] at hxl3
      have htl : 0 < t.length := by omega
      have hlen : ((t.take a1_1.toNat).drop 1 ++ t.drop (a1_1 - 1).toNat).length = t.length := by rw [List.length_append, List.length_drop, List.length_drop, List.length_take]; omega
      obtain ⟨hxi, hfi⟩ := Kd.R_celln 0 HO3.out (a1_1 - 1) (by omega) (by omega)
      have HQ := Aside0.mk (Kd.R_putg HO3.out (a1_1 - 1) (rd t 0)).1
      clear HXL HSZ HB1 hlen
      have hwr : IntKind.i64.wrap (a1_1 - 1) = a1_1 - 1 := IntWalk.i64_in _ (by omega)
      have hp1 : 0 ≤ a1_1 - 1 := by omega
      have hq1 : a1_1 - 1 < (t.length : Int) := by omega
      have HE := Aside0.mk (show (a1_1 - 1).toNat = a1_1.toNat - 1 from by omega)
      rw [HE.out] at hxi hfi
      go_wp2_with fail
      go_region
      all_goals
        clear hwr
        go_wp2
        go_ret
        exact ⟨_, rfl, by rw [← HE.out]; exact Kd.R_drew HQ.out, below_drew1 (below_set HB3.out Hgo.out)⟩

end Go.Proofs.Ytcplfdfmebibpaa.MFnExactMovesOf
