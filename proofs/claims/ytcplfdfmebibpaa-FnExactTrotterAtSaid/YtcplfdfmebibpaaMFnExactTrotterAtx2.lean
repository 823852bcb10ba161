/- Functions of the program as Lean functions, each with the proof that its call comes to just that: laid for this claim by this session's own program. -/
import Derived.Test.YtcplfdfmebibpaaMFnExactTrotterAtx0
import Derived.Test.YtcplfdfmebibpaaMFnExactTrotterAtx1
namespace Go.Proofs.Ytcplfdfmebibpaa.MFnExactTrotterAt
open Go.RowKit Go.Proofs.YtcplfdfmebibpaaW.PrintWords Go.Proofs.YtcplfdfmebibpaaW.PrintLast Go.Proofs.YtcplfdfmebibpaaW.PrintMore
attribute [local go_sem] max2_int min2_int max_two min_two max_three min_three max_four min_four   -- for this text's walks alone
set_option linter.unusedVariables false
set_option linter.unusedSimpArgs false

/-! ### slices_Insert_int_int: function 95 -/
/-- slices.Insert at whole numbers, one value, into a row of the call's own. -/
def slices_Insert_int_int.f (l : List Int) (i x : Int) : Option (List Int) := if 0 ≤ i then (if i ≤ (l.length : Int) then (if l.length < 4398046511104 then some (l.insertIdx i.toNat x) else none) else none) else none
open Go.Shelf in
def Try.laysIns_ren : Go.Shelf.Ren := ⟨fun | 21 => 95 | 27 => 113 | 28 => 114 | 35 => 120 | 39 => 99 | n => n, fun | 22 => 22 | 3 => 3 | 4 => 4 | 0 => 0 | n => n, fun | n => n⟩
open Go.Shelf in
theorem Try.laysIns : Go.Proofs.Lays2.n21 Try.prog Try.laysIns_ren := {
  mixed := by kernel_rfl
  f21 := Try.func95.trans (congrArg some (by kernel_rfl))
  f27 := Try.func113.trans (congrArg some (by kernel_rfl))
  f28 := Try.func114.trans (congrArg some (by kernel_rfl))
  f35 := Try.func120.trans (congrArg some (by kernel_rfl))
  f39 := Try.func99.trans (congrArg some (by kernel_rfl))
  t0 := Try.underlying0
  a0 := Try.isAgg0
  z0 := Try.sizeOf0
  v0 := Try.zeroValue0
  t3 := Try.underlying3
  a3 := Try.isAgg3
  z3 := Try.sizeOf3
  v3 := Try.zeroValue3
  t4 := Try.underlying4
  a4 := Try.isAgg4
  z4 := Try.sizeOf4
  v4 := Try.zeroValue4
  t22 := Try.underlying22
  a22 := Try.isAgg22
  z22 := Try.sizeOf22
  v22 := Try.zeroValue22
  i3 := by kernel_rfl }
theorem slices_Insert_int_int.own_of {w : World} {base g e n cap : Nat} {f : Nat → Value} {xs : List Value} (h : w.rowIs g e cap f) (hb : base ≤ g) (hn : n ≤ cap) (hm : cap ≤ maxLen) (hx : xs.length = n)
    (hf : ∀ j, j < n → xs[j]? = some (f j)) : w.ownsRow base e 1 (.slice (some ⟨g, 0, none⟩) n cap) n xs := by
  obtain ⟨c, hc, hs, hi⟩ := h
  refine ⟨by simpa using hx, .inr ⟨g, cap, c, rfl, hb, hc, hn, hm, by simpa using hs, ?_⟩⟩
  apply List.ext_getElem?
  intro j
  rw [List.getElem?_take, Array.getElem?_toList]
  by_cases hj : j < n
  · rw [if_pos (by omega), hi j (by omega), hf j hj]
  · rw [if_neg (by omega), List.getElem?_eq_none (by omega)]
theorem slices_Insert_int_int.of_own {w : World} {base g e n cap : Nat} {xs : List Value} (h : w.ownsRow base e 1 (.slice (some ⟨g, 0, none⟩) n cap) n xs) :
    base ≤ g ∧ g < w.heap.size ∧ n ≤ cap ∧ cap ≤ maxLen ∧ ∃ c : Array Value, w.heap[g]? = some (.cells c e (0, 0)) ∧ c.size = cap ∧ ∀ j, j < n → xs[j]? = c[j]? := by
  rcases h.2 with ⟨e0, _⟩ | ⟨g', cap', cur, e0, hb, hg, hn, hm, hs, ht⟩
  · cases e0
  · injection e0 with e1 _ e3
    injection e1 with e1
    injection e1 with e1
    subst e1; subst e3
    refine ⟨hb, own_lt h g rfl, hn, hm, cur, hg, by simpa using hs, fun j hj => ?_⟩
    rw [← ht, List.getElem?_take, if_pos (by omega), Array.getElem?_toList]
theorem slices_Insert_int_int.row {w : World} {g e : Nat} {c : Array Value} (h : w.heap[g]? = some (.cells c e (0, 0))) : w.rowIs g e c.size (fun j => c[j]?.getD default) :=
  ⟨c, h, rfl, fun i hi => by simp [hi]⟩
theorem slices_Insert_int_int.alloc_row (w : World) (c : Array Value) (cap : Nat) (hs : c.size = cap) : (w.alloc (.cells c 3)).rowIs w.heap.size 3 cap (fun j => c[j]?.getD default) := by
  subst hs
  exact World.rowIs_alloc w c 3 _ (fun i hi => by simp [hi])
theorem slices_Insert_int_int.ins (l : List Int) (i : Nat) (x : Int) (hi : i ≤ l.length) (j : Nat) (hj : j < l.length + 1) :
    (encs (Value.int .i64) (l.insertIdx i x))[j]? = some (if j < i then (Value.int .i64 (l.getD j 0)) else if j = i then (Value.int .i64 x) else (Value.int .i64 (l.getD (j - 1) 0))) := by
  simp only [encs, List.getElem?_map, List.getElem?_insertIdx]
  by_cases h1 : j < i
  · simp only [if_pos h1, List.getD_eq_getElem?_getD, List.getElem?_eq_getElem (show j < l.length by omega), Option.map_some, Option.getD_some]
  · by_cases h2 : j = i
    · simp [h2, hi]
    · simp only [if_neg h1, if_neg h2, List.getD_eq_getElem?_getD, List.getElem?_eq_getElem (show j - 1 < l.length by omega), Option.map_some, Option.getD_some]
set_option maxHeartbeats 8000000 in
set_option maxRecDepth 100000 in
theorem slices_Insert_int_int.calls (l l2 : List Int) (i x : Int) (A : Option Addr) (c vb vc base b2 : Nat) (ok ok2 : Nat → Prop) (w : World) (hR : Kd.R (Kd.int .i64) 3 w base ok (.slice A l.length c) l)
    (hX : Kd.R (Kd.int .i64) 3 w b2 ok2 (.slice (some ⟨vb, 0, none⟩) 1 vc) [x]) (hne : ∀ a, A = some a → vb ≠ a.block) (h : slices_Insert_int_int.f l i x = some l2) (hbase : base ≤ w.heap.size) :
    Calls Try.prog 95 #[.slice A l.length c, .int .i64 i, .slice (some ⟨vb, 0, none⟩) 1 vc] w fun e w' => ∃ v, e = .returned v ∧ Kd.R (Kd.int .i64) 3 w' base (fun _ => True) v l2 ∧ Below base w w' := by
  unfold slices_Insert_int_int.f at h
  by_cases h0 : 0 ≤ i
  · rw [if_pos h0] at h
    by_cases h1 : i ≤ (l.length : Int)
    · rw [if_pos h1] at h
      by_cases h2 : l.length < 4398046511104
      · rw [if_pos h2] at h
        obtain rfl := Option.some.inj h
        clear h
        have ho := Kd.own_of_R hR
        have hox := Kd.own_of_R hX
        obtain ⟨hbx, hltx, hnx, hmx, cx, hhx, hsx, hix⟩ := slices_Insert_int_int.of_own hox
        obtain ⟨k, rfl⟩ : ∃ k : Nat, i = (k : Int) := ⟨i.toNat, by omega⟩
        simp only [Int.toNat_natCast] at *
        have hk : k ≤ l.length := by omega
        have hvs : ∀ (j : Nat) (u : Value), (encs (Value.int .i64) [x])[j]? = some u → w.cell? ⟨vb, 0 + j, none⟩ = some u := by
          intro j u hj
          have hj1 : j < 1 := by
            rcases Nat.lt_or_ge j 1 with h' | h'
            · exact h'
            · rw [List.getElem?_eq_none (by simpa [encs] using h')] at hj; cases hj
          simp only [World.cell?, hhx, Nat.zero_add, Option.isSome_none, Bool.false_eq_true, if_false]
          rw [← hix j hj1, hj]
        have h1v : ∀ v ∈ encs (Value.int .i64) [x], v.oneCell' = true := by
          intro v hv
          simp only [encs, List.map_cons, List.map_nil, List.mem_singleton] at hv
          subst hv; rfl
        have h1c : ∀ v ∈ encs (Value.int .i64) l, v.oneCell' = true := by
          intro v hv
          obtain ⟨z, _, rfl⟩ := List.mem_map.1 hv
          rfl
        have hcl : (encs (Value.int .i64) l).length = l.length := by simp [encs]
        have hvl : (encs (Value.int .i64) [x]).length = 1 := rfl
        have hl2 : (l.insertIdx k x).length = l.length + 1 := List.length_insertIdx_of_le_length hk x
        have hmx2 : maxLen = 9223372036854775807 := rfl
        have hgl : ∀ j, j < l.length → (encs (Value.int .i64) l)[j]? = some (Value.int .i64 (l.getD j 0)) := by
          intro j hj
          simp [encs, List.getElem?_map, List.getElem?_eq_getElem hj, List.getD_eq_getElem?_getD]
        have fin : ∀ (w' : World) (g cap : Nat) (f : Nat → Value), w'.rowIs g 3 cap f → base ≤ g → l.length + 1 ≤ cap → cap ≤ maxLen →
            (∀ j, j < l.length + 1 → f j = if j < k then (Value.int .i64 (l.getD j 0)) else if j = k then (Value.int .i64 x) else (Value.int .i64 (l.getD (j - 1) 0))) →
            Kd.R (Kd.int .i64) 3 w' base (fun _ => True) (.slice (some ⟨g, 0, none⟩) (l.length + 1) cap) (l.insertIdx k x) := by
          intro w' g cap f hr hg hn hm hf
          refine Kd.R_of_own ?_ (fun _ _ => trivial)
          rw [hl2]
          exact slices_Insert_int_int.own_of hr hg hn hm (by simp [encs, hl2]) (fun j hj => by rw [slices_Insert_int_int.ins l k x hk j hj, hf j hj])
        have hzc : ∀ q, (Builtin.zeroCells (Value.int .i64 0).cells q).size = q := by
          intro q
          have h1 : (Value.int .i64 0).cells.size = 1 := rfl
          simp [Builtin.zeroCells, h1]
        have hgrow : ∀ (wv : World) (cap : Nat), l.length + 1 ≤ cap → (wv.alloc (.cells ((encs (Value.int .i64) l ++ encs (Value.int .i64) [x]).toArray ++ Builtin.zeroCells (Value.int .i64 0).cells (cap - (l.length + 1))) 3)).rowIs wv.heap.size 3 cap
            (fun j => ((encs (Value.int .i64) l ++ encs (Value.int .i64) [x]).toArray ++ Builtin.zeroCells (Value.int .i64 0).cells (cap - (l.length + 1)))[j]?.getD default) := by
          intro wv cap hcap
          refine slices_Insert_int_int.alloc_row wv _ cap ?_
          rw [Array.size_append, hzc]; simp [encs]; omega
        have hend : ∀ (cap : Nat) (j : Nat), j < l.length + 1 → (((encs (Value.int .i64) l ++ encs (Value.int .i64) [x]).toArray ++ Builtin.zeroCells (Value.int .i64 0).cells (cap - (l.length + 1)))[j]?.getD default) =
            if j < l.length then (Value.int .i64 (l.getD j 0)) else if j = l.length then (Value.int .i64 x) else (Value.int .i64 (l.getD (j - 1) 0)) := by
          intro cap j hj
          rw [Array.getElem?_append_left (by simp [encs]; omega)]
          simp only [List.getElem?_toArray]
          by_cases h1 : j < l.length
          · rw [List.getElem?_append_left (by omega), hgl j h1, if_pos h1]; rfl
          · have : j = l.length := by omega
            subst this
            rw [List.getElem?_append_right (by omega), hcl, Nat.sub_self, if_neg h1, if_pos rfl]; rfl
        have hnew : ∀ (cap : Nat), l.length + 1 ≤ cap → (w.alloc (.cells (((encs (Value.int .i64) l).take k).toArray ++ Builtin.zeroCells (Value.int .i64 0).cells (l.length + 1 - k) ++ Builtin.zeroCells (Value.int .i64 0).cells (cap - (l.length + 1))) 3)).rowIs w.heap.size 3 cap
            (fun j => (((encs (Value.int .i64) l).take k).toArray ++ Builtin.zeroCells (Value.int .i64 0).cells (l.length + 1 - k) ++ Builtin.zeroCells (Value.int .i64 0).cells (cap - (l.length + 1)))[j]?.getD default) := by
          intro cap hcap
          refine slices_Insert_int_int.alloc_row w _ cap ?_
          rw [Array.size_append, Array.size_append, hzc, hzc]; simp [encs]; omega
        have hmid : ∀ (f0 : Nat → Value), (∀ j, j < k → f0 j = Value.int .i64 (l.getD j 0)) → ∀ j, j < l.length + 1 →
            (if k + 1 ≤ j ∧ j < k + 1 + ((encs (Value.int .i64) l).drop k).length then ((encs (Value.int .i64) l).drop k)[j - (k + 1)]?.getD default else if k ≤ j ∧ j < k + 1 then (encs (Value.int .i64) [x])[j - k]?.getD default else f0 j) =
            if j < k then (Value.int .i64 (l.getD j 0)) else if j = k then (Value.int .i64 x) else (Value.int .i64 (l.getD (j - 1) 0)) := by
          intro f0 hf0 j hj
          have hdl : ((encs (Value.int .i64) l).drop k).length = l.length - k := by rw [List.length_drop, hcl]
          by_cases h1 : j < k
          · rw [if_neg (by omega), if_neg (by omega), if_pos h1, hf0 j h1]
          · by_cases h2 : j = k
            · subst h2
              rw [if_neg (by omega), if_pos (by omega), if_neg h1, if_pos rfl, Nat.sub_self]; rfl
            · rw [if_pos (by omega), if_neg h1, if_neg h2, List.getElem?_drop, show k + (j - (k + 1)) = j - 1 by omega, hgl (j - 1) (by omega)]; rfl
        rcases A with _ | ⟨g, o, sp⟩
        · -- nil
          have hc0 : c = 0 ∧ l.length = 0 := by
            rcases ho.2 with ⟨e0, e1⟩ | ⟨_, _, _, e0, _⟩
            · injection e0 with _ e2 e3; exact ⟨e3, e1⟩
            · injection e0 with e1; cases e1
          obtain ⟨rfl, hl0⟩ := hc0
          have hk0 : k = l.length := by omega
          subst hk0
          refine (Any2.slices_Insert_int_end_grow Try.laysIns none l.length 0 vb 0 1 vc (encs (Value.int .i64) l) (encs (Value.int .i64) [x]) w (by omega) (by omega) (by omega) (by omega) hcl hvl (fun _ => hl0) (fun a ha => by cases ha) hvs h1v).mono ?_
          rintro e w' ⟨rfl, rfl⟩
          exact ⟨_, rfl, fin _ _ _ _ (hgrow _ _ (grownCap_ge _ _ _ _)) hbase (grownCap_ge _ _ _ _) (grownCap_le_maxLen _ _ _ _ (by omega)) (hend _), (below_alloc (below_drew (Below.refl _ _)) _).mono hbase⟩
        · have hA : sp = none ∧ o = 0 := by
            rcases ho.2 with ⟨e0, _⟩ | ⟨_, _, _, e0, _⟩
            · injection e0 with e1; cases e1
            · injection e0 with e1; injection e1 with e1; injection e1 with e1 e2 e3; exact ⟨e3, e2⟩
          obtain ⟨rfl, rfl⟩ := hA
          obtain ⟨hbg, hltg, hn, hm, cg, hhg, hsg, hig⟩ := slices_Insert_int_int.of_own ho
          have hnb : vb ≠ g := hne _ rfl
          have hrow : w.rowIs g 3 c (fun j => cg[j]?.getD default) := by rw [← hsg]; exact slices_Insert_int_int.row hhg
          have hcs : ∀ (j : Nat) (u : Value), (encs (Value.int .i64) l)[j]? = some u → w.cell? ⟨g, 0 + j, none⟩ = some u := by
            intro j u hj
            have hj1 : j < l.length := by
              rcases Nat.lt_or_ge j l.length with h' | h'
              · exact h'
              · rw [List.getElem?_eq_none (by omega)] at hj; cases hj
            simp only [World.cell?, hhg, Nat.zero_add, Option.isSome_none, Bool.false_eq_true, if_false]
            rw [← hig j hj1, hj]
          have hfr : ∀ j, w.frozen? ⟨g, j, none⟩ = false := by
            intro j; simp [World.frozen?, hhg]
          have hsp : ∀ j, j < c → (w.cell? ⟨g, j, none⟩).isSome = true := by
            intro j hj
            simp only [World.cell?, hhg, Option.isSome_none, Bool.false_eq_true, if_false]
            rw [Array.getElem?_eq_getElem (by omega)]; rfl
          have hcg : ∀ j, j < l.length → (cg[j]?.getD default) = Value.int .i64 (l.getD j 0) := by
            intro j hj
            rw [← hig j hj, hgl j hj]; rfl
          by_cases hroom : l.length + 1 ≤ c
          · by_cases hend2 : k = l.length
            · subst hend2
              refine (Any2.slices_Insert_int_end_room Try.laysIns g 0 l.length c vb 0 1 vc (encs (Value.int .i64) [x]) w (by omega) hroom (by omega) hvl (fun j hj => hsp _ (by omega)) (fun j _ => hfr _) hvs h1v).mono ?_
              rintro e w' ⟨rfl, rfl⟩
              refine ⟨_, rfl, fin _ _ _ _ (Go.rowIs_setCells _ _ _ _ hrow) hbg hroom hm ?_, (Go.below_setCells hbg _ _ _ (Below.refl _ _))⟩
              intro j hj
              simp only [Nat.zero_add, hvl]
              by_cases h1 : j < l.length
              · rw [if_neg (by omega), if_pos h1, hcg j h1]
              · have : j = l.length := by omega
                subst this
                rw [if_pos (by omega), if_neg (by omega), if_pos rfl, Nat.sub_self]; rfl
            · refine (Any2.slices_Insert_int_shift Try.laysIns g 0 l.length c k vb 0 1 vc (encs (Value.int .i64) l) (encs (Value.int .i64) [x]) w (by omega) (by omega) hroom (by omega) hnb hcl hvl hcs (fun j hj => hsp _ (by omega)) (fun j _ => hfr _) hvs h1c h1v
                3 3 cx.size cg.size (by simp [World.shape?, hhx]) (by simp [World.shape?, hhg]) (by omega) (by simp [World.frozen?, hhx]) (by simp [World.frozen?, hhx])).mono ?_
              rintro e w' ⟨rfl, rfl⟩
              refine ⟨_, rfl, fin _ _ _ _ (Go.rowIs_setCells _ _ _ _ (Go.rowIs_setCells _ _ _ _ hrow.drew)) hbg hroom hm ?_, (Go.below_setCells hbg _ _ _ (Go.below_setCells hbg _ _ _ (below_drew (Below.refl _ _))))⟩
              intro j hj
              simp only [Nat.zero_add, hvl]
              have hdl : ((encs (Value.int .i64) l).drop k).length = l.length - k := by rw [List.length_drop, hcl]
              have hm2 := hmid (fun j => cg[j]?.getD default) (fun j hj => hcg j (by omega)) j hj
              rw [← hm2]
              by_cases h1 : k ≤ j ∧ j < k + 1
              · rw [if_pos h1, if_neg (by omega), if_pos h1]
              · rw [if_neg h1]
                by_cases h2 : k + 1 ≤ j ∧ j < k + 1 + ((encs (Value.int .i64) l).drop k).length
                · rw [if_pos h2, if_pos h2]
                · rw [if_neg h2, if_neg h2, if_neg h1]
          · by_cases hend2 : k = l.length
            · subst hend2
              refine (Any2.slices_Insert_int_end_grow Try.laysIns (some ⟨g, 0, none⟩) l.length c vb 0 1 vc (encs (Value.int .i64) l) (encs (Value.int .i64) [x]) w (by omega) hn (by omega) (by omega) hcl hvl (fun e => by cases e) (fun a ha j v hv => by cases ha; rw [Addr.add_lit]; exact hcs j v hv) hvs h1v).mono ?_
              rintro e w' ⟨rfl, rfl⟩
              exact ⟨_, rfl, fin _ _ _ _ (hgrow _ _ (grownCap_ge _ _ _ _)) hbase (grownCap_ge _ _ _ _) (grownCap_le_maxLen _ _ _ _ (by omega)) (hend _), (below_alloc (below_drew (Below.refl _ _)) _).mono hbase⟩
            · refine (Any2.slices_Insert_int_grow Try.laysIns g 0 l.length c k vb 0 1 vc (encs (Value.int .i64) l) (encs (Value.int .i64) [x]) w (by omega) (by omega) hn (by omega) (by omega) hcl hvl hcs hvs h1c h1v).mono ?_
              rintro e w' ⟨rfl, rfl⟩
              refine ⟨_, rfl, fin _ _ _ _ (Go.rowIs_setCells _ _ _ _ (Go.rowIs_setCells _ _ _ _ (hnew _ (grownCap_ge _ _ _ _)).drew).drew) hbase (grownCap_ge _ _ _ _) (grownCap_le_maxLen _ _ _ _ (by omega)) ?_,
                (Go.below_setCells hbase _ _ _ (below_drew (Go.below_setCells hbase _ _ _ (below_drew ((below_alloc (Below.refl _ _) _).mono hbase)))))⟩
              intro j hj
              simp only [hvl]
              refine hmid (fun j => (((encs (Value.int .i64) l).take k).toArray ++ Builtin.zeroCells (Value.int .i64 0).cells (l.length + 1 - k) ++ Builtin.zeroCells (Value.int .i64 0).cells (grownCap w (l.length + 1) c (Try.laysIns_ren.t 3) - (l.length + 1)))[j]?.getD default) (fun j hj => ?_) j hj
              show (((encs (Value.int .i64) l).take k).toArray ++ Builtin.zeroCells (Value.int .i64 0).cells (l.length + 1 - k) ++ Builtin.zeroCells (Value.int .i64 0).cells (grownCap w (l.length + 1) c (Try.laysIns_ren.t 3) - (l.length + 1)))[j]?.getD default = _
              rw [Array.getElem?_append_left (by simp [hzc]; omega), Array.getElem?_append_left (by simp; omega)]
              simp only [List.getElem?_toArray]
              rw [List.getElem?_take, if_pos hj, hgl j (by omega)]; rfl
      · rw [if_neg h2] at h; cases h
    · rw [if_neg h1] at h; cases h
  · rw [if_neg h0] at h; cases h

/-! ### impl_trotterAt: function 59 -/
/-- Trotter's permutation of a rank. -/
def impl_trotterAt.f : Nat → Int → Int → Option (List Int)
  | 0, _, _ => none
  | k + 1, a0, a1 => if a0 = 0 then (some ([] : List Int)) else ((impl_trotterAt.f k (wrap64 (a0 - 1)) (wrap64 (Int.tdiv a1 a0))).bind fun l => (if (Int.tmod (wrap64 (Int.tdiv a1 a0)) 2) = 0 then slices_Insert_int_int.f l (wrap64 (wrap64 (a0 - 1) - Int.tmod a1 a0)) (wrap64 (a0 - 1)) else slices_Insert_int_int.f l (Int.tmod a1 a0) (wrap64 (a0 - 1))))
theorem impl_trotterAt.mono_l : ∀ k, (∀ y0 y1, LeO (impl_trotterAt.f k y0 y1) (impl_trotterAt.f (k + 1) y0 y1))
  | 0 => fun _ _ r h => by simp [impl_trotterAt.f] at h
  | k + 1 => by
    have ih0 := impl_trotterAt.mono_l k
    · intro y0 y1
      unfold impl_trotterAt.f
      repeat' first
      | (with_reducible exact ih0 _ _)
      | (with_reducible exact LeO.refl _)
      | (with_reducible exact LeO.none _)
      | (with_reducible refine LeO.ite ?_ ?_)
      | (with_reducible refine LeO.bind ?_ (fun _ => ?_))
theorem impl_trotterAt.mono : ∀ a0 a1 k, LeO (impl_trotterAt.f k a0 a1) (impl_trotterAt.f (k + 1) a0 a1) := by
  intro a0 a1 k
  have ih0 := impl_trotterAt.mono_l k
  exact ih0 a0 a1
set_option maxHeartbeats 8000000 in
set_option maxRecDepth 100000 in
theorem impl_trotterAt.calls (k : Nat) : ∀ (a0 : Int) (a1 : Int) (r : List Int) (w : World) (h : impl_trotterAt.f k a0 a1 = some r),
    Calls Try.prog 59 #[.int .i64 a0, .int .i64 a1] w fun e w' => ∃ v0_ : Value, e = .returned (v0_) ∧ Kd.R (Kd.int .i64) 3 w' w.heap.size (fun _ => True) v0_ r ∧ Below w.heap.size w w' := by
  induction k with
  | zero => intro a0 a1 r w h; exact absurd h (by simp [impl_trotterAt.f])
  | succ k ih =>
    intro a0 a1 r w h
    simp only [impl_trotterAt.f] at h
    by_cases c : a0 = 0
    · rw [if_pos c] at h
      have c3b0 : (a0 == 0) = true := beq_iff_eq.mpr c
      obtain rfl := Option.some.inj h
      clear h c
      go_enter Try.func59, Try.ntmps59
      go_wp2
      go_ret
      exact ⟨_, rfl, Kd.R_of_own (World.ownsRow_made w #[] 0 (Nat.le_refl _) (by decide) rfl) (fun _ _ => trivial), below_alloc (Below.refl _ _) _⟩
    · rw [if_neg c] at h
      have c3b0 : (a0 == 0) = false := beq_eq_false_iff_ne.mpr c
      obtain ⟨l, hl, h⟩ := Option.bind_eq_some_iff.mp h
      have HL := Aside0.mk hl
      clear hl
      by_cases c5 : Int.tmod (wrap64 (Int.tdiv a1 a0)) 2 = 0
      · rw [if_pos c5] at h
        have c5b0 : ((Int.tmod (wrap64 (Int.tdiv a1 a0)) 2) == 0) = true := beq_iff_eq.mpr c5
        have H := Aside0.mk h
        clear h c5
        go_enter Try.func59, Try.ntmps59
        go_wp2_with fail
        go_region
        all_goals
          go_wp2_with fail
          refine (ih _ _ l _ HL.out).mono ?_
          rintro e w1 ⟨v1, rfl, ho1, hb1⟩
          obtain ⟨A1, c1, rfl⟩ := Kd.R_slice ho1
          have HO1 := Aside0.mk (Kd.R_lower ho1 (Nat.le_refl w.heap.size))
          have HB1 := Aside0.mk (show Below w.heap.size w w1 from (below_drew (Below.refl _ _)).trans hb1)
          clear ho1 hb1
          go_wp2_with fail
          refine (slices_Insert_int_int.calls l r (wrap64 (wrap64 (a0 - 1) - Int.tmod a1 a0)) (wrap64 (a0 - 1)) A1 c1 w1.heap.size 1 w.heap.size w.heap.size (fun _ => True) (fun _ => True) _ (Kd.R_alloc HO1.out _) (Kd.R_of_own (World.ownsRow_lit w1 #[.int .i64 (wrap64 (a0 - 1))] 1 HB1.out.size (by decide) rfl) (fun _ _ => trivial)) ?_ H.out (below_alloc HB1.out _).size).mono ?_
          · intro a ha
            subst ha
            have := Kd.R_lt HO1.out a.block rfl
            omega
          · rintro e w2 ⟨v2, rfl, ho2, hb2⟩
            have HO2 := Aside0.mk ho2
            have HB2 := Aside0.mk ((below_alloc HB1.out _).trans hb2)
            clear ho2 hb2
            go_wp2
            go_ret
            exact ⟨_, rfl, HO2.out, HB2.out⟩
      · rw [if_neg c5] at h
        have c5b0 : ((Int.tmod (wrap64 (Int.tdiv a1 a0)) 2) == 0) = false := beq_eq_false_iff_ne.mpr c5
        have H := Aside0.mk h
        clear h c5
        go_enter Try.func59, Try.ntmps59
        go_wp2_with fail
        go_region
        all_goals
          go_wp2_with fail
          refine (ih _ _ l _ HL.out).mono ?_
          rintro e w1 ⟨v1, rfl, ho1, hb1⟩
          obtain ⟨A1, c1, rfl⟩ := Kd.R_slice ho1
          have HO1 := Aside0.mk (Kd.R_lower ho1 (Nat.le_refl w.heap.size))
          have HB1 := Aside0.mk (show Below w.heap.size w w1 from (below_drew (Below.refl _ _)).trans hb1)
          clear ho1 hb1
          go_wp2_with fail
          refine (slices_Insert_int_int.calls l r (Int.tmod a1 a0) (wrap64 (a0 - 1)) A1 c1 w1.heap.size 1 w.heap.size w.heap.size (fun _ => True) (fun _ => True) _ (Kd.R_alloc HO1.out _) (Kd.R_of_own (World.ownsRow_lit w1 #[.int .i64 (wrap64 (a0 - 1))] 1 HB1.out.size (by decide) rfl) (fun _ _ => trivial)) ?_ H.out (below_alloc HB1.out _).size).mono ?_
          · intro a ha
            subst ha
            have := Kd.R_lt HO1.out a.block rfl
            omega
          · rintro e w2 ⟨v2, rfl, ho2, hb2⟩
            have HO2 := Aside0.mk ho2
            have HB2 := Aside0.mk ((below_alloc HB1.out _).trans hb2)
            clear ho2 hb2
            go_wp2
            go_ret
            exact ⟨_, rfl, HO2.out, HB2.out⟩

/-! ### impl_TrotterAt: function 16 -/
def impl_TrotterAt.f (k : Nat) (a0 : Int) (a1 : Int) : Option (List Int × Bool) := (impl_within.f a0 0 12).bind fun t160 => (if t160 = true then ((impl_factorial.f k a0).bind fun t161 => ((impl_within.f a1 0 (wrap64 (t161 - 1))).bind fun t162 => (if t162 = true then ((impl_trotterAt.f k a0 a1).bind fun t163 => (some (t163, true))) else (some (([] : List Int), false))))) else (some (([] : List Int), false)))
theorem impl_TrotterAt.mono : ∀ a0 a1 k, LeO (impl_TrotterAt.f k a0 a1) (impl_TrotterAt.f (k + 1) a0 a1) := by
  intro a0 a1 k
  unfold impl_TrotterAt.f
  repeat' first
      | (with_reducible exact impl_factorial.mono _ _)
      | (with_reducible exact impl_trotterAt.mono _ _ _)
      | (with_reducible exact LeO.refl _)
      | (with_reducible exact LeO.none _)
      | (with_reducible refine LeO.ite ?_ ?_)
      | (with_reducible refine LeO.bind ?_ (fun _ => ?_))
      | exact impl_factorial.mono _ _
      | exact impl_trotterAt.mono _ _ _
      | exact LeO.none _
      | refine LeO.ite ?_ ?_
      | refine LeO.bind ?_ (fun _ => ?_)
set_option maxHeartbeats 8000000 in
set_option maxRecDepth 100000 in
theorem impl_TrotterAt.calls (k : Nat) (a0 : Int) (a1 : Int) (r1 : List Int) (r2 : Bool) (w : World) (h : impl_TrotterAt.f k a0 a1 = some (r1, r2)) :
    Calls Try.prog 16 #[.int .i64 a0, .int .i64 a1] w fun e w' => ∃ v0_ : Value, e = .returned (.tuple #[v0_, .bool r2]) ∧ Kd.R (Kd.int .i64) 3 w' w.heap.size (fun _ => True) v0_ r1 ∧ Below w.heap.size w w' := by
  have HB := Aside0.mk (Below.refl w.heap.size w)
  have H : ((impl_within.f a0 0 12).bind fun t160 => (if t160 = true then ((impl_factorial.f k a0).bind fun t161 => ((impl_within.f a1 0 (wrap64 (t161 - 1))).bind fun t162 => (if t162 = true then ((impl_trotterAt.f k a0 a1).bind fun t163 => (some (t163, true))) else (some (([] : List Int), false))))) else (some (([] : List Int), false)))) = some (r1, r2) := h
  clear h
  replace H := Option.bind_eq_some_iff.mp H
  obtain ⟨t160, A30, H⟩ := H
  replace H : (if t160 = true then ((impl_factorial.f k a0).bind fun t161 => ((impl_within.f a1 0 (wrap64 (t161 - 1))).bind fun t162 => (if t162 = true then ((impl_trotterAt.f k a0 a1).bind fun t163 => (some (t163, true))) else (some (([] : List Int), false))))) else (some (([] : List Int), false))) = some (r1, r2) := H
  have A3 := Aside0.mk A30
  clear A30
  by_cases c4 : t160 = true
  · subst c4
    have H1 : ((impl_factorial.f k a0).bind fun t161 => ((impl_within.f a1 0 (wrap64 (t161 - 1))).bind fun t162 => (if t162 = true then ((impl_trotterAt.f k a0 a1).bind fun t163 => (some (t163, true))) else (some (([] : List Int), false))))) = some (r1, r2) := by rw [if_pos rfl] at H; exact H
    clear H
    have H := H1
    clear H1
    replace H := Option.bind_eq_some_iff.mp H
    obtain ⟨t161, A50, H⟩ := H
    replace H : ((impl_within.f a1 0 (wrap64 (t161 - 1))).bind fun t162 => (if t162 = true then ((impl_trotterAt.f k a0 a1).bind fun t163 => (some (t163, true))) else (some (([] : List Int), false)))) = some (r1, r2) := H
    have A5 := Aside0.mk A50
    clear A50
    replace H := Option.bind_eq_some_iff.mp H
    obtain ⟨t162, A60, H⟩ := H
    replace H : (if t162 = true then ((impl_trotterAt.f k a0 a1).bind fun t163 => (some (t163, true))) else (some (([] : List Int), false))) = some (r1, r2) := H
    have A6 := Aside0.mk A60
    clear A60
    by_cases c7 : t162 = true
    · subst c7
      have H1 : ((impl_trotterAt.f k a0 a1).bind fun t163 => (some (t163, true))) = some (r1, r2) := by rw [if_pos rfl] at H; exact H
      clear H
      have H := H1
      clear H1
      replace H := Option.bind_eq_some_iff.mp H
      obtain ⟨t163, A80, H⟩ := H
      replace H : (some (t163, true)) = some (r1, r2) := H
      have A8 := Aside0.mk A80
      clear A80
      simp only [Option.some.injEq, Prod.mk.injEq] at H
      obtain ⟨rfl, rfl⟩ := H
      go_enter Try.func16, Try.ntmps16
      go_wp2_with (first | ((with_reducible refine gate_callee (f := 57) rfl ?_); refine goesL_ (some 7) rfl rfl Try.func57 (by kernel_rfl) rfl #[.int .i64 a0, .int .i64 0, .int .i64 12] rfl (by (try simp only [List.map_toArray, List.map_cons, List.map_nil]); first | done | rfl | (simp only [List.length_drop, List.length_take]; rfl)) ?_; (with_reducible refine (impl_within.calls a0 0 12 true _ A3.out).mono ?_); rintro e w' ⟨rfl, ⟨nd, rfl⟩⟩; refine ⟨_, rfl, ?_⟩) | (go_at_call 58; (with_reducible refine (impl_factorial.calls k a0 t161 _ A5.out).mono ?_); rintro e w' ⟨rfl, ⟨nd, rfl⟩⟩) | (go_at_call 57; (with_reducible refine (impl_within.calls a1 0 (wrap64 (t161 - 1)) true _ A6.out).mono ?_); rintro e w' ⟨rfl, ⟨nd, rfl⟩⟩) | ((with_reducible refine gate_callee (f := 59) rfl ?_); refine goesL_ (some 19) rfl rfl Try.func59 (by kernel_rfl) rfl #[.int .i64 a0, .int .i64 a1] rfl (by (try simp only [List.map_toArray, List.map_cons, List.map_nil]); first | done | rfl | (simp only [List.length_drop, List.length_take]; rfl)) ?_; (with_reducible refine (impl_trotterAt.calls k a0 a1 t163 _ A8.out).mono ?_); rintro e w9 ⟨v164, rfl, ho0, hb⟩; refine ⟨_, rfl, ?_⟩; have n0_ := Aside0.mk (Kd.R_lower ho0 (below_size (by repeat (first | (with_reducible first | exact HB.out | apply below_alloc | apply pw_below_drewN | apply below_drew1) | exact HB.out)))); have n1_ := Aside0.mk (below_step (by repeat (first | (with_reducible first | exact HB.out | apply below_alloc | apply pw_below_drewN | apply below_drew1) | exact HB.out)) hb); clear HB; have HO165 := n0_; have HB := n1_; clear n0_ n1_; (try clear hb); (try clear hb2); (try clear hk); (try clear hi); (try clear ho0)))
      go_ret2
      exact ⟨_, by first | rfl | (simp [errW_none, errW_some] <;> rfl) | (simp [*, errW_none, errW_some] <;> rfl), by (with_reducible repeat (first | apply Kd.R_alloc | apply Kd.R_drewN | apply Kd.R_drew)); exact HO165.out, by repeat (first | (with_reducible first | exact HB.out | apply below_alloc | apply pw_below_drewN | apply below_drew1) | exact HB.out)⟩
    · replace c7 := Bool.eq_false_iff.mpr c7
      subst c7
      have H1 : (some (([] : List Int), false)) = some (r1, r2) := by rw [if_neg (show ¬ (false = true) by decide)] at H; exact H
      clear H
      have H := H1
      clear H1
      simp only [Option.some.injEq, Prod.mk.injEq] at H
      obtain ⟨rfl, rfl⟩ := H
      go_enter Try.func16, Try.ntmps16
      go_wp2_with (first | ((with_reducible refine gate_callee (f := 57) rfl ?_); refine goesL_ (some 7) rfl rfl Try.func57 (by kernel_rfl) rfl #[.int .i64 a0, .int .i64 0, .int .i64 12] rfl (by (try simp only [List.map_toArray, List.map_cons, List.map_nil]); first | done | rfl | (simp only [List.length_drop, List.length_take]; rfl)) ?_; (with_reducible refine (impl_within.calls a0 0 12 true _ A3.out).mono ?_); rintro e w' ⟨rfl, ⟨nd, rfl⟩⟩; refine ⟨_, rfl, ?_⟩) | (go_at_call 58; (with_reducible refine (impl_factorial.calls k a0 t161 _ A5.out).mono ?_); rintro e w' ⟨rfl, ⟨nd, rfl⟩⟩) | (go_at_call 57; (with_reducible refine (impl_within.calls a1 0 (wrap64 (t161 - 1)) false _ A6.out).mono ?_); rintro e w' ⟨rfl, ⟨nd, rfl⟩⟩))
      go_ret2
      exact ⟨_, by first | rfl | (simp [errW_none, errW_some] <;> rfl) | (simp [*, errW_none, errW_some] <;> rfl), by first | exact Kd.R_nil _ _ _ _ _ | exact Kd.N_nil _ _ _ _ _ | exact Kd.V_nil _ _ _ _ _ | exact Kd.Q_nil _ _ _ _ _ | exact Kd.S_nil _ _ _ _ _, by repeat (first | (with_reducible first | exact HB.out | apply below_alloc | apply pw_below_drewN | apply below_drew1) | exact HB.out)⟩
  · replace c4 := Bool.eq_false_iff.mpr c4
    subst c4
    have H1 : (some (([] : List Int), false)) = some (r1, r2) := by rw [if_neg (show ¬ (false = true) by decide)] at H; exact H
    clear H
    have H := H1
    clear H1
    simp only [Option.some.injEq, Prod.mk.injEq] at H
    obtain ⟨rfl, rfl⟩ := H
    go_enter Try.func16, Try.ntmps16
    go_wp2_with (first | ((with_reducible refine gate_callee (f := 57) rfl ?_); refine goesL_ (some 7) rfl rfl Try.func57 (by kernel_rfl) rfl #[.int .i64 a0, .int .i64 0, .int .i64 12] rfl (by (try simp only [List.map_toArray, List.map_cons, List.map_nil]); first | done | rfl | (simp only [List.length_drop, List.length_take]; rfl)) ?_; (with_reducible refine (impl_within.calls a0 0 12 false _ A3.out).mono ?_); rintro e w' ⟨rfl, ⟨nd, rfl⟩⟩; refine ⟨_, rfl, ?_⟩))
    go_ret2
    exact ⟨_, by first | rfl | (simp [errW_none, errW_some] <;> rfl) | (simp [*, errW_none, errW_some] <;> rfl), by first | exact Kd.R_nil _ _ _ _ _ | exact Kd.N_nil _ _ _ _ _ | exact Kd.V_nil _ _ _ _ _ | exact Kd.Q_nil _ _ _ _ _ | exact Kd.S_nil _ _ _ _ _, by repeat (first | (with_reducible first | exact HB.out | apply below_alloc | apply pw_below_drewN | apply below_drew1) | exact HB.out)⟩

/-! ### laws_eqIntS: function 17 -/
def laws_eqIntS.l0 : Nat → List Int → List Int → Int → Option (Bool)
  | 0, _, _, _ => none
  | k + 1, x0, x1, x5 => if x5 < (x0.length : Int) then (if 0 ≤ x5 then (if x5 < (x1.length : Int) then (if (rd x0 x5) = (rd x1 x5) then (laws_eqIntS.l0 k x0 x1 (wrap64 (x5 + 1))) else (some false)) else (none)) else (none)) else (some true)
def laws_eqIntS.f (k : Nat) (l0 : List Int) (l1 : List Int) : Option (Bool) := if (l0.length : Int) = (l1.length : Int) then (laws_eqIntS.l0 k l0 l1 0) else (some false)
theorem laws_eqIntS.mono_l : ∀ k, (∀ y0 y1 y2, LeO (laws_eqIntS.l0 k y0 y1 y2) (laws_eqIntS.l0 (k + 1) y0 y1 y2))
  | 0 => fun _ _ _ r h => by simp [laws_eqIntS.l0] at h
  | k + 1 => by
    have ih0 := laws_eqIntS.mono_l k
    · intro y0 y1 y2
      unfold laws_eqIntS.l0
      repeat' first
      | (with_reducible exact ih0 _ _ _)
      | (with_reducible exact LeO.refl _)
      | (with_reducible exact LeO.none _)
      | (with_reducible refine LeO.ite ?_ ?_)
      | (with_reducible refine LeO.bind ?_ (fun _ => ?_))
      | exact ih0 _ _ _
      | exact LeO.none _
      | refine LeO.ite ?_ ?_
      | refine LeO.bind ?_ (fun _ => ?_)
theorem laws_eqIntS.mono : ∀ a0 a1 k, LeO (laws_eqIntS.f k a0 a1) (laws_eqIntS.f (k + 1) a0 a1) := by
  intro a0 a1 k
  have ih0 := laws_eqIntS.mono_l k
  unfold laws_eqIntS.f
  repeat' first
      | (with_reducible exact ih0 _ _ _)
      | (with_reducible exact LeO.refl _)
      | (with_reducible exact LeO.none _)
      | (with_reducible refine LeO.ite ?_ ?_)
      | (with_reducible refine LeO.bind ?_ (fun _ => ?_))
      | exact ih0 _ _ _
      | exact LeO.none _
      | refine LeO.ite ?_ ?_
      | refine LeO.bind ?_ (fun _ => ?_)
set_option maxHeartbeats 8000000 in
set_option maxRecDepth 100000 in
theorem laws_eqIntS.calls (k : Nat) (A0 : Option Addr) (c0 : Nat) (l0 : List Int) (A1 : Option Addr) (c1 : Nat) (l1 : List Int) (r : Bool) (w : World) (hr0 : Kd.C (Kd.int .i64) w A0 l0.length l0) (hc0 : l0.length ≤ c0) (hr1 : Kd.C (Kd.int .i64) w A1 l1.length l1) (hc1 : l1.length ≤ c1) (h : laws_eqIntS.f k l0 l1 = some r) :
    Calls Try.prog 17 #[.slice A0 l0.length c0, .slice A1 l1.length c1] w fun e w' => e = .returned (.bool r) ∧ Drawn0 w w' := by
  have HR0 := Aside0.mk hr0
  have HC0 := Aside0.mk hc0
  clear hr0 hc0
  have HR1 := Aside0.mk hr1
  have HC1 := Aside0.mk hc1
  clear hr1 hc1
  have H : (if (l0.length : Int) = (l1.length : Int) then (laws_eqIntS.l0 k l0 l1 0) else (some false)) = some r := h
  clear h
  by_cases c3 : (l0.length : Int) = (l1.length : Int)
  · rw [if_pos c3] at H
    have c3b0 : ((l0.length : Int) == (l1.length : Int)) = true := beq_iff_eq.mpr c3
    have c3b1 : ((l0.length : Int) != (l1.length : Int)) = false := bne_eq_false_iff_eq.mpr c3
    have c3b2 : (l0.length == l1.length) = true := by first | simpa using c3 | (simp at c3 ⊢; omega)
    clear c3
    have H' := Aside0.mk H
    clear H
    go_enter Try.func17, Try.ntmps17
    go_wp2
    repeat (go_quiet (fail); try go_wp2)
    go_loopg [5] k (fun kq v5 w' => ∃ (x5_1 : Int), v5 = .int .i64 x5_1 ∧ Aside0 (laws_eqIntS.l0 kq l0 l1 x5_1 = some r) ∧ Aside0 (kq ≤ k) ∧ Drawn0 w w')
    case atStart => exact ⟨(0), (by first | rfl | (simp; done) | (simp [*]; done)), H', ⟨Nat.le_refl _⟩, by repeat (first | exact Drawn0.refl _ | apply Drawn0.step)⟩
    case round =>
      clear H'
      try clear c1
      try clear p2
      try clear c3
      try clear c3b0
      try clear c3b1
      try clear c3b2
      obtain ⟨x5_1, rfl, HA, HK1, ⟨m1, rfl⟩⟩ := hrel
      cases gk with
      | zero => exact absurd HA.out (by simp [laws_eqIntS.l0])
      | succ k1 =>
        have H := HA.out
        clear HA
        simp only [laws_eqIntS.l0] at H
        by_cases c4 : x5_1 < (l0.length : Int)
        · rw [if_pos c4] at H
          have c4b0 : decide (x5_1 < (l0.length : Int)) = true := decide_eq_true c4
          clear c4
          by_cases c5 : 0 ≤ x5_1
          · rw [if_pos c5] at H
            have c5b0 : decide (0 ≤ x5_1) = true := decide_eq_true c5
            clear c5
            by_cases c6 : x5_1 < (l1.length : Int)
            · rw [if_pos c6] at H
              have c6b0 : decide (x5_1 < (l1.length : Int)) = true := decide_eq_true c6
              clear c6
              by_cases c7 : (rd l0 x5_1) = (rd l1 x5_1)
              · rw [if_pos c7] at H
                have c7b0 : ((rd l0 x5_1) == (rd l1 x5_1)) = true := beq_iff_eq.mpr c7
                have c7b1 : ((rd l0 x5_1) != (rd l1 x5_1)) = false := bne_eq_false_iff_eq.mpr c7
                clear c7
                have H' := Aside0.mk H
                clear H
                have p166 : 0 ≤ (x5_1 : Int) := of_decide_eq_true (by first | (with_reducible assumption) | assumption)
                have q166 : x5_1 < (l0.length : Int) := of_decide_eq_true (by first | (with_reducible assumption) | assumption)
                obtain ⟨ad166, e166, hx166_0⟩ := Kd.at_int HR0.out x5_1 p166 q166
                cases e166
                replace p166 := eq_true p166
                replace q166 := eq_true q166
                have p167 : 0 ≤ (x5_1 : Int) := of_decide_eq_true (by first | (with_reducible assumption) | assumption)
                have q167 : x5_1 < (l1.length : Int) := of_decide_eq_true (by first | (with_reducible assumption) | assumption)
                obtain ⟨ad167, e167, hx167_0⟩ := Kd.at_int HR1.out x5_1 p167 q167
                cases e167
                replace p167 := eq_true p167
                replace q167 := eq_true q167
                go_wp2
                repeat (go_quiet (fail); try go_wp2)
                go_roundg k1
                case measure => have := HK1.out; omega
                case rel => exact ⟨(wrap64 (x5_1 + 1)), (by first | rfl | (simp; done) | (simp [*]; done)), H', ⟨by have := HK1.out; omega⟩, by repeat (first | exact Drawn0.refl _ | apply Drawn0.step)⟩
              · rw [if_neg c7] at H
                have c7b0 : ((rd l0 x5_1) == (rd l1 x5_1)) = false := beq_eq_false_iff_ne.mpr c7
                have c7b1 : ((rd l0 x5_1) != (rd l1 x5_1)) = true := bne_iff_ne.mpr c7
                obtain rfl := Option.some.inj H
                have p166 : 0 ≤ (x5_1 : Int) := of_decide_eq_true (by first | (with_reducible assumption) | assumption)
                have q166 : x5_1 < (l0.length : Int) := of_decide_eq_true (by first | (with_reducible assumption) | assumption)
                obtain ⟨ad166, e166, hx166_0⟩ := Kd.at_int HR0.out x5_1 p166 q166
                cases e166
                replace p166 := eq_true p166
                replace q166 := eq_true q166
                have p167 : 0 ≤ (x5_1 : Int) := of_decide_eq_true (by first | (with_reducible assumption) | assumption)
                have q167 : x5_1 < (l1.length : Int) := of_decide_eq_true (by first | (with_reducible assumption) | assumption)
                obtain ⟨ad167, e167, hx167_0⟩ := Kd.at_int HR1.out x5_1 p167 q167
                cases e167
                replace p167 := eq_true p167
                replace q167 := eq_true q167
                go_wp2
                repeat (go_quiet (fail); try go_wp2)
                go_ret
                exact ⟨by first | rfl | (simp; done) | (simp [*]; done), by repeat (first | exact Drawn0.refl _ | apply Drawn0.step)⟩
            · rw [if_neg c6] at H
              exact absurd H (by simp)
          · rw [if_neg c5] at H
            exact absurd H (by simp)
        · rw [if_neg c4] at H
          have c4b0 : decide (x5_1 < (l0.length : Int)) = false := decide_eq_false c4
          clear c4
          obtain rfl := Option.some.inj H
          go_wp2
          repeat (go_quiet (fail); try go_wp2)
          go_ret
          exact ⟨by first | rfl | (simp; done) | (simp [*]; done), by repeat (first | exact Drawn0.refl _ | apply Drawn0.step)⟩
  · rw [if_neg c3] at H
    have c3b0 : ((l0.length : Int) == (l1.length : Int)) = false := beq_eq_false_iff_ne.mpr c3
    have c3b1 : ((l0.length : Int) != (l1.length : Int)) = true := bne_iff_ne.mpr c3
    have c3b2 : (l0.length == l1.length) = false := by first | simpa using c3 | (simp at c3 ⊢; omega)
    obtain rfl := Option.some.inj H
    go_enter Try.func17, Try.ntmps17
    go_wp2
    repeat (go_quiet (fail); try go_wp2)
    go_ret
    exact ⟨by first | rfl | (simp; done) | (simp [*]; done), by repeat (first | exact Drawn0.refl _ | apply Drawn0.step)⟩

/-! ### laws_markIntS: function 18 -/
def laws_markIntS.l0 : Nat → List Int → Int → Int → Option (Int × List Int)
  | 0, _, _, _ => none
  | k + 1, x0, x1, x5 => if x5 < (x0.length : Int) then (if 0 ≤ x5 then (laws_markIntS.l0 k (x0.set (x5 : Int).toNat x1) (wrap64 (x1 + 1)) (wrap64 (x5 + 1))) else (none)) else (some (x1, x0))
def laws_markIntS.f (k : Nat) (l0 : List Int) (a1 : Int) : Option (Int × List Int) := laws_markIntS.l0 k l0 a1 0
theorem laws_markIntS.mono_l : ∀ k, (∀ y0 y1 y2, LeO (laws_markIntS.l0 k y0 y1 y2) (laws_markIntS.l0 (k + 1) y0 y1 y2))
  | 0 => fun _ _ _ r h => by simp [laws_markIntS.l0] at h
  | k + 1 => by
    have ih0 := laws_markIntS.mono_l k
    · intro y0 y1 y2
      unfold laws_markIntS.l0
      repeat' first
      | (with_reducible exact ih0 _ _ _)
      | (with_reducible exact LeO.refl _)
      | (with_reducible exact LeO.none _)
      | (with_reducible refine LeO.ite ?_ ?_)
      | (with_reducible refine LeO.bind ?_ (fun _ => ?_))
      | exact ih0 _ _ _
      | exact LeO.none _
      | refine LeO.ite ?_ ?_
      | refine LeO.bind ?_ (fun _ => ?_)
theorem laws_markIntS.mono : ∀ a0 a1 k, LeO (laws_markIntS.f k a0 a1) (laws_markIntS.f (k + 1) a0 a1) := by
  intro a0 a1 k
  have ih0 := laws_markIntS.mono_l k
  unfold laws_markIntS.f
  repeat' first
      | (with_reducible exact ih0 _ _ _)
      | (with_reducible exact LeO.refl _)
      | (with_reducible exact LeO.none _)
      | (with_reducible refine LeO.ite ?_ ?_)
      | (with_reducible refine LeO.bind ?_ (fun _ => ?_))
      | exact ih0 _ _ _
      | exact LeO.none _
      | refine LeO.ite ?_ ?_
      | refine LeO.bind ?_ (fun _ => ?_)
set_option maxHeartbeats 8000000 in
set_option maxRecDepth 100000 in
theorem laws_markIntS.calls (k : Nat) (P0_ : Nat → Prop) (u9000_ : Value) (l0 : List Int) (a1 : Int) (r1 : Int) (r2 : List Int) (w0 w : World) (hB : Below w0.heap.size w0 w) (ho0 : Kd.R (Kd.int .i64) 3 w w0.heap.size P0_ u9000_ l0) (h : laws_markIntS.f k l0 a1 = some (r1, r2)) :
    Calls Try.prog 18 #[u9000_, .int .i64 a1] w fun e w' => e = .returned (.int .i64 r1) ∧ Kd.R (Kd.int .i64) 3 w' w0.heap.size (fun k_ => (P0_ k_ ∨ w.heap.size ≤ k_)) u9000_ r2 ∧ Below w0.heap.size w0 w' ∧ Kept w w' (fun k_ => P0_ k_) := by
  have HO0 := Aside0.mk (show Kd.R (Kd.int .i64) 3 w w0.heap.size (fun k_ => (P0_ k_ ∨ w.heap.size ≤ k_)) u9000_ l0 from Kd.R_mono ho0 (fun k_ hk => (.inl hk)))
  have HK := Aside0.mk (Kept.refl w (fun k_ => P0_ k_))
  have HW0 := Aside0.mk hB.size
  have HB := Aside0.mk hB
  clear hB
  have H : (laws_markIntS.l0 k l0 a1 0) = some (r1, r2) := h
  clear h
  have H' := Aside0.mk H
  clear H
  go_enter Try.func18, Try.ntmps18
  go_wp2
  go_loopg [1, 5] k (fun kq v1 v5 w' => ∃ (x0_1 : List Int) (x1_1 : Int) (x5_1 : Int), v1 = .int .i64 x1_1 ∧ v5 = .int .i64 x5_1 ∧ Aside0 (laws_markIntS.l0 kq x0_1 x1_1 x5_1 = some (r1, r2)) ∧ Aside0 (kq ≤ k) ∧ Aside0 (Kd.R (Kd.int .i64) 3 w' w0.heap.size (fun k_ => (P0_ k_ ∨ w.heap.size ≤ k_)) u9000_ x0_1) ∧ Aside0 (Kept w w' (fun k_ => P0_ k_)) ∧ Aside0 (Below w0.heap.size w0 w'))
  case atStart => exact ⟨(l0), (a1), (0), (by first | rfl | (simp; done) | (simp [*]; done)), (by first | rfl | (simp; done) | (simp [*]; done)), H', ⟨Nat.le_refl _⟩, ⟨by (with_reducible repeat (first | apply Kd.R_alloc | apply Kd.R_drewN | apply Kd.R_drew)); exact HO0.out⟩, ⟨by repeat (first | (with_reducible first | exact HK.out | apply Kept.alloc | apply Kept.drewN | apply Kept.drew) | exact HK.out)⟩, ⟨by repeat (first | (with_reducible first | exact HB.out | apply below_alloc | apply pw_below_drewN | apply below_drew1) | exact HB.out)⟩⟩
  case round =>
    clear H'
    try clear c1
    try clear p2
    obtain ⟨x0_1, x1_1, x5_1, rfl, rfl, HA, HK1, HO_0, HK, HB⟩ := hrel
    cases gk with
    | zero => exact absurd HA.out (by simp [laws_markIntS.l0])
    | succ k1 =>
      have H := HA.out
      clear HA
      simp only [laws_markIntS.l0] at H
      by_cases c3 : x5_1 < (x0_1.length : Int)
      · rw [if_pos c3] at H
        have c3b0 : decide (x5_1 < (x0_1.length : Int)) = true := decide_eq_true c3
        clear c3
        by_cases c4 : 0 ≤ x5_1
        · rw [if_pos c4] at H
          have c4b0 : decide (0 ≤ x5_1) = true := decide_eq_true c4
          clear c4
          obtain ⟨y168, hy168⟩ : ∃ y_ : List Int, y_ = (x0_1.set (x5_1 : Int).toNat x1_1) := ⟨_, rfl⟩
          replace H : (laws_markIntS.l0 k1 y168 (wrap64 (x1_1 + 1)) (wrap64 (x5_1 + 1))) = some (r1, r2) := by first | (rw [hy168]; with_reducible exact H) | (have H2_ := (Option.bind_some _ _).symm.trans H; rw [hy168]; with_reducible exact H2_) | (have H2_ := (Option.bind_some _ _).symm.trans H; with_reducible exact H2_) | with_reducible exact H | (rw [hy168]; exact H) | exact H
          have Ny168 := Aside0.mk hy168
          clear hy168
          have H' := Aside0.mk H
          clear H
          obtain ⟨Ao6, co6, eo6⟩ := Kd.R_slice HO_0.out
          subst eo6
          have p5 : 0 ≤ (x5_1 : Int) := of_decide_eq_true (by first | (with_reducible assumption) | assumption)
          have q5 : (x5_1 : Int) < ((x0_1.length : Int) : Int) := of_decide_eq_true (by first | (with_reducible assumption) | assumption)
          obtain ⟨go5, co5, eo5, gb5, gl5, cl5, HG5⟩ := Kd.R_form HO_0.out (by omega)
          (first | cases eo5 | (injection eo5 with ea_ en_ ec_; (first | subst ea_ | (injection ea_ with ea_; subst ea_)); subst ec_; clear en_))
          have GB5 := Aside0.mk gb5
          have GG5 := Aside0.mk HG5
          clear gb5 gl5 HG5
          have HMgo5 := Aside0.mk (show (P0_ go5 ∨ w.heap.size ≤ go5) from (HO_0.out.1 _ rfl))
          obtain ⟨hx5_0, hf5_0⟩ := Kd.R_celln 0 HO_0.out (x5_1 : Int) p5 q5
          replace p5 := eq_true p5
          replace q5 := eq_true q5
          have HP7 := Kd.R_putg HO_0.out (x5_1 : Int) x1_1
          go_wp2_with (first | ((with_reducible refine gate_store (t := 3) (p := 15) rfl ?_); refine store_event (t := 3) (p := 15) (v := ?vo_w8) (w1 := (wr.setCell ⟨go5, (x5_1 : Int).toNat, none⟩ (.int .i64 x1_1))) ?hg ?ho ?hn ?hr ?_; (case ho => rfl); (case hg => rfl); (case hn => rfl); (case hr => first | (go_simp; done) | (go_simp; rfl)); intro w8 hw; have hg : wr.grownBy w8 (some go5) := (by rw [hw]; exact HP7.2); have hp_ : Kd.R (Kd.int .i64) 3 w8 w0.heap.size (fun k_ => (P0_ k_ ∨ w.heap.size ≤ k_)) (.slice (some ⟨go5, 0, none⟩) x0_1.length co6) y168 := (by rw [hw, Ny168.out]; exact HP7.1); clear HP7; have n0_ := Aside0.mk (hp_); have n1_ := Aside0.mk ((by rw [hw]; exact below_set (HB.out) GB5.out : Below w0.heap.size w0 w8)); have n2_ := Aside0.mk (Kept.of_grown (S := (fun k_ => P0_ k_)) hg (by repeat (first | (with_reducible first | exact HK.out | apply Kept.alloc | apply Kept.drewN | apply Kept.drew) | exact HK.out)) (fun k_ e_ => (HO_0.out.1 k_ e_))); clear HO_0; clear HB; clear HK; have HO_0 := n0_; have HB := n1_; have HK := n2_; clear n0_ n1_ n2_; clear hg hw hp_))
          go_roundg k1
          case measure => have := HK1.out; omega
          case rel => exact ⟨(y168), (wrap64 (x1_1 + 1)), (wrap64 (x5_1 + 1)), (by first | rfl | (simp; done) | (simp [*]; done)), (by first | rfl | (simp; done) | (simp [*]; done)), H', ⟨by have := HK1.out; omega⟩, ⟨by (with_reducible repeat (first | apply Kd.R_alloc | apply Kd.R_drewN | apply Kd.R_drew)); exact HO_0.out⟩, ⟨by repeat (first | (with_reducible first | exact HK.out | apply Kept.alloc | apply Kept.drewN | apply Kept.drew) | exact HK.out)⟩, ⟨by repeat (first | (with_reducible first | exact HB.out | apply below_alloc | apply pw_below_drewN | apply below_drew1) | exact HB.out)⟩⟩
        · rw [if_neg c4] at H
          exact absurd H (by simp)
      · rw [if_neg c3] at H
        have c3b0 : decide (x5_1 < (x0_1.length : Int)) = false := decide_eq_false c3
        clear c3
        simp only [Option.some.injEq, Prod.mk.injEq] at H
        obtain ⟨rfl, rfl⟩ := H
        obtain ⟨Ao9, co9, eo9⟩ := Kd.R_slice HO_0.out
        subst eo9
        go_wp2
        go_ret
        exact ⟨by first | rfl | (simp [errW_none, errW_some] <;> rfl) | (simp [*, errW_none, errW_some] <;> rfl), by (with_reducible repeat (first | apply Kd.R_alloc | apply Kd.R_drewN | apply Kd.R_drew)); exact HO_0.out, by repeat (first | (with_reducible first | exact HB.out | apply below_alloc | apply pw_below_drewN | apply below_drew1) | exact HB.out), by repeat (first | (with_reducible first | exact HK.out | apply Kept.alloc | apply Kept.drewN | apply Kept.drew) | exact HK.out)⟩

/-! ### laws_heldIntS: function 19 -/
def laws_heldIntS.l0 : Nat → List Int → Int → Int → Option (Int)
  | 0, _, _, _ => none
  | k + 1, x0, x1, x5 => if x5 < (x0.length : Int) then (if 0 ≤ x5 then (if (rd x0 x5) = x1 then (laws_heldIntS.l0 k x0 (wrap64 (x1 + 1)) (wrap64 (x5 + 1))) else (some (-1))) else (none)) else (some x1)
def laws_heldIntS.f (k : Nat) (l0 : List Int) (a1 : Int) : Option (Int) := laws_heldIntS.l0 k l0 a1 0
theorem laws_heldIntS.mono_l : ∀ k, (∀ y0 y1 y2, LeO (laws_heldIntS.l0 k y0 y1 y2) (laws_heldIntS.l0 (k + 1) y0 y1 y2))
  | 0 => fun _ _ _ r h => by simp [laws_heldIntS.l0] at h
  | k + 1 => by
    have ih0 := laws_heldIntS.mono_l k
    · intro y0 y1 y2
      unfold laws_heldIntS.l0
      repeat' first
      | (with_reducible exact ih0 _ _ _)
      | (with_reducible exact LeO.refl _)
      | (with_reducible exact LeO.none _)
      | (with_reducible refine LeO.ite ?_ ?_)
      | (with_reducible refine LeO.bind ?_ (fun _ => ?_))
      | exact ih0 _ _ _
      | exact LeO.none _
      | refine LeO.ite ?_ ?_
      | refine LeO.bind ?_ (fun _ => ?_)
theorem laws_heldIntS.mono : ∀ a0 a1 k, LeO (laws_heldIntS.f k a0 a1) (laws_heldIntS.f (k + 1) a0 a1) := by
  intro a0 a1 k
  have ih0 := laws_heldIntS.mono_l k
  unfold laws_heldIntS.f
  repeat' first
      | (with_reducible exact ih0 _ _ _)
      | (with_reducible exact LeO.refl _)
      | (with_reducible exact LeO.none _)
      | (with_reducible refine LeO.ite ?_ ?_)
      | (with_reducible refine LeO.bind ?_ (fun _ => ?_))
      | exact ih0 _ _ _
      | exact LeO.none _
      | refine LeO.ite ?_ ?_
      | refine LeO.bind ?_ (fun _ => ?_)
set_option maxHeartbeats 8000000 in
set_option maxRecDepth 100000 in
theorem laws_heldIntS.calls (k : Nat) (A0 : Option Addr) (c0 : Nat) (l0 : List Int) (a1 : Int) (r : Int) (w : World) (hr0 : Kd.C (Kd.int .i64) w A0 l0.length l0) (hc0 : l0.length ≤ c0) (h : laws_heldIntS.f k l0 a1 = some r) :
    Calls Try.prog 19 #[.slice A0 l0.length c0, .int .i64 a1] w fun e w' => e = .returned (.int .i64 r) ∧ Drawn0 w w' := by
  have HR0 := Aside0.mk hr0
  have HC0 := Aside0.mk hc0
  clear hr0 hc0
  have H : (laws_heldIntS.l0 k l0 a1 0) = some r := h
  clear h
  have H' := Aside0.mk H
  clear H
  go_enter Try.func19, Try.ntmps19
  go_wp2
  go_loopg [1, 5] k (fun kq v1 v5 w' => ∃ (x1_1 : Int) (x5_1 : Int), v1 = .int .i64 x1_1 ∧ v5 = .int .i64 x5_1 ∧ Aside0 (laws_heldIntS.l0 kq l0 x1_1 x5_1 = some r) ∧ Aside0 (kq ≤ k) ∧ Drawn0 w w')
  case atStart => exact ⟨(a1), (0), (by first | rfl | (simp; done) | (simp [*]; done)), (by first | rfl | (simp; done) | (simp [*]; done)), H', ⟨Nat.le_refl _⟩, by repeat (first | exact Drawn0.refl _ | apply Drawn0.step)⟩
  case round =>
    clear H'
    try clear c1
    try clear p2
    obtain ⟨x1_1, x5_1, rfl, rfl, HA, HK1, ⟨m1, rfl⟩⟩ := hrel
    cases gk with
    | zero => exact absurd HA.out (by simp [laws_heldIntS.l0])
    | succ k1 =>
      have H := HA.out
      clear HA
      simp only [laws_heldIntS.l0] at H
      by_cases c3 : x5_1 < (l0.length : Int)
      · rw [if_pos c3] at H
        have c3b0 : decide (x5_1 < (l0.length : Int)) = true := decide_eq_true c3
        clear c3
        by_cases c4 : 0 ≤ x5_1
        · rw [if_pos c4] at H
          have c4b0 : decide (0 ≤ x5_1) = true := decide_eq_true c4
          clear c4
          by_cases c5 : (rd l0 x5_1) = x1_1
          · rw [if_pos c5] at H
            have c5b0 : ((rd l0 x5_1) == x1_1) = true := beq_iff_eq.mpr c5
            have c5b1 : ((rd l0 x5_1) != x1_1) = false := bne_eq_false_iff_eq.mpr c5
            clear c5
            have H' := Aside0.mk H
            clear H
            have p169 : 0 ≤ (x5_1 : Int) := of_decide_eq_true (by first | (with_reducible assumption) | assumption)
            have q169 : x5_1 < (l0.length : Int) := of_decide_eq_true (by first | (with_reducible assumption) | assumption)
            obtain ⟨ad169, e169, hx169_0⟩ := Kd.at_int HR0.out x5_1 p169 q169
            cases e169
            replace p169 := eq_true p169
            replace q169 := eq_true q169
            go_wp2
            go_roundg k1
            case measure => have := HK1.out; omega
            case rel => exact ⟨(wrap64 (x1_1 + 1)), (wrap64 (x5_1 + 1)), (by first | rfl | (simp; done) | (simp [*]; done)), (by first | rfl | (simp; done) | (simp [*]; done)), H', ⟨by have := HK1.out; omega⟩, by repeat (first | exact Drawn0.refl _ | apply Drawn0.step)⟩
          · rw [if_neg c5] at H
            have c5b0 : ((rd l0 x5_1) == x1_1) = false := beq_eq_false_iff_ne.mpr c5
            have c5b1 : ((rd l0 x5_1) != x1_1) = true := bne_iff_ne.mpr c5
            obtain rfl := Option.some.inj H
            have p169 : 0 ≤ (x5_1 : Int) := of_decide_eq_true (by first | (with_reducible assumption) | assumption)
            have q169 : x5_1 < (l0.length : Int) := of_decide_eq_true (by first | (with_reducible assumption) | assumption)
            obtain ⟨ad169, e169, hx169_0⟩ := Kd.at_int HR0.out x5_1 p169 q169
            cases e169
            replace p169 := eq_true p169
            replace q169 := eq_true q169
            go_wp2
            go_ret
            exact ⟨by first | rfl | (simp; done) | (simp [*]; done), by repeat (first | exact Drawn0.refl _ | apply Drawn0.step)⟩
        · rw [if_neg c4] at H
          exact absurd H (by simp)
      · rw [if_neg c3] at H
        have c3b0 : decide (x5_1 < (l0.length : Int)) = false := decide_eq_false c3
        clear c3
        obtain rfl := Option.some.inj H
        go_wp2
        go_ret
        exact ⟨by first | rfl | (simp; done) | (simp [*]; done), by repeat (first | exact Drawn0.refl _ | apply Drawn0.step)⟩

end Go.Proofs.Ytcplfdfmebibpaa.MFnExactTrotterAt
