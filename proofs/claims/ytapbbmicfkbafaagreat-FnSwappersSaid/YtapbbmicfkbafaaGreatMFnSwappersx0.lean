import Derived.Test.YtapbbmicfkbafaaGreatProg
import Derived.Below
import Derived.Deep.Draws
import Derived.Deep.AppendLies
import Derived.Maps.AppendAt
import Derived.OwnWalk
import Derived.Laws.BytesArg
import Derived.Laws.MakeOwn
import Derived.Laws.OwnMore
import Derived.Deep.OwnRows
import Derived.Tactics
import Derived.Lib.ConvBytes
import Derived.Laws.Slices
import Derived.WalkKit
import Derived.KernelRfl
import Derived.RowKit3
import Derived.Deep.LoopGhost
import Derived.Deep.QuietTactic
import Derived.BigQuiet
import Derived.WideLaws
import Derived.Deep.DeepCutAuto
import Derived.Deep.CutBlock
import Derived.Deep.RegionHeld3
import Derived.Laws.Rows
import Derived.Lib.AppendStr
import Derived.ArgAppend
import Derived.Laws.IdiomCopy
import Derived.OrdersHeld
import Derived.Laws.BitsLemmas
import Derived.RowKit
import Derived.BigRegion
import Derived.ChangeAlike
import Derived.Test.YtapbbmicfkbafaaGreatFoW
import Derived.Test.YtapbbmicfkbafaaGreatSwW
import Derived.Test.YtapbbmicfkbafaaGreatSwL
import Derived.Test.YtapbbmicfkbafaaGreatStpW
import Derived.Shelf.Lay
import Derived.Shelf.Slices.Delete
import Derived.Lib.OwnBridge
import Derived.Shelf.Lay
import Derived.Shelf.Spec.SlicesInsert
import Derived.Shelf.Spec.SlicesInsertGrow
import Derived.Deep.OwnRows
import Derived.Shelf.SlIterI.Sorted
import Derived.Shelf.SortM.Plain
import Derived.Shelf.SortM.SortNone
import Derived.Ground.GgzProg
import Derived.Ground.SlgmProg
import Derived.Lib.OwnBridge
import Derived.Test.YtapbbmicfkbafaaGreatWWords
import Derived.Test.YtapbbmicfkbafaaGreatWLast
import Derived.Test.YtapbbmicfkbafaaGreatWTab
import Derived.Test.YtapbbmicfkbafaaGreatWFour
import Derived.Test.YtapbbmicfkbafaaGreatWQPut
import Derived.Test.YtapbbmicfkbafaaGreatWApart
import Derived.Test.YtapbbmicfkbafaaGreatWArr
import Derived.Test.YtapbbmicfkbafaaGreatWZeros
import Derived.Test.YtapbbmicfkbafaaGreatWFoot
import Derived.Test.YtapbbmicfkbafaaGreatWKept
import Derived.Test.YtapbbmicfkbafaaGreatWShare
import Derived.Test.YtapbbmicfkbafaaGreatWN
import Derived.Test.YtapbbmicfkbafaaGreatWFootNe
import Derived.Test.YtapbbmicfkbafaaGreatWAt
import Derived.Test.YtapbbmicfkbafaaGreatWEqStruct
import Derived.Test.YtapbbmicfkbafaaGreatWRepsOne
import Derived.Test.YtapbbmicfkbafaaGreatWInv
import Derived.Test.YtapbbmicfkbafaaGreatWInvWords
import Derived.Test.YtapbbmicfkbafaaGreatWGuard
import Derived.Test.YtapbbmicfkbafaaGreatWNEv
import Derived.Test.YtapbbmicfkbafaaGreatWMore
namespace Go.Proofs.YtapbbmicfkbafaaGreat.MFnSwappers
open Go.RowKit Go.Proofs.YtapbbmicfkbafaaGreatW.PrintWords Go.Proofs.YtapbbmicfkbafaaGreatW.PrintLast Go.Proofs.YtapbbmicfkbafaaGreatW.PrintMore
attribute [local go_sem] max2_int min2_int max_two min_two max_three min_three max_four min_four   
set_option linter.unusedVariables false
set_option linter.unusedSimpArgs false
def errW : Option Int → Value
 | none => .nilIface
 | some c => .iface 0 (.int .i64 c)
theorem errW_none : errW none = .nilIface := rfl
theorem errW_some (c : Int) : errW (some c) = .iface 0 (.int .i64 c) := rfl
theorem info3 : (Tryz.prog.info? 3).map (fun i => (i.zero, i.size, i.bytes)) = some (some (.int .i64 0), 1, 8) := by kernel_rfl
theorem info4 : (Tryz.prog.info? 4).map (fun i => (i.zero, i.size, i.bytes)) = some (some (.bool false), 1, 1) := by kernel_rfl
theorem lenEq {P : Program} {f : Nat} {A : Option Addr} {m m' c : Nat} {rest : List Value} {w : World} {Q : Ending → World → Prop} (h : m = m') (hc : Calls P f ((Value.slice A m c :: rest).toArray) w Q) : Calls P f ((Value.slice A m' c :: rest).toArray) w Q := h ▸ hc
theorem Yb {W w w1 : World} {g : Nat} {o : Obj} (hB : Aside0 (W.heap[g]? = some o)) (hb : Below w.heap.size w w1) (h : W.heap[g]? = some o → w.heap[g]? = some o := by intro hx_; (with_reducible repeat (first | refine blk_drewN ?_ _ | refine blk_drew ?_ | refine blk_alloc ?_ _)); exact hx_) : Aside0 (w1.heap[g]? = some o) := ⟨blk_below (h hB.out) hb⟩
theorem Yn {W w : World} {g g2 : Nat} {o : Obj} (hB : Aside0 (W.heap[g]? = some o)) (hg : g2 = w.heap.size) (h : W.heap[g]? = some o → w.heap[g]? = some o := by intro hx_; (with_reducible repeat (first | refine blk_drewN ?_ _ | refine blk_drew ?_ | refine blk_alloc ?_ _)); exact hx_) : Aside0 (g ≠ g2) := ⟨by rw [hg]; exact Nat.ne_of_lt (blk_lt (h hB.out))⟩
theorem Ym {W w : World} {g g2 : Nat} {o : Obj} (hB : Aside0 (W.heap[g]? = some o)) (hg : g2 = w.heap.size) (h : W.heap[g]? = some o → w.heap[g]? = some o := by intro hx_; (with_reducible repeat (first | refine blk_drewN ?_ _ | refine blk_drew ?_ | refine blk_alloc ?_ _)); exact hx_) : Aside0 (g2 ≠ g) := ⟨by rw [hg]; exact Nat.ne_of_gt (blk_lt (h hB.out))⟩
theorem Yg {w0 w : World} {g : Nat} (hg : g = w.heap.size) (h : Below w0.heap.size w0 w := by repeat (first | (with_reducible first | exact HB.out | apply below_alloc | apply pw_below_drewN | apply below_drew1 | refine below_set ?_ (Aside0.out (by assumption))) | exact HB.out)) : Aside0 (w0.heap.size ≤ g) := ⟨by rw [hg]; exact h.size⟩
theorem Yr {p q : Prop} (x : q) (h : q → p := by intro hx_; (with_reducible repeat (first | apply Kd.R_alloc | apply Kd.R_drewN | apply Kd.R_drew)); exact hx_) : p := h x
theorem Yk {p q : Prop} (x : q) (h : q → p := by intro hx_; (with_reducible repeat (first | refine blk_drewN ?_ _ | refine blk_drew ?_ | refine blk_alloc ?_ _)); exact hx_) : p := h x
theorem Yx {P : Program} {ops : Array Oper} {rest : List Oper} {o : Oper} {a : Act} {Q : Exit → Act → World → Prop} {W : World} (N : Tmp) (cs : Array Value) (t : TypeId) (h : ∀ g, g = W.heap.size → ∀ w1, w1.heap[g]? = some (.cells cs t (0, 0)) → Below W.heap.size W w1 → wpList P ops Q rest (a.put o.dst (.pointer (some ⟨g, 0, none⟩))) w1) (hg : o.guard = none := by rfl) (hd : o.dst = some N := by rfl) (hrun : (execOp a.eval o).run P W = .ok (.value (.pointer (some ⟨W.heap.size, 0, none⟩))) (W.alloc (.cells cs t (0, 0))) := by first | (go_simp; done) | (go_simp; rfl)) : wpList P ops Q (o :: rest) a W := box_event hg hd hrun h
theorem Yy {P : Program} {ops : Array Oper} {o : Oper} {a : Act} {Q : Exit → Act → World → Prop} {Kc : Act → World → Prop} {W : World} (N : Tmp) (cs : Array Value) (t : TypeId) (h : ∀ g, g = W.heap.size → ∀ w1, w1.heap[g]? = some (.cells cs t (0, 0)) → Below W.heap.size W w1 → Kc (a.put o.dst (.pointer (some ⟨g, 0, none⟩))) w1) (hw : Region.wanted o (yielded ops a.tmps) = true := by rfl) (hd : o.dst = some N := by rfl) (hrun : (execOp a.eval o).run P W = .ok (.value (.pointer (some ⟨W.heap.size, 0, none⟩))) (W.alloc (.cells cs t (0, 0))) := by first | (go_simp; done) | (go_simp; rfl)) : if Region.wanted o (yielded ops a.tmps) = true then Oper.wp P o a W Kc Q else Kc (a.put o.dst undef) W := box_step hw hd hrun h
theorem Y4 {w : World} {g t : Nat} {x0 x1 x2 x3 : Value} (h : w.heap[g]? = some (.cells #[x0, x1, x2, x3] t (0, 0))) : w.cell? ⟨g, 0, none⟩ = some x0 ∧ w.cell? ⟨g, 1, none⟩ = some x1 ∧ w.cell? ⟨g, 2, none⟩ = some x2 ∧ w.cell? ⟨g, 3, none⟩ = some x3 ∧ w.frozen? ⟨g, 0, none⟩ = false ∧ w.frozen? ⟨g, 1, none⟩ = false ∧ w.frozen? ⟨g, 2, none⟩ = false ∧ w.frozen? ⟨g, 3, none⟩ = false := ⟨(blk_cell h 0).trans rfl, (blk_cell h 1).trans rfl, (blk_cell h 2).trans rfl, (blk_cell h 3).trans rfl, blk_frozen h 0, blk_frozen h 1, blk_frozen h 2, blk_frozen h 3⟩
theorem Y6 {w : World} {g t : Nat} {x0 x1 x2 x3 x4 x5 : Value} (h : w.heap[g]? = some (.cells #[x0, x1, x2, x3, x4, x5] t (0, 0))) : w.cell? ⟨g, 0, none⟩ = some x0 ∧ w.cell? ⟨g, 1, none⟩ = some x1 ∧ w.cell? ⟨g, 2, none⟩ = some x2 ∧ w.cell? ⟨g, 3, none⟩ = some x3 ∧ w.cell? ⟨g, 4, none⟩ = some x4 ∧ w.cell? ⟨g, 5, none⟩ = some x5 ∧ w.frozen? ⟨g, 0, none⟩ = false ∧ w.frozen? ⟨g, 1, none⟩ = false ∧ w.frozen? ⟨g, 2, none⟩ = false ∧ w.frozen? ⟨g, 3, none⟩ = false ∧ w.frozen? ⟨g, 4, none⟩ = false ∧ w.frozen? ⟨g, 5, none⟩ = false := ⟨(blk_cell h 0).trans rfl, (blk_cell h 1).trans rfl, (blk_cell h 2).trans rfl, (blk_cell h 3).trans rfl, (blk_cell h 4).trans rfl, (blk_cell h 5).trans rfl, blk_frozen h 0, blk_frozen h 1, blk_frozen h 2, blk_frozen h 3, blk_frozen h 4, blk_frozen h 5⟩
theorem Yc {p q : Prop} (x : q) (h : q → p := by intro hx_; repeat (first | exact hx_ | (with_reducible refine Kd.C_alloc ?_ _) | (with_reducible refine Kd.C_drewN ?_ _) | (with_reducible refine Kd.C_drew ?_))) : p := h x
theorem Ya {p : Prop} (h : p) : Aside0 p := ⟨h⟩
theorem Yp {T : Bool × List (List Nat × List Nat)} {P : Program} {ops : Array Oper} {Q : Exit → Act → World → Prop} {S : World → Prop} {ds : List Nat} {oi : Oper} {v : Value} {fuel : Nat} {l : Array Bool} {a : Act} {w : World} {md : Region.Mode} {a' : Act} (i : Nat) (N : Option Tmp) (l' : Array Bool) (hi : ops[i]? = some oi) (hT : rtab md ops = T) (h : wpAnyLast P md ops Q S ds fuel l' a' w) (hN : oi.dst = N := by rfl) (hc : anyT T l.toList l'.toList i = true := by kernel_rfl) (hy : Yields P ops oi v a := by exact Or.inl ⟨by rfl, by intro w'; go_simp; with_reducible rfl⟩) (hQ : ∀ c a w, Q (.panic c) (a.put oi.dst v) w → Q (.panic c) a w := by exact fun _ _ _ h => h) (ha : a.put N v = a' := by simp only [Act.put, List.setIfInBounds_toArray, List.set_cons_zero, List.set_cons_succ, i64_w, i32_w]; rfl) : wpAnyLast P md ops Q S ds (fuel + 1) l a w := pure_ l' hi hN (any_of hT hc) hQ hy ha h
theorem Yq {P : Program} {ops : Array Oper} {Q : Exit → Act → World → Prop} {S : World → Prop} {ds : List Nat} {oi : Oper} {v : Value} {fuel : Nat} {l : Array Bool} {a : Act} {w : World} {md : Region.Mode} {a' : Act} (i : Nat) (N : Option Tmp) (l' : Array Bool) (hi : ops[i]? = some oi) (h : wpAnyLast P md ops Q S ds fuel l' a' w) (hN : oi.dst = N := by rfl) (hc : anyB md ops l l' i = true := by kernel_rfl) (hy : Yields P ops oi v a := by exact Or.inl ⟨by rfl, by intro w'; go_simp; with_reducible rfl⟩) (hQ : ∀ c a w, Q (.panic c) (a.put oi.dst v) w → Q (.panic c) a w := by exact fun _ _ _ h => h) (ha : a.put N v = a' := by simp only [Act.put, List.setIfInBounds_toArray, List.set_cons_zero, List.set_cons_succ, i64_w, i32_w]; rfl) : wpAnyLast P md ops Q S ds (fuel + 1) l a w := pure_ l' hi hN hc hQ hy ha h
theorem Yu {P : Program} {ops : Array Oper} {Q : Exit → Act → World → Prop} {S : World → Prop} {ds : List Nat} {oi : Oper} {fuel : Nat} {l : Array Bool} {a : Act} {w : World} {md : Region.Mode} {a' : Act} (i : Nat) (N : Option Tmp) (l' : Array Bool) (hi : ops[i]? = some oi) (h : wpAnyLast P md ops Q S ds fuel l' a' w) (hN : oi.dst = N := by rfl) (hc : anyB md ops l l' i = true := by kernel_rfl) (hy : Yields P ops oi undef a := by exact Or.inr ⟨by rfl, rfl⟩) (hQ : ∀ c a w, Q (.panic c) (a.put oi.dst undef) w → Q (.panic c) a w := by exact fun _ _ _ h => h) (ha : a.put N undef = a' := by simp only [Act.put, List.setIfInBounds_toArray, List.set_cons_zero, List.set_cons_succ, i64_w, i32_w]; rfl) : wpAnyLast P md ops Q S ds (fuel + 1) l a w := pure_ l' hi hN hc hQ hy ha h
theorem YU {T : Bool × List (List Nat × List Nat)} {P : Program} {ops : Array Oper} {Q : Exit → Act → World → Prop} {S : World → Prop} {ds : List Nat} {oi : Oper} {fuel : Nat} {l : Array Bool} {a : Act} {w : World} {md : Region.Mode} {a' : Act} (i : Nat) (N : Option Tmp) (l' : Array Bool) (hi : ops[i]? = some oi) (hT : rtab md ops = T) (h : wpAnyLast P md ops Q S ds fuel l' a' w) (hc : anyT T l.toList l'.toList i = true := by kernel_rfl) (hy : Yields P ops oi undef a := by exact Or.inr ⟨by rfl, rfl⟩) (hN : oi.dst = N := by rfl) (hQ : ∀ c a w, Q (.panic c) (a.put oi.dst undef) w → Q (.panic c) a w := by exact fun _ _ _ h => h) (ha : a.put N undef = a' := by simp only [Act.put, List.setIfInBounds_toArray, List.set_cons_zero, List.set_cons_succ, i64_w, i32_w]; rfl) : wpAnyLast P md ops Q S ds (fuel + 1) l a w := pure_ l' hi hN (any_of hT hc) hQ hy ha h
theorem Yt {T : Bool × List (List Nat × List Nat)} {B : List Nat} {P : Program} {ops : Array Oper} {Q : Exit → Act → World → Prop} {S : World → Prop} {ds : List Nat} {oi : Oper} {v : Value} {fuel : Nat} {l : Array Bool} {a : Act} {w : World} {md : Region.Mode} {a' : Act} (i : Nat) (N : Option Tmp) (l' : Array Bool) (hi : ops[i]? = some oi) (hT : rtab md ops = T) (hB : waitsOk T.2 B = true) (hS : S w) (hy : YieldsIf P ops S oi v a) (h : wpAnyLast P md ops Q S ds fuel l' a' w) (hN : oi.dst = N := by rfl) (hc : takeW T B ds l.toList l'.toList i = true := by kernel_rfl) (hQ : ∀ c a w, Q (.panic c) (a.put oi.dst v) w → Q (.panic c) a w := by exact fun _ _ _ h => h) (ha : a.put N v = a' := by simp only [Act.put, List.setIfInBounds_toArray, List.set_cons_zero, List.set_cons_succ, i64_w, i32_w]; rfl) : wpAnyLast P md ops Q S ds (fuel + 1) l a w := take_ l' hi hN (take_ofW hT hB hc) hQ hy hS ha h
theorem Ys {P : Program} {ops : Array Oper} {Q : Exit → Act → World → Prop} {S : World → Prop} {ds : List Nat} {oi : Oper} {v : Value} {fuel : Nat} {l : Array Bool} {a : Act} {w : World} {md : Region.Mode} {a' : Act} (i : Nat) (N : Option Tmp) (l' : Array Bool) (hi : ops[i]? = some oi) (hS : S w) (hy : YieldsIf P ops S oi v a) (h : wpAnyLast P md ops Q S ds fuel l' a' w) (hN : oi.dst = N := by rfl) (hc : takeB md ops ds l l' i = true := by kernel_rfl) (hQ : ∀ c a w, Q (.panic c) (a.put oi.dst v) w → Q (.panic c) a w := by exact fun _ _ _ h => h) (ha : a.put N v = a' := by simp only [Act.put, List.setIfInBounds_toArray, List.set_cons_zero, List.set_cons_succ, i64_w, i32_w]; rfl) : wpAnyLast P md ops Q S ds (fuel + 1) l a w := take_ l' hi hN hc hQ hy hS ha h
def YA (n m : Nat) : Array Bool := ⟨(List.range n).map m.testBit⟩
theorem Yh {w w' w2 : World} (k : Below w'.heap.size w' w2) (h : Below w.heap.size w w' := by repeat (first | (with_reducible first | exact HB.out | apply below_alloc | apply pw_below_drewN | apply below_drew1 | refine below_set ?_ (Aside0.out (by assumption))) | exact HB.out)) : Aside0 (Below w.heap.size w w2) := ⟨below_step h k⟩
theorem Yl {α : Type} {d : Kd α} {e : Nat} {ok : Nat → Prop} {w w0 W : World} {v : Value} {xs : List α} (x : d.R e w W.heap.size ok v xs) (h : Below w0.heap.size w0 W := by repeat (first | (with_reducible first | exact HB.out | apply below_alloc | apply pw_below_drewN | apply below_drew1 | refine below_set ?_ (Aside0.out (by assumption))) | exact HB.out)) : Aside0 (d.R e w w0.heap.size ok v xs) := ⟨Kd.R_lower x h.size⟩
theorem Yw {α : Type} {d : Kd α} {e base : Nat} {ok : Nat → Prop} {w W w1 : World} {v : Value} {xs : List α} (x : Aside0 (d.R e W base ok v xs)) (hb : Below w.heap.size w w1) (h : d.R e W base ok v xs → d.R e w base ok v xs := by intro hx_; (with_reducible repeat (first | apply Kd.R_alloc | apply Kd.R_drewN | apply Kd.R_drew)); exact hx_) : Aside0 (d.R e w1 base ok v xs) := ⟨Kd.R_below (h x.out) hb⟩
theorem Yf4 {α : Type} {d : Kd α} {e base g t : Nat} {ok : Nat → Prop} {w : World} {v : Value} {xs : List α} {cells : Array Value} {x0 x1 x2 x3 : Value} (h : d.R e w base ok v xs) (hb : w.heap[g]? = some (.cells cells t (0, 0))) (ht : ∀ q, q ∈ e :: d.E → q ≠ t := by decide) : d.R e ((((w.setCell ⟨g, 0, none⟩ x0).setCell ⟨g, 1, none⟩ x1).setCell ⟨g, 2, none⟩ x2).setCell ⟨g, 3, none⟩ x3) base (fun k => ok k ∧ k ≠ g) v xs := (Kd.R_far (p := ⟨g, 3, none⟩) (Kd.R_far (p := ⟨g, 2, none⟩) (Kd.R_far (p := ⟨g, 1, none⟩) (Kd.R_far (p := ⟨g, 0, none⟩) (Kd.R_types h hb ht) (fun _ hk => hk.2) x0) (fun _ hk => hk.2) x1) (fun _ hk => hk.2) x2) (fun _ hk => hk.2) x3)
theorem Yo4 {w : World} {g g' t : Nat} {cs : Array Value} {x0 x1 x2 x3 : Value} (h : w.heap[g]? = some (.cells cs t (0, 0))) (hn : g ≠ g') : ((((w.setCell ⟨g', 0, none⟩ x0).setCell ⟨g', 1, none⟩ x1).setCell ⟨g', 2, none⟩ x2).setCell ⟨g', 3, none⟩ x3).heap[g]? = some (.cells cs t (0, 0)) := (blk_far (blk_far (blk_far (blk_far h hn x0) hn x1) hn x2) hn x3)
theorem Yf6 {α : Type} {d : Kd α} {e base g t : Nat} {ok : Nat → Prop} {w : World} {v : Value} {xs : List α} {cells : Array Value} {x0 x1 x2 x3 x4 x5 : Value} (h : d.R e w base ok v xs) (hb : w.heap[g]? = some (.cells cells t (0, 0))) (ht : ∀ q, q ∈ e :: d.E → q ≠ t := by decide) : d.R e ((((((w.setCell ⟨g, 0, none⟩ x0).setCell ⟨g, 1, none⟩ x1).setCell ⟨g, 2, none⟩ x2).setCell ⟨g, 3, none⟩ x3).setCell ⟨g, 4, none⟩ x4).setCell ⟨g, 5, none⟩ x5) base (fun k => ok k ∧ k ≠ g) v xs := (Kd.R_far (p := ⟨g, 5, none⟩) (Kd.R_far (p := ⟨g, 4, none⟩) (Kd.R_far (p := ⟨g, 3, none⟩) (Kd.R_far (p := ⟨g, 2, none⟩) (Kd.R_far (p := ⟨g, 1, none⟩) (Kd.R_far (p := ⟨g, 0, none⟩) (Kd.R_types h hb ht) (fun _ hk => hk.2) x0) (fun _ hk => hk.2) x1) (fun _ hk => hk.2) x2) (fun _ hk => hk.2) x3) (fun _ hk => hk.2) x4) (fun _ hk => hk.2) x5)
theorem Yo6 {w : World} {g g' t : Nat} {cs : Array Value} {x0 x1 x2 x3 x4 x5 : Value} (h : w.heap[g]? = some (.cells cs t (0, 0))) (hn : g ≠ g') : ((((((w.setCell ⟨g', 0, none⟩ x0).setCell ⟨g', 1, none⟩ x1).setCell ⟨g', 2, none⟩ x2).setCell ⟨g', 3, none⟩ x3).setCell ⟨g', 4, none⟩ x4).setCell ⟨g', 5, none⟩ x5).heap[g]? = some (.cells cs t (0, 0)) := (blk_far (blk_far (blk_far (blk_far (blk_far (blk_far h hn x0) hn x1) hn x2) hn x3) hn x4) hn x5)
theorem Yz {P : Program} {ops : Array Oper} {Q : Exit → Act → World → Prop} {rest : List Oper} {oi : Oper} {a : Act} {w : World} (N : Tmp) {f : FuncId} {fn : Func} {asq : Array Operand} {ts : Array TypeId} (hf : P.funcs[f]? = some fn) (args : Array Value) (h : Calls P f args w fun e w' => ∃ v, e = .returned v ∧ wpList P ops Q rest (a.put (some N) v) w') (hd : oi.dst = some N := by exact rfl) (hg : oi.guard = none := by exact rfl) (hop : oi.op = .call { callee := .value (.func f), args := asq, argTypes := ts } := by exact rfl) (hname : (fn.name == "runtime.NumGoroutine") = false := by kernel_rfl) (hb : fn.body.isSome = true := by exact rfl) (hargs : asq.map a.eval = args := by (try simp only [List.map_toArray, List.map_cons, List.map_nil]); first | done | rfl | (simp only [List.length_drop, List.length_take]; rfl)) : wpList P ops Q (oi :: rest) a w := goesL_ (some N) hd hg hf hname hb args hop hargs h
theorem Yj {α : Type} {d : Kd α} {e base : Nat} {ok ok' : Nat → Prop} {w W : World} {v : Value} {xs : List α} (x : d.R e W base ok v xs) (hok : ∀ k, ok k → ok' k) (h : d.R e W base ok' v xs → d.R e w base ok' v xs := by intro hx_; (with_reducible repeat (first | apply Kd.R_alloc | apply Kd.R_drewN | apply Kd.R_drew)); exact hx_) : d.R e w base ok' v xs := h (Kd.R_mono x hok)
theorem Yz4 {w : World} {g t : Nat} {x0 x1 x2 x3 : Value} (h : w.heap[g]? = some (.cells #[x0, x1, x2, x3] t (0, 0))) : w.cell? ⟨g, 0, none⟩ = some x0 ∧ w.cell? ⟨g, 1, none⟩ = some x1 ∧ w.cell? ⟨g, 2, none⟩ = some x2 ∧ w.cell? ⟨g, 3, none⟩ = some x3 := ⟨(blk_cell h 0).trans rfl, (blk_cell h 1).trans rfl, (blk_cell h 2).trans rfl, (blk_cell h 3).trans rfl⟩
theorem Yz6 {w : World} {g t : Nat} {x0 x1 x2 x3 x4 x5 : Value} (h : w.heap[g]? = some (.cells #[x0, x1, x2, x3, x4, x5] t (0, 0))) : w.cell? ⟨g, 0, none⟩ = some x0 ∧ w.cell? ⟨g, 1, none⟩ = some x1 ∧ w.cell? ⟨g, 2, none⟩ = some x2 ∧ w.cell? ⟨g, 3, none⟩ = some x3 ∧ w.cell? ⟨g, 4, none⟩ = some x4 ∧ w.cell? ⟨g, 5, none⟩ = some x5 := ⟨(blk_cell h 0).trans rfl, (blk_cell h 1).trans rfl, (blk_cell h 2).trans rfl, (blk_cell h 3).trans rfl, (blk_cell h 4).trans rfl, (blk_cell h 5).trans rfl⟩
theorem Yv4 {w : World} {g t : Nat} {x0 x1 x2 x3 y0 y1 y2 y3 : Value} (h : w.heap[g]? = some (.cells #[y0, y1, y2, y3] t (0, 0))) : ((((w.setCell ⟨g, 0, none⟩ x0).setCell ⟨g, 1, none⟩ x1).setCell ⟨g, 2, none⟩ x2).setCell ⟨g, 3, none⟩ x3).heap[g]? = some (.cells #[x0, x1, x2, x3] t (0, 0)) := (blk_set (blk_set (blk_set (blk_set h 0 x0) 1 x1) 2 x2) 3 x3)
abbrev YN4 : Array Value := #[.slice none 0 0, .slice none 0 0, .slice none 0 0, .slice none 0 0]
theorem Yv6 {w : World} {g t : Nat} {x0 x1 x2 x3 x4 x5 y0 y1 y2 y3 y4 y5 : Value} (h : w.heap[g]? = some (.cells #[y0, y1, y2, y3, y4, y5] t (0, 0))) : ((((((w.setCell ⟨g, 0, none⟩ x0).setCell ⟨g, 1, none⟩ x1).setCell ⟨g, 2, none⟩ x2).setCell ⟨g, 3, none⟩ x3).setCell ⟨g, 4, none⟩ x4).setCell ⟨g, 5, none⟩ x5).heap[g]? = some (.cells #[x0, x1, x2, x3, x4, x5] t (0, 0)) := (blk_set (blk_set (blk_set (blk_set (blk_set (blk_set h 0 x0) 1 x1) 2 x2) 3 x3) 4 x4) 5 x5)
abbrev YN6 : Array Value := #[.slice none 0 0, .slice none 0 0, .slice none 0 0, .slice none 0 0, .slice none 0 0, .slice none 0 0]
theorem Yd6 {α : Type} {d : Kd α} {e base g g' t t' : Nat} {ok : Nat → Prop} {w : World} {v : Value} {xs : List α} {cells cells' : Array Value} {x0 y0 x1 y1 x2 y2 x3 y3 x4 y4 x5 y5 : Value} (h : d.R e w base ok v xs) (hb : w.heap[g]? = some (.cells cells t (0, 0))) (hb' : w.heap[g']? = some (.cells cells' t' (0, 0))) (ht : ∀ q, q ∈ e :: d.E → q ≠ t := by decide) (ht' : ∀ q, q ∈ e :: d.E → q ≠ t' := by decide) : d.R e ((((((((((((w.setCell ⟨g, 0, none⟩ x0).setCell ⟨g, 1, none⟩ x1).setCell ⟨g, 2, none⟩ x2).setCell ⟨g, 3, none⟩ x3).setCell ⟨g, 4, none⟩ x4).setCell ⟨g, 5, none⟩ x5).setCell ⟨g', 0, none⟩ y0).setCell ⟨g', 1, none⟩ y1).setCell ⟨g', 2, none⟩ y2).setCell ⟨g', 3, none⟩ y3).setCell ⟨g', 4, none⟩ y4).setCell ⟨g', 5, none⟩ y5) base (fun k => (ok k ∧ k ≠ g) ∧ k ≠ g') v xs := (Kd.R_far (p := ⟨g', 5, none⟩) (Kd.R_far (p := ⟨g', 4, none⟩) (Kd.R_far (p := ⟨g', 3, none⟩) (Kd.R_far (p := ⟨g', 2, none⟩) (Kd.R_far (p := ⟨g', 1, none⟩) (Kd.R_far (p := ⟨g', 0, none⟩) (Kd.R_far (p := ⟨g, 5, none⟩) (Kd.R_far (p := ⟨g, 4, none⟩) (Kd.R_far (p := ⟨g, 3, none⟩) (Kd.R_far (p := ⟨g, 2, none⟩) (Kd.R_far (p := ⟨g, 1, none⟩) (Kd.R_far (p := ⟨g, 0, none⟩) (Kd.R_types (Kd.R_types h hb ht) hb' ht') (fun _ hk => hk.1.2) x0) (fun _ hk => hk.1.2) x1) (fun _ hk => hk.1.2) x2) (fun _ hk => hk.1.2) x3) (fun _ hk => hk.1.2) x4) (fun _ hk => hk.1.2) x5) (fun _ hk => hk.2) y0) (fun _ hk => hk.2) y1) (fun _ hk => hk.2) y2) (fun _ hk => hk.2) y3) (fun _ hk => hk.2) y4) (fun _ hk => hk.2) y5)
theorem Yd4 {α : Type} {d : Kd α} {e base g g' t t' : Nat} {ok : Nat → Prop} {w : World} {v : Value} {xs : List α} {cells cells' : Array Value} {x0 y0 x1 y1 x2 y2 x3 y3 : Value} (h : d.R e w base ok v xs) (hb : w.heap[g]? = some (.cells cells t (0, 0))) (hb' : w.heap[g']? = some (.cells cells' t' (0, 0))) (ht : ∀ q, q ∈ e :: d.E → q ≠ t := by decide) (ht' : ∀ q, q ∈ e :: d.E → q ≠ t' := by decide) : d.R e ((((((((w.setCell ⟨g, 0, none⟩ x0).setCell ⟨g, 1, none⟩ x1).setCell ⟨g, 2, none⟩ x2).setCell ⟨g, 3, none⟩ x3).setCell ⟨g', 0, none⟩ y0).setCell ⟨g', 1, none⟩ y1).setCell ⟨g', 2, none⟩ y2).setCell ⟨g', 3, none⟩ y3) base (fun k => (ok k ∧ k ≠ g) ∧ k ≠ g') v xs := (Kd.R_far (p := ⟨g', 3, none⟩) (Kd.R_far (p := ⟨g', 2, none⟩) (Kd.R_far (p := ⟨g', 1, none⟩) (Kd.R_far (p := ⟨g', 0, none⟩) (Kd.R_far (p := ⟨g, 3, none⟩) (Kd.R_far (p := ⟨g, 2, none⟩) (Kd.R_far (p := ⟨g, 1, none⟩) (Kd.R_far (p := ⟨g, 0, none⟩) (Kd.R_types (Kd.R_types h hb ht) hb' ht') (fun _ hk => hk.1.2) x0) (fun _ hk => hk.1.2) x1) (fun _ hk => hk.1.2) x2) (fun _ hk => hk.1.2) x3) (fun _ hk => hk.2) y0) (fun _ hk => hk.2) y1) (fun _ hk => hk.2) y2) (fun _ hk => hk.2) y3)
theorem YB {α β : Type} {o : Option α} {f : α → Option β} {r : β} (h : o.bind f = some r) : ∃ a, Aside0 (o = some a) ∧ f a = some r := by
 obtain ⟨a, h1, h2⟩ := Option.bind_eq_some_iff.mp h
 exact ⟨a, ⟨h1⟩, h2⟩
theorem YC {β : Type} {b : Bool} {x y : Option β} {r : β} (h : (if b = true then x else y) = some r) : (b = true ∧ x = some r) ∨ (b = false ∧ y = some r) := by
 cases b
 · exact .inr ⟨rfl, by rw [if_neg (show ¬ (false = true) by decide)] at h; exact h⟩
 · exact .inl ⟨rfl, by rw [if_pos rfl] at h; exact h⟩
theorem YE {α : Type} {d : Kd α} {e base : Nat} {ok : Nat → Prop} {W W1 w1 : World} {v : Value} {xs : List α} {β : Type} {d2 : Kd β} {e2 : Nat} {ok2 : Nat → Prop} {u : Value} {ys : List β} (x : Aside0 (d.R e W base ok v xs)) (y : d2.R e2 w1 W1.heap.size ok2 u ys) (hb : Below W1.heap.size W1 w1) (h : d.R e W base ok v xs → d.R e W1 base ok v xs := by intro hx_; (with_reducible repeat (first | apply Kd.R_alloc | apply Kd.R_drewN | apply Kd.R_drew)); exact hx_) : Aside0 (d.R e w1 base (fun k => ok k ∧ some k ≠ u.ownBlock) v xs) := ⟨Kd.R_elder' (h x.out) (Kd.R_base y) hb⟩
theorem YO {α : Type} {d : Kd α} {e base : Nat} {ok : Nat → Prop} {W W1 w1 : World} {v : Value} {xs : List α} (x : Aside0 (d.R e W base ok v xs)) (hb : Below W1.heap.size W1 w1) (h : d.R e W base ok v xs → d.R e W1 base ok v xs := by intro hx_; (with_reducible repeat (first | apply Kd.R_alloc | apply Kd.R_drewN | apply Kd.R_drew)); exact hx_) : d.R e w1 base (fun k => ok k ∧ k < W1.heap.size) v xs := Kd.R_old (h x.out) hb
theorem YT {α : Type} {d : Kd α} {e base N' : Nat} {ok : Nat → Prop} {w1 w2 : World} {v : Value} {xs : List α} {β : Type} {d2 : Kd β} {e2 : Nat} {ok2 : Nat → Prop} {u : Value} {ys : List β} (x : d.R e w1 base (fun k => ok k ∧ k < N') v xs) (y : d2.R e2 w2 N' ok2 u ys) : d.R e w1 base (fun k => (ok k ∧ some k ≠ u.ownBlock) ∧ k < N') v xs := Kd.R_told x (Kd.R_base y)
theorem YM {α : Type} {d : Kd α} {e base N' : Nat} {ok : Nat → Prop} {w1 : World} {v : Value} {xs : List α} (x : d.R e w1 base (fun k => ok k ∧ k < N') v xs) : Aside0 (d.R e w1 base ok v xs) := ⟨Kd.R_mono x (fun _ h_ => h_.1)⟩
theorem YX {α : Type} {d : Kd α} {e base n c : Nat} {ok : Nat → Prop} {W : World} {A : Option Addr} {xs : List α} {p : Prop} (x : Aside0 (d.R e W base ok (.slice A n c) xs)) (h : d.C W A xs.length xs → p := by intro hx_; repeat (first | exact hx_ | (with_reducible refine Kd.C_alloc ?_ _) | (with_reducible refine Kd.C_drewN ?_ _) | (with_reducible refine Kd.C_drew ?_))) : p := h (Kd.R_reads' x.out).2.2
theorem YL {α : Type} {d : Kd α} {e base n c : Nat} {ok : Nat → Prop} {W : World} {A : Option Addr} {xs : List α} (x : Aside0 (d.R e W base ok (.slice A n c) xs)) : n ≤ c := (Kd.R_reads' x.out).2.1
theorem YW {α : Type} {d : Kd α} {e base2 : Nat} {ok : Nat → Prop} {W W1 w1 : World} {v : Value} {xs : List α} {β : Type} {d2 : Kd β} {e2 : Nat} {ok2 : Nat → Prop} {u : Value} {ys : List β} (y : d.R e w1 W.heap.size ok v xs) (x : Aside0 (d2.R e2 W1 base2 ok2 u ys)) (h : d2.R e2 W1 base2 ok2 u ys → d2.R e2 W base2 ok2 u ys := by intro hx_; (with_reducible repeat (first | apply Kd.R_alloc | apply Kd.R_drewN | apply Kd.R_drew)); exact hx_) : d.R e w1 W.heap.size (fun k => ok k ∧ some k ≠ u.ownBlock) v xs := Kd.R_new' y (Kd.R_lt (h x.out))
theorem Z0 : type_of% @List.setIfInBounds_toArray := @List.setIfInBounds_toArray
theorem Z1 : type_of% @List.set_cons_zero := @List.set_cons_zero
theorem Z2 : type_of% @List.set_cons_succ := @List.set_cons_succ
theorem Z3 : type_of% @pw_below_drewN := @pw_below_drewN
theorem Z4 : type_of% @below_drew1 := @below_drew1
theorem Z5 : type_of% @below_alloc := @below_alloc
theorem Z6 : type_of% @below_set := @below_set
theorem Z7 : type_of% @below_size := @below_size
theorem Z8 : type_of% @below_step := @below_step
theorem Z9 : type_of% @Kd.R_alloc := @Kd.R_alloc
theorem Z10 : type_of% @Kd.R_drewN := @Kd.R_drewN
theorem Z11 : type_of% @Kd.R_drew := @Kd.R_drew
theorem Z12 : type_of% @Kd.R_mono := @Kd.R_mono
theorem Z13 : type_of% @Kd.R_below := @Kd.R_below
theorem Z14 : type_of% @Kd.R_lt := @Kd.R_lt
theorem Z15 : type_of% @Kd.R_slice := @Kd.R_slice
theorem Z16 : type_of% @Kd.C_alloc := @Kd.C_alloc
theorem Z17 : type_of% @Kd.C_drewN := @Kd.C_drewN
theorem Z18 : type_of% @Kd.C_drew := @Kd.C_drew
theorem Z19 : type_of% @Kd.C_below := @Kd.C_below
theorem Z20 : type_of% @blk_cell := @blk_cell
theorem Z21 : type_of% @blk_frozen := @blk_frozen
theorem Z22 : type_of% @blk_drewN := @blk_drewN
theorem Z23 : type_of% @blk_drew := @blk_drew
theorem Z24 : type_of% @blk_alloc := @blk_alloc
theorem Z25 : type_of% @blk_below := @blk_below
theorem Z26 : type_of% @blk_put := @blk_put
theorem Z27 : type_of% @of_decide_eq_true := @of_decide_eq_true
theorem Z28 : type_of% @List.length_drop := @List.length_drop
theorem Z29 : type_of% @List.length_take := @List.length_take
theorem Z30 : type_of% @List.map_toArray := @List.map_toArray
theorem Z31 : type_of% @List.map_cons := @List.map_cons
theorem Z32 : type_of% @List.map_nil := @List.map_nil
theorem Z33 : type_of% @Option.bind_eq_some_iff := @Option.bind_eq_some_iff
theorem Z34 : type_of% @decide_eq_false := @decide_eq_false
theorem Z35 : type_of% @decide_eq_true := @decide_eq_true
theorem Qm0 {p q : Prop} (x : q) (h : q → p := by intro hx_; (with_reducible repeat (first | apply FoV.drewN | apply FoV.drew)); exact hx_) : p := h x
theorem Qm1 {p q : Prop} (x : q) (h : q → p := by intro hx_; (with_reducible repeat (first | apply SwV.drewN | apply SwV.drew)); exact hx_) : p := h x
theorem Qm2 {p q : Prop} (x : q) (h : q → p := by intro hx_; (with_reducible repeat (first | apply P5.drewN | apply P5.drew)); exact hx_) : p := h x
theorem Q0 {p : Prop} (h : p := by repeat (first | (with_reducible first | exact HB.out | apply Z5 | apply Z3 | apply Z4 | refine Z6 ?_ (Aside0.out (by assumption))) | exact HB.out)) : p := h
theorem Q1 {p : Prop} (h : p := by repeat (first | (with_reducible first | exact HI0.out | apply IsS66.alloc | apply IsS66.drewN | apply IsS66.drew | apply IsS66.set_1 | apply IsS66.set_2) | exact HI0.out)) : p := h
theorem Q2 {p : Prop} (h : p := by first | rfl | (simp [errW_none, errW_some] <;> rfl) | (simp [*, errW_none, errW_some] <;> rfl)) : p := h
theorem Q3 {p : Prop} (h : p := by first | exact Kd.R_nil _ _ _ _ _ | exact Kd.N_nil _ _ _ _ _ | exact Kd.V_nil _ _ _ _ _ | exact Kd.Q_nil _ _ _ _ _ | exact Kd.S_nil _ _ _ _ _) : p := h
theorem Q4 {p : Prop} (h : p := by repeat (first | (with_reducible first | exact HK.out | apply KeepBut.set_ | apply keep_drewN | apply keep_drew | apply keep_alloc) | exact HK.out)) : p := h
theorem Q5 {p : Prop} (h : p := by first | (with_reducible assumption) | assumption) : p := h
theorem Q6 {p : Prop} (h : p := by repeat (first | (with_reducible first | exact HB.out | apply Z5 | apply Z3 | apply Z4 | refine Z6 ?_ (IsS66.ge HI0.out)) | exact HB.out)) : p := h
theorem Q7 {p : Prop} (h : p := by repeat (first | (with_reducible first | exact HS.out | apply FS.drewN | apply FS.drew) | exact HS.out)) : p := h
theorem Q8 {p : Prop} (h : p := by exact Or.inl ⟨by rfl, by rintro w' ⟨s0, s1, s2, s3⟩; go_simp; with_reducible rfl⟩) : p := h
theorem Q9 {p : Prop} (h : p := by first | (simp only [putAll, Act.put, Z0, Z1, Z2]; done) | (simp only [putAll, Act.put, Z0, Z1, Z2]; rfl)) : p := h
theorem Q10 {p : Prop} (h : p := by repeat (first | (with_reducible first | exact HS.out | apply FOp.drewN | apply FOp.drew) | exact HS.out)) : p := h
theorem Q11 {p : Prop} (h : p := by repeat (first | (with_reducible first | exact HC.out | apply CX.drewN | apply CX.drew) | exact HC.out)) : p := h
theorem Q12 {p : Prop} (h : p := by repeat (first | (with_reducible first | exact HB.out | apply Z5 | apply Z3 | apply Z4 | refine Z6 ?_ (Aside0.out (by assumption))) | exact HB.out)) : p := h
theorem Q13 {p : Prop} (h : p := by repeat (first | (with_reducible first | exact HI0.out | apply IsS66.alloc | apply IsS66.drewN | apply IsS66.drew | apply IsS66.set_1 | apply IsS66.set_2) | exact HI0.out)) : p := h
theorem Q14 {p : Prop} (h : p := by repeat (first | (with_reducible first | exact HK.out | apply KeepBut.set_ | apply keep_drewN | apply keep_drew | apply keep_alloc) | exact HK.out)) : p := h
theorem Q15 {p : Prop} (h : p := by repeat (first | (with_reducible first | exact HB.out | apply Z5 | apply Z3 | apply Z4 | refine Z6 ?_ (IsS66.ge HI0.out)) | exact HB.out)) : p := h
theorem Q16 {p : Prop} (h : p := by repeat (first | exact Drawn0.refl _ | apply Drawn0.step)) : p := h
theorem Q17 {p : Prop} (h : p := by first | rfl | (simp; done) | (simp [*]; done)) : p := h
theorem Q18 {p : Prop} (h : p := by repeat (first | (with_reducible first | exact HS.out | apply SS.drewN | apply SS.drew) | exact HS.out)) : p := h
theorem Q19 {p : Prop} (h : p := by (try simp only [Z30, Z31, Z32]); first | done | rfl) : p := h
theorem Q20 {p : Prop} (h : p := by (try simp only [Z30, Z31, Z32]); first | done | rfl | (simp only [Z28, Z29]; rfl)) : p := h
theorem Q21 {p : Prop} (h : p := by exact Or.inl ⟨by rfl, by rintro w' ⟨s0, s1, s2⟩; go_simp; with_reducible rfl⟩) : p := h
theorem Q22 {p : Prop} (h : p := by have := HL.out; omega) : p := h
theorem Q23 {p : Prop} (h : p := by have := HL.out; (try simp only [List.length_set]); omega) : p := h
theorem Q24 {p : Prop} (h : p := by first | rfl | (simp; done) | (simp [*]; done)) : p := h
theorem Q25 {p : Prop} (h : p := by first | exact BK1.out | exact Z23 BK1.out | exact Z22 BK1.out _) : p := h
theorem Q26 {p : Prop} (h : p := by exact Or.inl ⟨by rfl, by rintro w' ⟨s0, s1⟩; go_simp; with_reducible rfl⟩) : p := h
theorem Q27 {p : Prop} (h : p := by repeat (first | (with_reducible first | exact HI739.out | apply IsS66.alloc | apply IsS66.drewN | apply IsS66.drew | apply IsS66.set_1 | apply IsS66.set_2) | exact HI739.out)) : p := h
theorem Q28 {p : Prop} (h : p := by first | exact BK2.out | exact Z23 BK2.out | exact Z22 BK2.out _) : p := h
theorem Q29 {p : Prop} (h : p := by simp only [Z30, Z31, Z32]; rfl) : p := h
theorem Q30 {p : Prop} (h : p := by (with_reducible repeat (first | apply Z9 | apply Z10 | apply Z11)); exact HO_5.out) : p := h
theorem Q31 {p : Prop} (h : p := by repeat (first | (with_reducible first | exact HI677.out | apply IsS66.alloc | apply IsS66.drewN | apply IsS66.drew | apply IsS66.set_1 | apply IsS66.set_2) | exact HI677.out)) : p := h
theorem Q32 {p : Prop} (h : p := by repeat (first | exact (Kd.R_reads' HY.out).2.2 | (with_reducible refine Z17 ?_ _) | (with_reducible refine Z18 ?_))) : p := h
theorem Q33 {p : Prop} (h : p := by repeat (first | (with_reducible first | exact HB.out | apply Z5 | apply Z3 | apply Z4 | refine Z6 ?_ (IsS66.ge HI739.out)) | exact HB.out)) : p := h
theorem Q34 {p : Prop} (h : p := by simp only [putAll, Act.put, Z0, Z1, Z2]) : p := h
theorem Q35 {p : Prop} (h : p := by have := HK1.out; omega) : p := h
theorem Q36 {p : Prop} (h : p := by (try simp only [Z30, Z31, Z32]); first | done | (rw [show (l0.drop 1).length = (l0.length - 1) from Z28] <;> rfl) | (rw [show (l1.drop 1).length = (l1.length - 1) from Z28] <;> rfl) | rfl | (simp only [Z28, Z29]; rfl)) : p := h
theorem Q37 {p : Prop} (h : p := by first | exact N1.out | exact Z23 N1.out | exact Z22 N1.out _) : p := h
theorem Q38 {p : Prop} (h : p := by rintro e w' ⟨v0, v1, v2, v3, v4, v5, rfl, h0, h1, h2, h3, h4, h5, hb⟩; exact ⟨_, _, _, _, _, _, rfl, SwV.weak ⟨h0, h1, h2, h3, h4, h5⟩, hb⟩) : p := h
theorem Q39 {p : Prop} (h : p := by repeat (first | exact HY.out | (with_reducible refine Z10 ?_ _) | (with_reducible refine Z11 ?_))) : p := h
theorem Q40 {p : Prop} (h : p := by (with_reducible repeat (first | refine Z22 ?_ _ | refine Z23 ?_ | refine Z24 ?_ _)); exact BK570.out) : p := h
theorem Q41 {p : Prop} (h : p := by (with_reducible repeat (first | refine Z22 ?_ _ | refine Z23 ?_ | refine Z24 ?_ _)); exact BK542.out) : p := h
theorem Q42 {p : Prop} (h : p := by (with_reducible repeat (first | refine Z22 ?_ _ | refine Z23 ?_ | refine Z24 ?_ _)); exact BK541.out) : p := h
theorem Q43 {p : Prop} (h : p := by first | omega | exact Nat.le_refl _) : p := h
theorem Q44 {p : Prop} (h : p := by (try simp only [Z30, Z31, Z32]); first | done | (rw [show (l0.drop 1).length = (l0.length - 1) from Z28] <;> rfl) | rfl | (simp only [Z28, Z29]; rfl)) : p := h
theorem Q45 {p : Prop} (h : p := by repeat (first | (with_reducible first | exact HB.out | apply Z5 | apply Z3 | apply Z4 | refine Z6 ?_ (IsS66.ge HI677.out)) | exact HB.out)) : p := h
theorem Q46 {p : Prop} (h : p := by rw [List.length_set]; have := HL.out; omega) : p := h
theorem Q47 {p : Prop} (h : p := by exact Or.inl ⟨by rfl, by rintro w' ⟨s0, s1, s2, s3, s4, s5, s6, s7, s8, s9, s10, s11⟩; go_simp; with_reducible rfl⟩) : p := h
theorem Q48 {p : Prop} (h : p := by (with_reducible repeat (first | apply Z9 | apply Z10 | apply Z11)); exact HO_3.out) : p := h
theorem Q49 {p : Prop} (h : p := by (with_reducible repeat (first | refine Z22 ?_ _ | refine Z23 ?_ | refine Z24 ?_ _)); exact BK136.out) : p := h
theorem Q50 {p : Prop} (h : p := by have := World.block_lt_of_cell? _ _ hx169_0; first | rwa [add_block] at this | exact this) : p := h
theorem Q51 {p : Prop} (h : p := by have h_ := set6_at N1.out (.slice B0 b.length c0) (.slice B1 d.length c1) (.slice B2 u.length c2) (.slice B3 p.length c3) (.slice B4 it.length c4) (.slice B5 wh.length c5); unfold set6 at h_; exact h_) : p := h
theorem Q52 {p : Prop} (h : p := by rw [← hq_]; exact (Yk BK710.out)) : p := h
theorem Q53 {p : Prop} (h : p := by rw [← hq_]; exact (Yk BK688.out)) : p := h
theorem Q54 {p : Prop} (h : p := by (with_reducible repeat (first | refine Z22 ?_ _ | refine Z23 ?_ | refine Z24 ?_ _)); exact BK594.out) : p := h
theorem Q55 {p : Prop} (h : p := by exact Or.inl ⟨by rfl, by rintro w' ⟨s0, s1, s2, s3, s4, s5⟩; go_simp; with_reducible rfl⟩) : p := h
theorem Q56 {p : Prop} (h : p := by rw [List.length_set, List.length_set]; have := HL.out; omega) : p := h
theorem Q57 {p : Prop} (h : p := by (with_reducible repeat (first | apply Z9 | apply Z10 | apply Z11)); exact HO592.out) : p := h
theorem Q58 {p : Prop} (h : p := by (with_reducible repeat (first | apply Z9 | apply Z10 | apply Z11)); exact HO589.out) : p := h
theorem Q59 {p : Prop} (h : p := by (with_reducible repeat (first | apply Z9 | apply Z10 | apply Z11)); exact HO586.out) : p := h
theorem Q60 {p : Prop} (h : p := by (with_reducible repeat (first | apply Z9 | apply Z10 | apply Z11)); exact HO583.out) : p := h
theorem Q61 {p : Prop} (h : p := by (with_reducible repeat (first | apply Z9 | apply Z10 | apply Z11)); exact HO580.out) : p := h
theorem Q62 {p : Prop} (h : p := by (with_reducible repeat (first | apply Z9 | apply Z10 | apply Z11)); exact HO577.out) : p := h
theorem Q63 {p : Prop} (h : p := by have h_ := set6_at BK2.out (.slice none 0 0) (.slice none 0 0) (.slice none 0 0) (.slice none 0 0) (.slice none 0 0) (.slice none 0 0); unfold set6 at h_; exact h_) : p := h
theorem Q64 {p : Prop} (h : p := by obtain ⟨a_, b_, c_, d_, e_⟩ := HL2.out; obtain ⟨x_, y_, z_, m_, n_⟩ := HL.out; exact ⟨a_.trans x_, b_.trans y_, c_.trans z_, d_.trans m_, e_.trans n_⟩) : p := h
theorem Q65 {p : Prop} (h : p := by have h_ := set4_at HQ.out.n (.slice B0 b.length d0) (.slice B1 z.length d1) (.slice B2 l0.length d2) (.slice B3 p.length d3); unfold set4 at h_; exact h_) : p := h
theorem Q66 {p : Prop} (h : p := by have := HJ1.out; first | omega | exact Nat.le_refl _) : p := h
theorem Q67 {p : Prop} (h : p := by have := HL.out; simp only [List.length_set]; omega) : p := h
theorem Q68 {p : Prop} (h : p := by repeat (first | exact (Z19 HR0.out HB.out) | (with_reducible refine Z16 ?_ _) | (with_reducible refine Z17 ?_ _) | (with_reducible refine Z18 ?_))) : p := h
theorem Q69 {p : Prop} (h : p := by first | exact BK5.out | exact Z23 BK5.out | exact Z22 BK5.out _) : p := h
theorem Q70 {p : Prop} (h : p := by first | rfl | (simp; done)) : p := h
theorem Q71 {p : Prop} (h : p := by repeat (first | (with_reducible first | exact HK.out | apply Kept.alloc | apply Kept.drewN | apply Kept.drew) | exact HK.out)) : p := h
theorem YNa {P : Program} {ops : Array Oper} {Q : Exit → Act → World → Prop} {md : Region.Mode} {S : World → Prop} {ds : List Nat} (N : Tmp) {fuel : Nat} {l : Array Bool} {a a' : Act} {D : Option Tmp} {v : Value} {w : World} (h : wpAnyLast P md ops Q S ds fuel l a' w) (hD : D = some N := by rfl) (e : a.put (some N) v = a' := by simp only [Act.put, Z0, Z1, Z2, i64_w, i32_w]; rfl) : wpAnyLast P md ops Q S ds fuel l (a.put D v) w := by subst hD; exact norm_ e h
theorem YNb {P : Program} {ops : Array Oper} {Q : Exit → Act → World → Prop} {md : Region.Mode} {S : World → Prop} {ds : List Nat} {fuel : Nat} {l : Array Bool} {a a' : Act} {w : World} (h : wpAnyLast P md ops Q S ds fuel l a' w) (e : a = a' := by simp only [putAll, Act.put, Z0, Z1, Z2]; rfl) : wpAnyLast P md ops Q S ds fuel l a w := norm_ e h
theorem YNc {P : Program} {ops : Array Oper} {Q : Exit → Act → World → Prop} {oi : Oper} {a : Act} {w w1 : World} {K : Act → World → Prop} (h : K a w1) (hrun : (execOp a.eval oi).run P w = .ok .skip w1 := by go_simp; rfl) (hw : Region.wanted oi (yielded ops a.tmps) = true := by rfl) (hN : oi.dst = none := by rfl) : if Region.wanted oi (yielded ops a.tmps) = true then Oper.wp P oi a w K Q else K (a.put none undef) w := skip_ hw hN hrun h
end Go.Proofs.YtapbbmicfkbafaaGreat.MFnSwappers
