import Derived.Test.YtapbbmicfkbafaaProg
import Derived.Below
import Derived.Deep.Draws
import Derived.Deep.AppendLies
import Derived.Maps.AppendAt
import Derived.OwnWalk
import Derived.Laws.BytesArg
import Derived.Laws.MakeOwn
import Derived.Laws.OwnMore
import Derived.Deep.OwnRows
import Derived.Tactics
import Derived.Lib.ConvBytes
import Derived.Laws.Slices
import Derived.WalkKit
import Derived.KernelRfl
import Derived.RowKit3
import Derived.Deep.LoopGhost
import Derived.Deep.QuietTactic
import Derived.BigQuiet
import Derived.WideLaws
import Derived.Deep.DeepCutAuto
import Derived.Deep.CutBlock
import Derived.Deep.RegionHeld3
import Derived.Laws.Rows
import Derived.Lib.AppendStr
import Derived.ArgAppend
import Derived.Laws.IdiomCopy
import Derived.OrdersHeld
import Derived.Laws.BitsLemmas
import Derived.RowKit
import Derived.BigRegion
import Derived.ChangeAlike
import Derived.Test.YtapbbmicfkbafaaFoW
import Derived.Test.YtapbbmicfkbafaaWWords
import Derived.Test.YtapbbmicfkbafaaWLast
import Derived.Test.YtapbbmicfkbafaaWTab
import Derived.Test.YtapbbmicfkbafaaWFour
import Derived.Test.YtapbbmicfkbafaaWQPut
import Derived.Test.YtapbbmicfkbafaaWApart
import Derived.Test.YtapbbmicfkbafaaWArr
import Derived.Test.YtapbbmicfkbafaaWZeros
import Derived.Test.YtapbbmicfkbafaaWFoot
import Derived.Test.YtapbbmicfkbafaaWKept
import Derived.Test.YtapbbmicfkbafaaWShare
import Derived.Test.YtapbbmicfkbafaaWN
import Derived.Test.YtapbbmicfkbafaaWFootNe
import Derived.Test.YtapbbmicfkbafaaWAt
import Derived.Test.YtapbbmicfkbafaaWEqStruct
import Derived.Test.YtapbbmicfkbafaaWRepsOne
import Derived.Test.YtapbbmicfkbafaaWInv
import Derived.Test.YtapbbmicfkbafaaWInvWords
import Derived.Test.YtapbbmicfkbafaaWGuard
import Derived.Test.YtapbbmicfkbafaaWNEv
import Derived.Test.YtapbbmicfkbafaaWMore
namespace Go.Proofs.Ytapbbmicfkbafaa.MFnFocusRuns
open Go.RowKit Go.Proofs.YtapbbmicfkbafaaW.PrintWords Go.Proofs.YtapbbmicfkbafaaW.PrintLast Go.Proofs.YtapbbmicfkbafaaW.PrintMore
attribute [local go_sem] max2_int min2_int max_two min_two max_three min_three max_four min_four   
set_option linter.unusedVariables false
set_option linter.unusedSimpArgs false
def errW : Option Int → Value
 | none => .nilIface
 | some c => .iface 0 (.int .i64 c)
theorem errW_none : errW none = .nilIface := rfl
theorem errW_some (c : Int) : errW (some c) = .iface 0 (.int .i64 c) := rfl
theorem info3 : (Try.prog.info? 3).map (fun i => (i.zero, i.size, i.bytes)) = some (some (.int .i64 0), 1, 8) := by kernel_rfl
theorem info4 : (Try.prog.info? 4).map (fun i => (i.zero, i.size, i.bytes)) = some (some (.bool false), 1, 1) := by kernel_rfl
theorem Yb {W w w1 : World} {g : Nat} {o : Obj} (hB : Aside0 (W.heap[g]? = some o)) (hb : Below w.heap.size w w1) (h : W.heap[g]? = some o → w.heap[g]? = some o := by intro hx_; (with_reducible repeat (first | refine blk_drewN ?_ _ | refine blk_drew ?_ | refine blk_alloc ?_ _)); exact hx_) : Aside0 (w1.heap[g]? = some o) := ⟨blk_below (h hB.out) hb⟩
theorem Yn {W w : World} {g g2 : Nat} {o : Obj} (hB : Aside0 (W.heap[g]? = some o)) (hg : g2 = w.heap.size) (h : W.heap[g]? = some o → w.heap[g]? = some o := by intro hx_; (with_reducible repeat (first | refine blk_drewN ?_ _ | refine blk_drew ?_ | refine blk_alloc ?_ _)); exact hx_) : Aside0 (g ≠ g2) := ⟨by rw [hg]; exact Nat.ne_of_lt (blk_lt (h hB.out))⟩
theorem Ym {W w : World} {g g2 : Nat} {o : Obj} (hB : Aside0 (W.heap[g]? = some o)) (hg : g2 = w.heap.size) (h : W.heap[g]? = some o → w.heap[g]? = some o := by intro hx_; (with_reducible repeat (first | refine blk_drewN ?_ _ | refine blk_drew ?_ | refine blk_alloc ?_ _)); exact hx_) : Aside0 (g2 ≠ g) := ⟨by rw [hg]; exact Nat.ne_of_gt (blk_lt (h hB.out))⟩
theorem Yg {w0 w : World} {g : Nat} (hg : g = w.heap.size) (h : Below w0.heap.size w0 w := by repeat (first | (with_reducible first | exact HB.out | apply below_alloc | apply pw_below_drewN | apply below_drew1 | refine below_set ?_ (Aside0.out (by assumption))) | exact HB.out)) : Aside0 (w0.heap.size ≤ g) := ⟨by rw [hg]; exact h.size⟩
theorem Yr {p q : Prop} (x : q) (h : q → p := by intro hx_; (with_reducible repeat (first | apply Kd.R_alloc | apply Kd.R_drewN | apply Kd.R_drew)); exact hx_) : p := h x
theorem Yk {p q : Prop} (x : q) (h : q → p := by intro hx_; (with_reducible repeat (first | refine blk_drewN ?_ _ | refine blk_drew ?_ | refine blk_alloc ?_ _)); exact hx_) : p := h x
theorem Yx {P : Program} {ops : Array Oper} {rest : List Oper} {o : Oper} {a : Act} {Q : Exit → Act → World → Prop} {W : World} (N : Tmp) (cs : Array Value) (t : TypeId) (h : ∀ g, g = W.heap.size → ∀ w1, w1.heap[g]? = some (.cells cs t (0, 0)) → Below W.heap.size W w1 → wpList P ops Q rest (a.put o.dst (.pointer (some ⟨g, 0, none⟩))) w1) (hg : o.guard = none := by rfl) (hd : o.dst = some N := by rfl) (hrun : (execOp a.eval o).run P W = .ok (.value (.pointer (some ⟨W.heap.size, 0, none⟩))) (W.alloc (.cells cs t (0, 0))) := by first | (go_simp; done) | (go_simp; rfl)) : wpList P ops Q (o :: rest) a W := box_event hg hd hrun h
theorem Yy {P : Program} {ops : Array Oper} {o : Oper} {a : Act} {Q : Exit → Act → World → Prop} {Kc : Act → World → Prop} {W : World} (N : Tmp) (cs : Array Value) (t : TypeId) (h : ∀ g, g = W.heap.size → ∀ w1, w1.heap[g]? = some (.cells cs t (0, 0)) → Below W.heap.size W w1 → Kc (a.put o.dst (.pointer (some ⟨g, 0, none⟩))) w1) (hw : Region.wanted o (yielded ops a.tmps) = true := by rfl) (hd : o.dst = some N := by rfl) (hrun : (execOp a.eval o).run P W = .ok (.value (.pointer (some ⟨W.heap.size, 0, none⟩))) (W.alloc (.cells cs t (0, 0))) := by first | (go_simp; done) | (go_simp; rfl)) : if Region.wanted o (yielded ops a.tmps) = true then Oper.wp P o a W Kc Q else Kc (a.put o.dst undef) W := box_step hw hd hrun h
theorem Y4 {w : World} {g t : Nat} {x0 x1 x2 x3 : Value} (h : w.heap[g]? = some (.cells #[x0, x1, x2, x3] t (0, 0))) : w.cell? ⟨g, 0, none⟩ = some x0 ∧ w.cell? ⟨g, 1, none⟩ = some x1 ∧ w.cell? ⟨g, 2, none⟩ = some x2 ∧ w.cell? ⟨g, 3, none⟩ = some x3 ∧ w.frozen? ⟨g, 0, none⟩ = false ∧ w.frozen? ⟨g, 1, none⟩ = false ∧ w.frozen? ⟨g, 2, none⟩ = false ∧ w.frozen? ⟨g, 3, none⟩ = false := ⟨(blk_cell h 0).trans rfl, (blk_cell h 1).trans rfl, (blk_cell h 2).trans rfl, (blk_cell h 3).trans rfl, blk_frozen h 0, blk_frozen h 1, blk_frozen h 2, blk_frozen h 3⟩
theorem Yc {p q : Prop} (x : q) (h : q → p := by intro hx_; repeat (first | exact hx_ | (with_reducible refine Kd.C_alloc ?_ _) | (with_reducible refine Kd.C_drewN ?_ _) | (with_reducible refine Kd.C_drew ?_))) : p := h x
theorem Ya {p : Prop} (h : p) : Aside0 p := ⟨h⟩
theorem Yp {T : Bool × List (List Nat × List Nat)} {P : Program} {ops : Array Oper} {Q : Exit → Act → World → Prop} {S : World → Prop} {ds : List Nat} {oi : Oper} {v : Value} {fuel : Nat} {l : Array Bool} {a : Act} {w : World} {md : Region.Mode} {a' : Act} (i : Nat) (N : Option Tmp) (l' : Array Bool) (hi : ops[i]? = some oi) (hT : rtab md ops = T) (h : wpAnyLast P md ops Q S ds fuel l' a' w) (hN : oi.dst = N := by rfl) (hc : anyT T l.toList l'.toList i = true := by kernel_rfl) (hy : Yields P ops oi v a := by exact Or.inl ⟨by rfl, by intro w'; go_simp; with_reducible rfl⟩) (hQ : ∀ c a w, Q (.panic c) (a.put oi.dst v) w → Q (.panic c) a w := by exact fun _ _ _ h => h) (ha : a.put N v = a' := by simp only [Act.put, List.setIfInBounds_toArray, List.set_cons_zero, List.set_cons_succ, i64_w, i32_w]; rfl) : wpAnyLast P md ops Q S ds (fuel + 1) l a w := pure_ l' hi hN (any_of hT hc) hQ hy ha h
theorem Yq {P : Program} {ops : Array Oper} {Q : Exit → Act → World → Prop} {S : World → Prop} {ds : List Nat} {oi : Oper} {v : Value} {fuel : Nat} {l : Array Bool} {a : Act} {w : World} {md : Region.Mode} {a' : Act} (i : Nat) (N : Option Tmp) (l' : Array Bool) (hi : ops[i]? = some oi) (h : wpAnyLast P md ops Q S ds fuel l' a' w) (hN : oi.dst = N := by rfl) (hc : anyB md ops l l' i = true := by kernel_rfl) (hy : Yields P ops oi v a := by exact Or.inl ⟨by rfl, by intro w'; go_simp; with_reducible rfl⟩) (hQ : ∀ c a w, Q (.panic c) (a.put oi.dst v) w → Q (.panic c) a w := by exact fun _ _ _ h => h) (ha : a.put N v = a' := by simp only [Act.put, List.setIfInBounds_toArray, List.set_cons_zero, List.set_cons_succ, i64_w, i32_w]; rfl) : wpAnyLast P md ops Q S ds (fuel + 1) l a w := pure_ l' hi hN hc hQ hy ha h
theorem Yu {P : Program} {ops : Array Oper} {Q : Exit → Act → World → Prop} {S : World → Prop} {ds : List Nat} {oi : Oper} {fuel : Nat} {l : Array Bool} {a : Act} {w : World} {md : Region.Mode} {a' : Act} (i : Nat) (N : Option Tmp) (l' : Array Bool) (hi : ops[i]? = some oi) (h : wpAnyLast P md ops Q S ds fuel l' a' w) (hN : oi.dst = N := by rfl) (hc : anyB md ops l l' i = true := by kernel_rfl) (hy : Yields P ops oi undef a := by exact Or.inr ⟨by rfl, rfl⟩) (hQ : ∀ c a w, Q (.panic c) (a.put oi.dst undef) w → Q (.panic c) a w := by exact fun _ _ _ h => h) (ha : a.put N undef = a' := by simp only [Act.put, List.setIfInBounds_toArray, List.set_cons_zero, List.set_cons_succ, i64_w, i32_w]; rfl) : wpAnyLast P md ops Q S ds (fuel + 1) l a w := pure_ l' hi hN hc hQ hy ha h
theorem YU {T : Bool × List (List Nat × List Nat)} {P : Program} {ops : Array Oper} {Q : Exit → Act → World → Prop} {S : World → Prop} {ds : List Nat} {oi : Oper} {fuel : Nat} {l : Array Bool} {a : Act} {w : World} {md : Region.Mode} {a' : Act} (i : Nat) (N : Option Tmp) (l' : Array Bool) (hi : ops[i]? = some oi) (hT : rtab md ops = T) (h : wpAnyLast P md ops Q S ds fuel l' a' w) (hc : anyT T l.toList l'.toList i = true := by kernel_rfl) (hy : Yields P ops oi undef a := by exact Or.inr ⟨by rfl, rfl⟩) (hN : oi.dst = N := by rfl) (hQ : ∀ c a w, Q (.panic c) (a.put oi.dst undef) w → Q (.panic c) a w := by exact fun _ _ _ h => h) (ha : a.put N undef = a' := by simp only [Act.put, List.setIfInBounds_toArray, List.set_cons_zero, List.set_cons_succ, i64_w, i32_w]; rfl) : wpAnyLast P md ops Q S ds (fuel + 1) l a w := pure_ l' hi hN (any_of hT hc) hQ hy ha h
theorem Yt {T : Bool × List (List Nat × List Nat)} {B : List Nat} {P : Program} {ops : Array Oper} {Q : Exit → Act → World → Prop} {S : World → Prop} {ds : List Nat} {oi : Oper} {v : Value} {fuel : Nat} {l : Array Bool} {a : Act} {w : World} {md : Region.Mode} {a' : Act} (i : Nat) (N : Option Tmp) (l' : Array Bool) (hi : ops[i]? = some oi) (hT : rtab md ops = T) (hB : waitsOk T.2 B = true) (hS : S w) (hy : YieldsIf P ops S oi v a) (h : wpAnyLast P md ops Q S ds fuel l' a' w) (hN : oi.dst = N := by rfl) (hc : takeW T B ds l.toList l'.toList i = true := by kernel_rfl) (hQ : ∀ c a w, Q (.panic c) (a.put oi.dst v) w → Q (.panic c) a w := by exact fun _ _ _ h => h) (ha : a.put N v = a' := by simp only [Act.put, List.setIfInBounds_toArray, List.set_cons_zero, List.set_cons_succ, i64_w, i32_w]; rfl) : wpAnyLast P md ops Q S ds (fuel + 1) l a w := take_ l' hi hN (take_ofW hT hB hc) hQ hy hS ha h
theorem Ys {P : Program} {ops : Array Oper} {Q : Exit → Act → World → Prop} {S : World → Prop} {ds : List Nat} {oi : Oper} {v : Value} {fuel : Nat} {l : Array Bool} {a : Act} {w : World} {md : Region.Mode} {a' : Act} (i : Nat) (N : Option Tmp) (l' : Array Bool) (hi : ops[i]? = some oi) (hS : S w) (hy : YieldsIf P ops S oi v a) (h : wpAnyLast P md ops Q S ds fuel l' a' w) (hN : oi.dst = N := by rfl) (hc : takeB md ops ds l l' i = true := by kernel_rfl) (hQ : ∀ c a w, Q (.panic c) (a.put oi.dst v) w → Q (.panic c) a w := by exact fun _ _ _ h => h) (ha : a.put N v = a' := by simp only [Act.put, List.setIfInBounds_toArray, List.set_cons_zero, List.set_cons_succ, i64_w, i32_w]; rfl) : wpAnyLast P md ops Q S ds (fuel + 1) l a w := take_ l' hi hN hc hQ hy hS ha h
def YA (n m : Nat) : Array Bool := ⟨(List.range n).map m.testBit⟩
theorem Yh {w w' w2 : World} (k : Below w'.heap.size w' w2) (h : Below w.heap.size w w' := by repeat (first | (with_reducible first | exact HB.out | apply below_alloc | apply pw_below_drewN | apply below_drew1 | refine below_set ?_ (Aside0.out (by assumption))) | exact HB.out)) : Aside0 (Below w.heap.size w w2) := ⟨below_step h k⟩
theorem Yl {α : Type} {d : Kd α} {e : Nat} {ok : Nat → Prop} {w w0 W : World} {v : Value} {xs : List α} (x : d.R e w W.heap.size ok v xs) (h : Below w0.heap.size w0 W := by repeat (first | (with_reducible first | exact HB.out | apply below_alloc | apply pw_below_drewN | apply below_drew1 | refine below_set ?_ (Aside0.out (by assumption))) | exact HB.out)) : Aside0 (d.R e w w0.heap.size ok v xs) := ⟨Kd.R_lower x h.size⟩
theorem Yw {α : Type} {d : Kd α} {e base : Nat} {ok : Nat → Prop} {w W w1 : World} {v : Value} {xs : List α} (x : Aside0 (d.R e W base ok v xs)) (hb : Below w.heap.size w w1) (h : d.R e W base ok v xs → d.R e w base ok v xs := by intro hx_; (with_reducible repeat (first | apply Kd.R_alloc | apply Kd.R_drewN | apply Kd.R_drew)); exact hx_) : Aside0 (d.R e w1 base ok v xs) := ⟨Kd.R_below (h x.out) hb⟩
theorem Yf4 {α : Type} {d : Kd α} {e base g t : Nat} {ok : Nat → Prop} {w : World} {v : Value} {xs : List α} {cells : Array Value} {x0 x1 x2 x3 : Value} (h : d.R e w base ok v xs) (hb : w.heap[g]? = some (.cells cells t (0, 0))) (ht : ∀ q, q ∈ e :: d.E → q ≠ t := by decide) : d.R e ((((w.setCell ⟨g, 0, none⟩ x0).setCell ⟨g, 1, none⟩ x1).setCell ⟨g, 2, none⟩ x2).setCell ⟨g, 3, none⟩ x3) base (fun k => ok k ∧ k ≠ g) v xs := (Kd.R_far (p := ⟨g, 3, none⟩) (Kd.R_far (p := ⟨g, 2, none⟩) (Kd.R_far (p := ⟨g, 1, none⟩) (Kd.R_far (p := ⟨g, 0, none⟩) (Kd.R_types h hb ht) (fun _ hk => hk.2) x0) (fun _ hk => hk.2) x1) (fun _ hk => hk.2) x2) (fun _ hk => hk.2) x3)
theorem Yo4 {w : World} {g g' t : Nat} {cs : Array Value} {x0 x1 x2 x3 : Value} (h : w.heap[g]? = some (.cells cs t (0, 0))) (hn : g ≠ g') : ((((w.setCell ⟨g', 0, none⟩ x0).setCell ⟨g', 1, none⟩ x1).setCell ⟨g', 2, none⟩ x2).setCell ⟨g', 3, none⟩ x3).heap[g]? = some (.cells cs t (0, 0)) := (blk_far (blk_far (blk_far (blk_far h hn x0) hn x1) hn x2) hn x3)
theorem Yz {P : Program} {ops : Array Oper} {Q : Exit → Act → World → Prop} {rest : List Oper} {oi : Oper} {a : Act} {w : World} (N : Tmp) {f : FuncId} {fn : Func} {asq : Array Operand} {ts : Array TypeId} (hf : P.funcs[f]? = some fn) (args : Array Value) (h : Calls P f args w fun e w' => ∃ v, e = .returned v ∧ wpList P ops Q rest (a.put (some N) v) w') (hd : oi.dst = some N := by exact rfl) (hg : oi.guard = none := by exact rfl) (hop : oi.op = .call { callee := .value (.func f), args := asq, argTypes := ts } := by exact rfl) (hname : (fn.name == "runtime.NumGoroutine") = false := by kernel_rfl) (hb : fn.body.isSome = true := by exact rfl) (hargs : asq.map a.eval = args := by (try simp only [List.map_toArray, List.map_cons, List.map_nil]); first | done | rfl | (simp only [List.length_drop, List.length_take]; rfl)) : wpList P ops Q (oi :: rest) a w := goesL_ (some N) hd hg hf hname hb args hop hargs h
theorem Yj {α : Type} {d : Kd α} {e base : Nat} {ok ok' : Nat → Prop} {w W : World} {v : Value} {xs : List α} (x : d.R e W base ok v xs) (hok : ∀ k, ok k → ok' k) (h : d.R e W base ok' v xs → d.R e w base ok' v xs := by intro hx_; (with_reducible repeat (first | apply Kd.R_alloc | apply Kd.R_drewN | apply Kd.R_drew)); exact hx_) : d.R e w base ok' v xs := h (Kd.R_mono x hok)
theorem Yz4 {w : World} {g t : Nat} {x0 x1 x2 x3 : Value} (h : w.heap[g]? = some (.cells #[x0, x1, x2, x3] t (0, 0))) : w.cell? ⟨g, 0, none⟩ = some x0 ∧ w.cell? ⟨g, 1, none⟩ = some x1 ∧ w.cell? ⟨g, 2, none⟩ = some x2 ∧ w.cell? ⟨g, 3, none⟩ = some x3 := ⟨(blk_cell h 0).trans rfl, (blk_cell h 1).trans rfl, (blk_cell h 2).trans rfl, (blk_cell h 3).trans rfl⟩
theorem Yv4 {w : World} {g t : Nat} {x0 x1 x2 x3 y0 y1 y2 y3 : Value} (h : w.heap[g]? = some (.cells #[y0, y1, y2, y3] t (0, 0))) : ((((w.setCell ⟨g, 0, none⟩ x0).setCell ⟨g, 1, none⟩ x1).setCell ⟨g, 2, none⟩ x2).setCell ⟨g, 3, none⟩ x3).heap[g]? = some (.cells #[x0, x1, x2, x3] t (0, 0)) := (blk_set (blk_set (blk_set (blk_set h 0 x0) 1 x1) 2 x2) 3 x3)
abbrev YN4 : Array Value := #[.slice none 0 0, .slice none 0 0, .slice none 0 0, .slice none 0 0]
theorem Yd4 {α : Type} {d : Kd α} {e base g g' t t' : Nat} {ok : Nat → Prop} {w : World} {v : Value} {xs : List α} {cells cells' : Array Value} {x0 y0 x1 y1 x2 y2 x3 y3 : Value} (h : d.R e w base ok v xs) (hb : w.heap[g]? = some (.cells cells t (0, 0))) (hb' : w.heap[g']? = some (.cells cells' t' (0, 0))) (ht : ∀ q, q ∈ e :: d.E → q ≠ t := by decide) (ht' : ∀ q, q ∈ e :: d.E → q ≠ t' := by decide) : d.R e ((((((((w.setCell ⟨g, 0, none⟩ x0).setCell ⟨g, 1, none⟩ x1).setCell ⟨g, 2, none⟩ x2).setCell ⟨g, 3, none⟩ x3).setCell ⟨g', 0, none⟩ y0).setCell ⟨g', 1, none⟩ y1).setCell ⟨g', 2, none⟩ y2).setCell ⟨g', 3, none⟩ y3) base (fun k => (ok k ∧ k ≠ g) ∧ k ≠ g') v xs := (Kd.R_far (p := ⟨g', 3, none⟩) (Kd.R_far (p := ⟨g', 2, none⟩) (Kd.R_far (p := ⟨g', 1, none⟩) (Kd.R_far (p := ⟨g', 0, none⟩) (Kd.R_far (p := ⟨g, 3, none⟩) (Kd.R_far (p := ⟨g, 2, none⟩) (Kd.R_far (p := ⟨g, 1, none⟩) (Kd.R_far (p := ⟨g, 0, none⟩) (Kd.R_types (Kd.R_types h hb ht) hb' ht') (fun _ hk => hk.1.2) x0) (fun _ hk => hk.1.2) x1) (fun _ hk => hk.1.2) x2) (fun _ hk => hk.1.2) x3) (fun _ hk => hk.2) y0) (fun _ hk => hk.2) y1) (fun _ hk => hk.2) y2) (fun _ hk => hk.2) y3)
theorem Z0 : type_of% @List.setIfInBounds_toArray := @List.setIfInBounds_toArray
theorem Z1 : type_of% @List.set_cons_zero := @List.set_cons_zero
theorem Z2 : type_of% @List.set_cons_succ := @List.set_cons_succ
theorem Z3 : type_of% @pw_below_drewN := @pw_below_drewN
theorem Z4 : type_of% @below_drew1 := @below_drew1
theorem Z5 : type_of% @below_alloc := @below_alloc
theorem Z6 : type_of% @below_set := @below_set
theorem Z7 : type_of% @below_size := @below_size
theorem Z8 : type_of% @Kd.R_alloc := @Kd.R_alloc
theorem Z9 : type_of% @Kd.R_drewN := @Kd.R_drewN
theorem Z10 : type_of% @Kd.R_drew := @Kd.R_drew
theorem Z11 : type_of% @Kd.R_mono := @Kd.R_mono
theorem Z12 : type_of% @Kd.R_below := @Kd.R_below
theorem Z13 : type_of% @Kd.R_types := @Kd.R_types
theorem Z14 : type_of% @Kd.R_told := @Kd.R_told
theorem Z15 : type_of% @Kd.R_old := @Kd.R_old
theorem Z16 : type_of% @Kd.R_lt := @Kd.R_lt
theorem Z17 : type_of% @Kd.R_slice := @Kd.R_slice
theorem Z18 : type_of% @Kd.C_alloc := @Kd.C_alloc
theorem Z19 : type_of% @Kd.C_drewN := @Kd.C_drewN
theorem Z20 : type_of% @Kd.C_drew := @Kd.C_drew
theorem Z21 : type_of% @Kd.C_below := @Kd.C_below
theorem Z22 : type_of% @blk_cell := @blk_cell
theorem Z23 : type_of% @blk_frozen := @blk_frozen
theorem Z24 : type_of% @blk_drewN := @blk_drewN
theorem Z25 : type_of% @blk_drew := @blk_drew
theorem Z26 : type_of% @blk_alloc := @blk_alloc
theorem Z27 : type_of% @blk_below := @blk_below
theorem Z28 : type_of% @blk_put := @blk_put
theorem Z29 : type_of% @of_decide_eq_true := @of_decide_eq_true
theorem Z30 : type_of% @List.length_drop := @List.length_drop
theorem Z31 : type_of% @List.length_take := @List.length_take
theorem Z32 : type_of% @List.map_toArray := @List.map_toArray
theorem Z33 : type_of% @List.map_cons := @List.map_cons
theorem Z34 : type_of% @List.map_nil := @List.map_nil
theorem Z35 : type_of% @Option.bind_eq_some_iff := @Option.bind_eq_some_iff
theorem Z36 : type_of% @decide_eq_false := @decide_eq_false
theorem Z37 : type_of% @decide_eq_true := @decide_eq_true
theorem Qm0 {p q : Prop} (x : q) (h : q → p := by intro hx_; (with_reducible repeat (first | apply FoV.drewN | apply FoV.drew)); exact hx_) : p := h x
theorem Q0 {p : Prop} (h : p := by repeat (first | (with_reducible first | exact HB.out | apply Z5 | apply Z3 | apply Z4 | refine Z6 ?_ (Aside0.out (by assumption))) | exact HB.out)) : p := h
theorem Q1 {p : Prop} (h : p := by first | rfl | (simp [errW_none, errW_some] <;> rfl) | (simp [*, errW_none, errW_some] <;> rfl)) : p := h
theorem Q2 {p : Prop} (h : p := by repeat (first | (with_reducible first | exact HK.out | apply KeepBut.set_ | apply keep_drewN | apply keep_drew | apply keep_alloc) | exact HK.out)) : p := h
theorem Q3 {p : Prop} (h : p := by first | (with_reducible assumption) | assumption) : p := h
theorem Q4 {p : Prop} (h : p := by first | exact Kd.R_nil _ _ _ _ _ | exact Kd.N_nil _ _ _ _ _ | exact Kd.V_nil _ _ _ _ _ | exact Kd.Q_nil _ _ _ _ _ | exact Kd.S_nil _ _ _ _ _) : p := h
theorem Q5 {p : Prop} (h : p := by repeat (first | (with_reducible first | exact HI0.out | apply IsS52.alloc | apply IsS52.drewN | apply IsS52.drew | apply IsS52.set_1 | apply IsS52.set_2) | exact HI0.out)) : p := h
theorem Q6 {p : Prop} (h : p := by first | (simp only [putAll, Act.put, Z0, Z1, Z2]; done) | (simp only [putAll, Act.put, Z0, Z1, Z2]; rfl)) : p := h
theorem Q7 {p : Prop} (h : p := by repeat (first | (with_reducible first | exact HB.out | apply Z5 | apply Z3 | apply Z4 | refine Z6 ?_ (IsS52.ge HI0.out)) | exact HB.out)) : p := h
theorem Q8 {p : Prop} (h : p := by first | rfl | (simp; done) | (simp [*]; done)) : p := h
theorem Q9 {p : Prop} (h : p := by exact Or.inl ⟨by rfl, by rintro w' ⟨s0, s1, s2, s3⟩; go_simp; with_reducible rfl⟩) : p := h
theorem Q10 {p : Prop} (h : p := by (try simp only [Z32, Z33, Z34]); first | done | rfl | (simp only [Z30, Z31]; rfl)) : p := h
theorem Q11 {p : Prop} (h : p := by repeat (first | exact Drawn0.refl _ | apply Drawn0.step)) : p := h
theorem Q12 {p : Prop} (h : p := by repeat (first | (with_reducible first | exact HB.out | apply Z5 | apply Z3 | apply Z4 | refine Z6 ?_ (Aside0.out (by assumption))) | exact HB.out)) : p := h
theorem Q13 {p : Prop} (h : p := by repeat (first | (with_reducible first | exact HK.out | apply KeepBut.set_ | apply keep_drewN | apply keep_drew | apply keep_alloc) | exact HK.out)) : p := h
theorem Q14 {p : Prop} (h : p := by repeat (first | (with_reducible first | exact HI0.out | apply IsS52.alloc | apply IsS52.drewN | apply IsS52.drew | apply IsS52.set_1 | apply IsS52.set_2) | exact HI0.out)) : p := h
theorem Q15 {p : Prop} (h : p := by first | rfl | (simp; done) | (simp [*]; done)) : p := h
theorem Q16 {p : Prop} (h : p := by (with_reducible repeat (first | apply Z8 | apply Z9 | apply Z10)); exact HO_5.out) : p := h
theorem Q17 {p : Prop} (h : p := by repeat (first | (with_reducible first | exact HB.out | apply Z5 | apply Z3 | apply Z4 | refine Z6 ?_ (IsS52.ge HI0.out)) | exact HB.out)) : p := h
theorem Q18 {p : Prop} (h : p := by have := HL.out; omega) : p := h
theorem Q19 {p : Prop} (h : p := by exact Or.inl ⟨by rfl, by rintro w' ⟨s0, s1, s2⟩; go_simp; with_reducible rfl⟩) : p := h
theorem Q20 {p : Prop} (h : p := by exact Or.inl ⟨by rfl, by rintro w' ⟨s0, s1⟩; go_simp; with_reducible rfl⟩) : p := h
theorem Q21 {p : Prop} (h : p := by first | exact BK1.out | exact Z25 BK1.out | exact Z24 BK1.out _) : p := h
theorem Q22 {p : Prop} (h : p := by (try simp only [Z32, Z33, Z34]); first | done | rfl) : p := h
theorem Q23 {p : Prop} (h : p := by have := HK1.out; omega) : p := h
theorem Q24 {p : Prop} (h : p := by rw [List.length_set]; have := HL.out; omega) : p := h
theorem Q25 {p : Prop} (h : p := by have := HJ7.out; have := HJ19.out; have := HK3.out; first | omega | exact Nat.le_refl _) : p := h
theorem Q26 {p : Prop} (h : p := by first | exact BK2.out | exact Z25 BK2.out | exact Z24 BK2.out _) : p := h
theorem Q27 {p : Prop} (h : p := by repeat (first | exact (Z21 HR0.out HB.out) | (with_reducible refine Z18 ?_ _) | (with_reducible refine Z19 ?_ _) | (with_reducible refine Z20 ?_))) : p := h
theorem Q28 {p : Prop} (h : p := by repeat (first | (with_reducible first | exact HB.out | apply Z5 | apply Z3 | apply Z4 | refine Z6 ?_ (IsS52.ge HI177.out)) | exact HB.out)) : p := h
theorem Q29 {p : Prop} (h : p := by (try simp only [Z32, Z33, Z34]); first | done | (rw [show (l0.drop 1).length = (l0.length - 1) from Z30] <;> rfl) | (rw [show (l1.drop 1).length = (l1.length - 1) from Z30] <;> rfl) | rfl | (simp only [Z30, Z31]; rfl)) : p := h
theorem Q30 {p : Prop} (h : p := by (try simp only [Z32, Z33, Z34]); first | done | (rw [show (l0.drop ((ji8) : Int).toNat).length = (l0.length - (ji8).toNat) from Z30] <;> rfl) | (simp only [hji8]; rfl) | rfl | (simp only [Z30, Z31]; rfl)) : p := h
theorem Q31 {p : Prop} (h : p := by simp only [putAll, Act.put, Z0, Z1, Z2]) : p := h
theorem Q32 {p : Prop} (h : p := by rw [← hq_]; exact (Yk BK474.out)) : p := h
theorem Q33 {p : Prop} (h : p := by rw [List.length_set, List.length_set]; have := HL.out; omega) : p := h
theorem Q34 {p : Prop} (h : p := by (with_reducible repeat (first | apply Z8 | apply Z9 | apply Z10)); exact HO_7.out) : p := h
theorem Q35 {p : Prop} (h : p := by (with_reducible repeat (first | apply Z8 | apply Z9 | apply Z10)); exact HO_3.out) : p := h
theorem Q36 {p : Prop} (h : p := by (try simp only [Z32, Z33, Z34]); first | done | (rw [show (l0.drop 1).length = (l0.length - 1) from Z30] <;> rfl) | rfl | (simp only [Z30, Z31]; rfl)) : p := h
theorem Q37 {p : Prop} (h : p := by have := HJ7.out; have := HJ19.out; have := HK3.out; have := HJ32.out; have := HK5.out; have := HK6.out; first | omega | exact Nat.le_refl _) : p := h
theorem Q38 {p : Prop} (h : p := by have h_ := set4_at BK2.out (.slice none 0 0) (.slice none 0 0) (.slice none 0 0) (.slice none 0 0); unfold set4 at h_; exact h_) : p := h
theorem Q39 {p : Prop} (h : p := by obtain ⟨a_, b_, c_⟩ := HL2.out; obtain ⟨x_, y_, z_⟩ := HL.out; exact ⟨a_.trans x_, b_.trans y_, c_.trans z_⟩) : p := h
end Go.Proofs.Ytapbbmicfkbafaa.MFnFocusRuns
