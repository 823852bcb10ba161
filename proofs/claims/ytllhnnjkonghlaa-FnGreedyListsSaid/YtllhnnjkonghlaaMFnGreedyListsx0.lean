import Derived.Test.YtllhnnjkonghlaaProg
import Derived.Below
import Derived.Deep.Draws
import Derived.Deep.AppendLies
import Derived.Maps.AppendAt
import Derived.OwnWalk
import Derived.Laws.BytesArg
import Derived.Laws.MakeOwn
import Derived.Laws.OwnMore
import Derived.Deep.OwnRows
import Derived.Tactics
import Derived.Lib.ConvBytes
import Derived.Laws.Slices
import Derived.WalkKit
import Derived.KernelRfl
import Derived.RowKit3
import Derived.Deep.LoopGhost
import Derived.Deep.QuietTactic
import Derived.BigQuiet
import Derived.WideLaws
import Derived.Deep.DeepCutAuto
import Derived.Deep.CutBlock
import Derived.Deep.RegionHeld3
import Derived.Laws.Rows
import Derived.Lib.AppendStr
import Derived.ArgAppend
import Derived.Laws.IdiomCopy
import Derived.OrdersHeld
import Derived.Laws.BitsLemmas
import Derived.RowKit
import Derived.BigRegion
import Derived.ChangeAlike
import Derived.Shelf.Lay
import Derived.Shelf.Slices.Delete
import Derived.Lib.OwnBridge
import Derived.Shelf.SlIterI.Sorted
import Derived.Shelf.SortM.Plain
import Derived.Shelf.SortM.SortNone
import Derived.Ground.GgzProg
import Derived.Ground.SlgmProg
import Derived.Lib.OwnBridge
import Derived.Maps.OwnSet
import Derived.Test.YtllhnnjkonghlaaMapSet
import Derived.Test.YtllhnnjkonghlaaWWords
import Derived.Test.YtllhnnjkonghlaaWLast
import Derived.Test.YtllhnnjkonghlaaWTab
import Derived.Test.YtllhnnjkonghlaaWFour
import Derived.Test.YtllhnnjkonghlaaWQPut
import Derived.Test.YtllhnnjkonghlaaWApart
import Derived.Test.YtllhnnjkonghlaaWArr
import Derived.Test.YtllhnnjkonghlaaWZeros
import Derived.Test.YtllhnnjkonghlaaWFoot
import Derived.Test.YtllhnnjkonghlaaWKept
import Derived.Test.YtllhnnjkonghlaaWShare
import Derived.Test.YtllhnnjkonghlaaWN
import Derived.Test.YtllhnnjkonghlaaWFootNe
import Derived.Test.YtllhnnjkonghlaaWAt
import Derived.Test.YtllhnnjkonghlaaWEqStruct
import Derived.Test.YtllhnnjkonghlaaWRepsOne
import Derived.Test.YtllhnnjkonghlaaWInv
import Derived.Test.YtllhnnjkonghlaaWInvWords
import Derived.Test.YtllhnnjkonghlaaWGuard
import Derived.Test.YtllhnnjkonghlaaWNEv
import Derived.Test.YtllhnnjkonghlaaWMore
namespace Go.Proofs.Ytllhnnjkonghlaa.MFnGreedyLists
open Go.RowKit Go.Proofs.YtllhnnjkonghlaaW.PrintWords Go.Proofs.YtllhnnjkonghlaaW.PrintLast Go.Proofs.YtllhnnjkonghlaaW.PrintMore
attribute [local go_sem] max2_int min2_int max_two min_two max_three min_three max_four min_four   
set_option linter.unusedVariables false
set_option linter.unusedSimpArgs false
def errW : Option Int → Value
 | none => .nilIface
 | some c => .iface 0 (.int .i64 c)
theorem errW_none : errW none = .nilIface := rfl
theorem errW_some (c : Int) : errW (some c) = .iface 0 (.int .i64 c) := rfl
theorem info3 : (Try.prog.info? 3).map (fun i => (i.zero, i.size, i.bytes)) = some (some (.int .i64 0), 1, 8) := by kernel_rfl
theorem info24 : (Try.prog.info? 24).map (fun i => (i.zero, i.size, i.bytes)) = some (some (.slice none 0 0), 1, 24) := by kernel_rfl
theorem info45 : (Try.prog.info? 45).map (fun i => (i.zero, i.size, i.bytes)) = some (some (.agg #[(.int .i64 0), (.int .i64 0), (.int .i64 0)]), 3, 24) := by kernel_rfl
structure S45 where
 f0 : Int
 f1 : Int
 f2 : Int
def z45 : S45 := ⟨(0 : Int), (0 : Int), (0 : Int)⟩
def k45 : Kd S45 := Kd.iso (Kd.pair (Kd.int .i64) (Kd.pair (Kd.int .i64) (Kd.int .i64))) (fun x : S45 => (x.f0, x.f1, x.f2))
theorem k45_open {w : World} {x : S45} {cs : List Value} (h : k45.K w x cs) : cs = [.int .i64 x.f0, .int .i64 x.f1, .int .i64 x.f2] := by
 obtain ⟨_, _, rfl, rfl, ⟨_, _, rfl, rfl, rfl⟩⟩ := h
 exact rfl
theorem k45_mkM (w : World) (base : Nat) (ok : Nat → Prop) (x : S45)  : k45.M w base ok x [.int .i64 x.f0, .int .i64 x.f1, .int .i64 x.f2] := ⟨[.int .i64 x.f0], [.int .i64 x.f1, .int .i64 x.f2], rfl, rfl, ⟨[.int .i64 x.f1], [.int .i64 x.f2], rfl, rfl, rfl⟩⟩
def rd_T45 (xs : List S45) (i : Int) : S45 := xs.getD i.toNat z45
theorem at_T45 {w : World} {A : Option Addr} {n : Nat} {xs : List S45} (h : Kd.C k45 w A n xs) (i : Int) (h0 : 0 ≤ i) (h1 : i < n) : ∃ ad , A = some ad ∧ w.cell? (ad.add (i.toNat * 3)) = some (.int .i64 (rd_T45 xs i).f0) ∧ w.cell? ⟨(ad.add (i.toNat * 3)).block, (ad.add (i.toNat * 3)).off + 1, none⟩ = some (.int .i64 (rd_T45 xs i).f1) ∧ w.cell? ⟨(ad.add (i.toNat * 3)).block, (ad.add (i.toNat * 3)).off + 2, none⟩ = some (.int .i64 (rd_T45 xs i).f2) := by
 obtain ⟨ad, c, e, _, hK, hc0⟩ := Kd.C_get h z45 i h0 h1
 have hc : ∀ j u, c[j]? = some u → w.cell? (ad.add (i.toNat * 3 + j)) = some u := hc0
 obtain rfl := k45_open hK
 exact ⟨ad, e, hc 0 _ rfl, by rw [← add_field _ _ 1 (by omega)]; exact hc 1 _ rfl, by rw [← add_field _ _ 2 (by omega)]; exact hc 2 _ rfl⟩
def rd_L3 (xs : List (List Int)) (i : Int) : (List Int) := xs.getD i.toNat ([] : List Int)
theorem at_L3 {w : World} {A : Option Addr} {n : Nat} {xs : List (List Int)} (h : Kd.C (Kd.slice 3 (Kd.int .i64)) w A n xs) (i : Int) (h0 : 0 ≤ i) (h1 : i < n) : ∃ ad A0 c0, A = some ad ∧ w.cell? (ad.add i.toNat) = some (.slice A0 (rd_L3 xs i).length c0) ∧ (rd_L3 xs i).length ≤ c0 ∧ (Kd.int .i64).C w A0 (rd_L3 xs i).length (rd_L3 xs i) := by
 obtain ⟨ad, c, e, _, hK, hc0⟩ := Kd.C_get h ([] : List Int) i h0 h1
 have hc : ∀ j u, c[j]? = some u → w.cell? (ad.add (i.toNat * 1 + j)) = some u := hc0
 obtain ⟨A0, c0, rfl, l0, g0⟩ := hK
 exact ⟨ad, A0, c0, e, by have hq := hc 0 _ rfl; rwa [Nat.mul_one, Nat.add_zero] at hq, l0, g0⟩
theorem lenEq {P : Program} {f : Nat} {A : Option Addr} {m m' c : Nat} {rest : List Value} {w : World} {Q : Ending → World → Prop} (h : m = m') (hc : Calls P f ((Value.slice A m c :: rest).toArray) w Q) : Calls P f ((Value.slice A m' c :: rest).toArray) w Q := h ▸ hc
theorem Yb {W w w1 : World} {g : Nat} {o : Obj} (hB : Aside0 (W.heap[g]? = some o)) (hb : Below w.heap.size w w1) (h : W.heap[g]? = some o → w.heap[g]? = some o := by intro hx_; (with_reducible repeat (first | refine blk_drewN ?_ _ | refine blk_drew ?_ | refine blk_alloc ?_ _)); exact hx_) : Aside0 (w1.heap[g]? = some o) := ⟨blk_below (h hB.out) hb⟩
theorem Yg {w0 w : World} {g : Nat} (hg : g = w.heap.size) (h : Below w0.heap.size w0 w := by repeat (first | (with_reducible first | exact HB.out | apply below_alloc | apply pw_below_drewN | apply below_drew1 | refine below_set ?_ (Aside0.out (by assumption))) | exact HB.out)) : Aside0 (w0.heap.size ≤ g) := ⟨by rw [hg]; exact h.size⟩
theorem Yr {p q : Prop} (x : q) (h : q → p := by intro hx_; (with_reducible repeat (first | apply Kd.R_alloc | apply Kd.R_drewN | apply Kd.R_drew)); exact hx_) : p := h x
theorem Yk {p q : Prop} (x : q) (h : q → p := by intro hx_; (with_reducible repeat (first | refine blk_drewN ?_ _ | refine blk_drew ?_ | refine blk_alloc ?_ _)); exact hx_) : p := h x
theorem Yx {P : Program} {ops : Array Oper} {rest : List Oper} {o : Oper} {a : Act} {Q : Exit → Act → World → Prop} {W : World} (N : Tmp) (cs : Array Value) (t : TypeId) (h : ∀ g, g = W.heap.size → ∀ w1, w1.heap[g]? = some (.cells cs t (0, 0)) → Below W.heap.size W w1 → wpList P ops Q rest (a.put o.dst (.pointer (some ⟨g, 0, none⟩))) w1) (hg : o.guard = none := by rfl) (hd : o.dst = some N := by rfl) (hrun : (execOp a.eval o).run P W = .ok (.value (.pointer (some ⟨W.heap.size, 0, none⟩))) (W.alloc (.cells cs t (0, 0))) := by first | (go_simp; done) | (go_simp; rfl)) : wpList P ops Q (o :: rest) a W := box_event hg hd hrun h
theorem Yc {p q : Prop} (x : q) (h : q → p := by intro hx_; repeat (first | exact hx_ | (with_reducible refine Kd.C_alloc ?_ _) | (with_reducible refine Kd.C_drewN ?_ _) | (with_reducible refine Kd.C_drew ?_))) : p := h x
theorem Ya {p : Prop} (h : p) : Aside0 p := ⟨h⟩
theorem Yp {T : Bool × List (List Nat × List Nat)} {P : Program} {ops : Array Oper} {Q : Exit → Act → World → Prop} {S : World → Prop} {ds : List Nat} {oi : Oper} {v : Value} {fuel : Nat} {l : Array Bool} {a : Act} {w : World} {md : Region.Mode} {a' : Act} (i : Nat) (N : Option Tmp) (l' : Array Bool) (hi : ops[i]? = some oi) (hT : rtab md ops = T) (h : wpAnyLast P md ops Q S ds fuel l' a' w) (hN : oi.dst = N := by rfl) (hc : anyT T l.toList l'.toList i = true := by kernel_rfl) (hy : Yields P ops oi v a := by exact Or.inl ⟨by rfl, by intro w'; go_simp; with_reducible rfl⟩) (hQ : ∀ c a w, Q (.panic c) (a.put oi.dst v) w → Q (.panic c) a w := by exact fun _ _ _ h => h) (ha : a.put N v = a' := by simp only [Act.put, List.setIfInBounds_toArray, List.set_cons_zero, List.set_cons_succ, i64_w, i32_w]; rfl) : wpAnyLast P md ops Q S ds (fuel + 1) l a w := pure_ l' hi hN (any_of hT hc) hQ hy ha h
theorem Yq {P : Program} {ops : Array Oper} {Q : Exit → Act → World → Prop} {S : World → Prop} {ds : List Nat} {oi : Oper} {v : Value} {fuel : Nat} {l : Array Bool} {a : Act} {w : World} {md : Region.Mode} {a' : Act} (i : Nat) (N : Option Tmp) (l' : Array Bool) (hi : ops[i]? = some oi) (h : wpAnyLast P md ops Q S ds fuel l' a' w) (hN : oi.dst = N := by rfl) (hc : anyB md ops l l' i = true := by kernel_rfl) (hy : Yields P ops oi v a := by exact Or.inl ⟨by rfl, by intro w'; go_simp; with_reducible rfl⟩) (hQ : ∀ c a w, Q (.panic c) (a.put oi.dst v) w → Q (.panic c) a w := by exact fun _ _ _ h => h) (ha : a.put N v = a' := by simp only [Act.put, List.setIfInBounds_toArray, List.set_cons_zero, List.set_cons_succ, i64_w, i32_w]; rfl) : wpAnyLast P md ops Q S ds (fuel + 1) l a w := pure_ l' hi hN hc hQ hy ha h
theorem Yt {T : Bool × List (List Nat × List Nat)} {B : List Nat} {P : Program} {ops : Array Oper} {Q : Exit → Act → World → Prop} {S : World → Prop} {ds : List Nat} {oi : Oper} {v : Value} {fuel : Nat} {l : Array Bool} {a : Act} {w : World} {md : Region.Mode} {a' : Act} (i : Nat) (N : Option Tmp) (l' : Array Bool) (hi : ops[i]? = some oi) (hT : rtab md ops = T) (hB : waitsOk T.2 B = true) (hS : S w) (hy : YieldsIf P ops S oi v a) (h : wpAnyLast P md ops Q S ds fuel l' a' w) (hN : oi.dst = N := by rfl) (hc : takeW T B ds l.toList l'.toList i = true := by kernel_rfl) (hQ : ∀ c a w, Q (.panic c) (a.put oi.dst v) w → Q (.panic c) a w := by exact fun _ _ _ h => h) (ha : a.put N v = a' := by simp only [Act.put, List.setIfInBounds_toArray, List.set_cons_zero, List.set_cons_succ, i64_w, i32_w]; rfl) : wpAnyLast P md ops Q S ds (fuel + 1) l a w := take_ l' hi hN (take_ofW hT hB hc) hQ hy hS ha h
theorem Ys {P : Program} {ops : Array Oper} {Q : Exit → Act → World → Prop} {S : World → Prop} {ds : List Nat} {oi : Oper} {v : Value} {fuel : Nat} {l : Array Bool} {a : Act} {w : World} {md : Region.Mode} {a' : Act} (i : Nat) (N : Option Tmp) (l' : Array Bool) (hi : ops[i]? = some oi) (hS : S w) (hy : YieldsIf P ops S oi v a) (h : wpAnyLast P md ops Q S ds fuel l' a' w) (hN : oi.dst = N := by rfl) (hc : takeB md ops ds l l' i = true := by kernel_rfl) (hQ : ∀ c a w, Q (.panic c) (a.put oi.dst v) w → Q (.panic c) a w := by exact fun _ _ _ h => h) (ha : a.put N v = a' := by simp only [Act.put, List.setIfInBounds_toArray, List.set_cons_zero, List.set_cons_succ, i64_w, i32_w]; rfl) : wpAnyLast P md ops Q S ds (fuel + 1) l a w := take_ l' hi hN hc hQ hy hS ha h
def YA (n m : Nat) : Array Bool := ⟨(List.range n).map m.testBit⟩
theorem Yh {w w' w2 : World} (k : Below w'.heap.size w' w2) (h : Below w.heap.size w w' := by repeat (first | (with_reducible first | exact HB.out | apply below_alloc | apply pw_below_drewN | apply below_drew1 | refine below_set ?_ (Aside0.out (by assumption))) | exact HB.out)) : Aside0 (Below w.heap.size w w2) := ⟨below_step h k⟩
theorem Yl {α : Type} {d : Kd α} {e : Nat} {ok : Nat → Prop} {w w0 W : World} {v : Value} {xs : List α} (x : d.R e w W.heap.size ok v xs) (h : Below w0.heap.size w0 W := by repeat (first | (with_reducible first | exact HB.out | apply below_alloc | apply pw_below_drewN | apply below_drew1 | refine below_set ?_ (Aside0.out (by assumption))) | exact HB.out)) : Aside0 (d.R e w w0.heap.size ok v xs) := ⟨Kd.R_lower x h.size⟩
theorem Yw {α : Type} {d : Kd α} {e base : Nat} {ok : Nat → Prop} {w W w1 : World} {v : Value} {xs : List α} (x : Aside0 (d.R e W base ok v xs)) (hb : Below w.heap.size w w1) (h : d.R e W base ok v xs → d.R e w base ok v xs := by intro hx_; (with_reducible repeat (first | apply Kd.R_alloc | apply Kd.R_drewN | apply Kd.R_drew)); exact hx_) : Aside0 (d.R e w1 base ok v xs) := ⟨Kd.R_below (h x.out) hb⟩
theorem Yv3 {w : World} {g t : Nat} {x0 x1 x2 y0 y1 y2 : Value} (h : w.heap[g]? = some (.cells #[y0, y1, y2] t (0, 0))) : (((w.setCell ⟨g, 0, none⟩ x0).setCell ⟨g, 1, none⟩ x1).setCell ⟨g, 2, none⟩ x2).heap[g]? = some (.cells #[x0, x1, x2] t (0, 0)) := (blk_set (blk_set (blk_set h 0 x0) 1 x1) 2 x2)
theorem Yz {P : Program} {ops : Array Oper} {Q : Exit → Act → World → Prop} {rest : List Oper} {oi : Oper} {a : Act} {w : World} (N : Tmp) {f : FuncId} {fn : Func} {asq : Array Operand} {ts : Array TypeId} (hf : P.funcs[f]? = some fn) (args : Array Value) (h : Calls P f args w fun e w' => ∃ v, e = .returned v ∧ wpList P ops Q rest (a.put (some N) v) w') (hd : oi.dst = some N := by exact rfl) (hg : oi.guard = none := by exact rfl) (hop : oi.op = .call { callee := .value (.func f), args := asq, argTypes := ts } := by exact rfl) (hname : (fn.name == "runtime.NumGoroutine") = false := by kernel_rfl) (hb : fn.body.isSome = true := by exact rfl) (hargs : asq.map a.eval = args := by (try simp only [List.map_toArray, List.map_cons, List.map_nil]); first | done | rfl | (simp only [List.length_drop, List.length_take]; rfl)) : wpList P ops Q (oi :: rest) a w := goesL_ (some N) hd hg hf hname hb args hop hargs h
theorem Yj {α : Type} {d : Kd α} {e base : Nat} {ok ok' : Nat → Prop} {w W : World} {v : Value} {xs : List α} (x : d.R e W base ok v xs) (hok : ∀ k, ok k → ok' k) (h : d.R e W base ok' v xs → d.R e w base ok' v xs := by intro hx_; (with_reducible repeat (first | apply Kd.R_alloc | apply Kd.R_drewN | apply Kd.R_drew)); exact hx_) : d.R e w base ok' v xs := h (Kd.R_mono x hok)
theorem Z0 : type_of% @List.setIfInBounds_toArray := @List.setIfInBounds_toArray
theorem Z1 : type_of% @List.set_cons_zero := @List.set_cons_zero
theorem Z2 : type_of% @List.set_cons_succ := @List.set_cons_succ
theorem Z3 : type_of% @pw_below_drewN := @pw_below_drewN
theorem Z4 : type_of% @below_drew1 := @below_drew1
theorem Z5 : type_of% @below_alloc := @below_alloc
theorem Z6 : type_of% @below_set := @below_set
theorem Z7 : type_of% @below_size := @below_size
theorem Z8 : type_of% @below_step := @below_step
theorem Z9 : type_of% @Kd.R_alloc := @Kd.R_alloc
theorem Z10 : type_of% @Kd.R_drewN := @Kd.R_drewN
theorem Z11 : type_of% @Kd.R_drew := @Kd.R_drew
theorem Z12 : type_of% @Kd.R_mono := @Kd.R_mono
theorem Z13 : type_of% @Kd.R_far := @Kd.R_far
theorem Z14 : type_of% @Kd.R_below := @Kd.R_below
theorem Z15 : type_of% @Kd.R_types := @Kd.R_types
theorem Z16 : type_of% @Kd.R_lt := @Kd.R_lt
theorem Z17 : type_of% @Kd.R_slice := @Kd.R_slice
theorem Z18 : type_of% @Kd.C_alloc := @Kd.C_alloc
theorem Z19 : type_of% @Kd.C_drewN := @Kd.C_drewN
theorem Z20 : type_of% @Kd.C_drew := @Kd.C_drew
theorem Z21 : type_of% @Kd.C_below := @Kd.C_below
theorem Z22 : type_of% @blk_cell := @blk_cell
theorem Z23 : type_of% @blk_frozen := @blk_frozen
theorem Z24 : type_of% @blk_drewN := @blk_drewN
theorem Z25 : type_of% @blk_drew := @blk_drew
theorem Z26 : type_of% @blk_alloc := @blk_alloc
theorem Z27 : type_of% @blk_below := @blk_below
theorem Z28 : type_of% @blk_put := @blk_put
theorem Z29 : type_of% @of_decide_eq_true := @of_decide_eq_true
theorem Z30 : type_of% @List.length_drop := @List.length_drop
theorem Z31 : type_of% @List.length_take := @List.length_take
theorem Z32 : type_of% @List.map_toArray := @List.map_toArray
theorem Z33 : type_of% @List.map_cons := @List.map_cons
theorem Z34 : type_of% @List.map_nil := @List.map_nil
theorem Z35 : type_of% @Option.bind_eq_some_iff := @Option.bind_eq_some_iff
theorem Z36 : type_of% @decide_eq_false := @decide_eq_false
theorem Z37 : type_of% @decide_eq_true := @decide_eq_true
theorem Qm0 {p q : Prop} (x : q) (h : q → p := by intro hx_; (with_reducible repeat (first | apply Kd.N_alloc | apply Kd.N_drewN | apply Kd.N_drew)); exact hx_) : p := h x
theorem Qm1 {p q : Prop} (x : q) (h : q → p := by intro hx_; (with_reducible repeat (first | apply Kd.V_alloc | apply Kd.V_drewN | apply Kd.V_drew)); exact hx_) : p := h x
theorem Q0 {p : Prop} (h : p := by repeat (first | (with_reducible first | exact HB.out | apply Z5 | apply Z3 | apply Z4 | refine Z6 ?_ (Aside0.out (by assumption))) | exact HB.out)) : p := h
theorem Q1 {p : Prop} (h : p := by first | (with_reducible assumption) | assumption) : p := h
theorem Q2 {p : Prop} (h : p := by first | rfl | (simp [errW_none, errW_some] <;> rfl) | (simp [*, errW_none, errW_some] <;> rfl)) : p := h
theorem Q3 {p : Prop} (h : p := by repeat (first | (with_reducible first | exact HK.out | apply KeepBut.set_ | apply keep_drewN | apply keep_drew | apply keep_alloc) | exact HK.out)) : p := h
theorem Q4 {p : Prop} (h : p := by repeat (first | (with_reducible first | exact HI0.out | apply IsS88.alloc | apply IsS88.drewN | apply IsS88.drew | apply IsS88.set_1 | apply IsS88.set_2) | exact HI0.out)) : p := h
theorem Q5 {p : Prop} (h : p := by first | rfl | (simp; done) | (simp [*]; done)) : p := h
theorem Q6 {p : Prop} (h : p := by repeat (first | (with_reducible first | exact HB.out | apply Z5 | apply Z3 | apply Z4 | refine Z6 ?_ (IsS88.ge HI0.out)) | exact HB.out)) : p := h
theorem Q7 {p : Prop} (h : p := by repeat (first | exact Drawn0.refl _ | apply Drawn0.step)) : p := h
theorem Q8 {p : Prop} (h : p := by repeat (first | (with_reducible first | exact HB.out | apply Z5 | apply Z3 | apply Z4 | refine Z6 ?_ (IsS88.ge HI427.out)) | exact HB.out)) : p := h
theorem Q9 {p : Prop} (h : p := by repeat (first | (with_reducible first | exact HK.out | apply KeepBut.set_ | apply keep_drewN | apply keep_drew | apply keep_alloc | refine keep_far ?_ GW192.out _) | exact HK.out)) : p := h
theorem Q10 {p : Prop} (h : p := by first | (with_reducible exact HR555_0.out) | (with_reducible exact Z19 HR555_0.out _) | (with_reducible exact Z20 HR555_0.out) | (with_reducible exact Z18 HR555_0.out _) | repeat (first | (with_reducible exact HR555_0.out) | (with_reducible refine Z18 ?_ _) | (with_reducible refine Z19 ?_ _) | (with_reducible refine Z20 ?_) | exact HR555_0.out)) : p := h
theorem Q11 {p : Prop} (h : p := by first | exact Kd.R_nil _ _ _ _ _ | exact Kd.N_nil _ _ _ _ _ | exact Kd.V_nil _ _ _ _ _ | exact Kd.Q_nil _ _ _ _ _ | exact Kd.S_nil _ _ _ _ _) : p := h
theorem Q12 {p : Prop} (h : p := by repeat (first | (with_reducible first | exact HB.out | apply Z5 | apply Z3 | apply Z4 | refine Z6 ?_ (Aside0.out (by assumption))) | exact HB.out)) : p := h
theorem Q13 {p : Prop} (h : p := by repeat (first | (with_reducible first | exact HK.out | apply KeepBut.set_ | apply keep_drewN | apply keep_drew | apply keep_alloc) | exact HK.out)) : p := h
theorem Q14 {p : Prop} (h : p := by repeat (first | (with_reducible first | exact HI0.out | apply IsS88.alloc | apply IsS88.drewN | apply IsS88.drew | apply IsS88.set_1 | apply IsS88.set_2) | exact HI0.out)) : p := h
theorem Q15 {p : Prop} (h : p := by (with_reducible repeat (first | refine Z24 ?_ _ | refine Z25 ?_ | refine Z26 ?_ _)); refine Z28 (cs := #[.int .i64 ((rd_T45 t523 x140_4).f0), .int .i64 ((rd_T45 t523 x140_4).f1), .int .i64 0]) ?_ 2 _ rfl; (with_reducible repeat (first | refine Z24 ?_ _ | refine Z25 ?_ | refine Z26 ?_ _)); refine Z28 (cs := #[.int .i64 ((rd_T45 t523 x140_4).f0), .int .i64 0, .int .i64 0]) ?_ 1 _ rfl; (with_reducible repeat (first | refine Z24 ?_ _ | refine Z25 ?_ | refine Z26 ?_ _)); refine Z28 (cs := #[.int .i64 0, .int .i64 0, .int .i64 0]) ?_ 0 _ rfl; (with_reducible repeat (first | refine Z24 ?_ _ | refine Z25 ?_ | refine Z26 ?_ _)); exact BK554.out) : p := h
theorem Q16 {p : Prop} (h : p := by repeat (first | (with_reducible first | exact HI427.out | apply IsS88.alloc | apply IsS88.drewN | apply IsS88.drew | apply IsS88.set_1 | apply IsS88.set_2) | exact HI427.out)) : p := h
theorem Q17 {p : Prop} (h : p := by exact Or.inl ⟨by rfl, by rintro w' ⟨s0, s1, s2, s3⟩; go_simp; with_reducible rfl⟩) : p := h
theorem Q18 {p : Prop} (h : p := by first | rfl | (simp; done) | (simp [*]; done)) : p := h
theorem Q19 {p : Prop} (h : p := by repeat (first | (with_reducible first | exact HB.out | apply Z5 | apply Z3 | apply Z4 | refine Z6 ?_ (IsS88.ge HI427.out)) | exact HB.out)) : p := h
theorem Q20 {p : Prop} (h : p := by repeat (first | (with_reducible first | exact HB.out | apply Z5 | apply Z3 | apply Z4 | refine Z6 ?_ (IsS88.ge HI0.out)) | exact HB.out)) : p := h
theorem Q21 {p : Prop} (h : p := by (with_reducible repeat (first | apply Z9 | apply Z10 | apply Z11)); exact HO_5.out) : p := h
theorem Q22 {p : Prop} (h : p := by (with_reducible repeat (first | apply Kd.N_alloc | apply Kd.N_drewN | apply Kd.N_drew)); exact Kd.N_mono (Kd.N_far (p := ⟨gb554, 2, none⟩) (Kd.N_far (p := ⟨gb554, 1, none⟩) (Kd.N_far (p := ⟨gb554, 0, none⟩) (Kd.N_mono HO_7.out (fun k_ hk => (⟨hk, hk.2⟩ : _ ∧ k_ ≠ gb554))) (fun _ hk => hk.2) (.int .i64 ((rd_T45 t523 x140_4).f0))) (fun _ hk => hk.2) (.int .i64 ((rd_T45 t523 x140_4).f1))) (fun _ hk => hk.2) (.int .i64 ((rd_T45 t523 x140_4).f2))) (fun _ hk => ⟨hk.1.1.1, ⟨hk.1.1.2.1, ⟨hk.1.1.2.2, hk.1.2⟩⟩⟩)) : p := h
theorem Q23 {p : Prop} (h : p := by exact Or.inl ⟨by rfl, by rintro w' ⟨s0, s1, s2, s3, s4, s5, s6⟩; go_simp; with_reducible rfl⟩) : p := h
theorem Q24 {p : Prop} (h : p := by repeat (first | (with_reducible first | exact HI427.out | apply IsS88.alloc | apply IsS88.drewN | apply IsS88.drew | apply IsS88.set_1 | apply IsS88.set_2) | exact HI427.out)) : p := h
theorem Q25 {p : Prop} (h : p := by repeat (first | (with_reducible first | exact HI0.out | apply IsS88.alloc | apply IsS88.drewN | apply IsS88.drew | apply IsS88.set_1 | apply IsS88.set_2 | refine IsS88.far ?_ NB0_192.out _) | exact HI0.out)) : p := h
theorem Q26 {p : Prop} (h : p := by repeat (first | (with_reducible first | exact HK.out | apply KeepBut.set_ | apply keep_drewN | apply keep_drew | apply keep_alloc | refine keep_far ?_ GW192.out _) | exact HK.out)) : p := h
theorem Q27 {p : Prop} (h : p := by repeat (first | (with_reducible first | exact HB.out | apply Z5 | apply Z3 | apply Z4 | refine Z6 ?_ (IsS88.ge HI0.out) | refine Z6 ?_ GE192.out) | exact HB.out)) : p := h
theorem Q28 {p : Prop} (h : p := by have := HK1.out; omega) : p := h
theorem Q29 {p : Prop} (h : p := by (with_reducible repeat (first | apply Z9 | apply Z10 | apply Z11)); exact HO_7.out) : p := h
theorem Q30 {p : Prop} (h : p := by (with_reducible repeat (first | apply Z9 | apply Z10 | apply Z11)); exact HO_6.out) : p := h
theorem Q31 {p : Prop} (h : p := by first | (with_reducible exact HR546_0.out) | (with_reducible exact Z19 HR546_0.out _) | (with_reducible exact Z20 HR546_0.out) | (with_reducible exact Z18 HR546_0.out _) | repeat (first | (with_reducible exact HR546_0.out) | (with_reducible refine Z18 ?_ _) | (with_reducible refine Z19 ?_ _) | (with_reducible refine Z20 ?_) | exact HR546_0.out)) : p := h
theorem Q32 {p : Prop} (h : p := by (with_reducible repeat (first | refine Z24 ?_ _ | refine Z25 ?_ | refine Z26 ?_ _)); refine Z28 (cs := #[.int .i64 ((rd_T45 l1 x9_1).f0), .int .i64 ((rd_T45 l1 x9_1).f1), .int .i64 0]) ?_ 2 _ rfl; (with_reducible repeat (first | refine Z24 ?_ _ | refine Z25 ?_ | refine Z26 ?_ _)); refine Z28 (cs := #[.int .i64 ((rd_T45 l1 x9_1).f0), .int .i64 0, .int .i64 0]) ?_ 1 _ rfl; (with_reducible repeat (first | refine Z24 ?_ _ | refine Z25 ?_ | refine Z26 ?_ _)); refine Z28 (cs := #[.int .i64 0, .int .i64 0, .int .i64 0]) ?_ 0 _ rfl; (with_reducible repeat (first | refine Z24 ?_ _ | refine Z25 ?_ | refine Z26 ?_ _)); exact BK320.out) : p := h
theorem Q33 {p : Prop} (h : p := by (with_reducible repeat (first | apply Kd.N_alloc | apply Kd.N_drewN | apply Kd.N_drew)); exact Kd.N_mono HO_7.out (fun _ hk => hk.1.1)) : p := h
theorem Q34 {p : Prop} (h : p := by repeat (first | (with_reducible exact HR555_0.out) | (with_reducible refine Z18 ?_ _) | (with_reducible refine Z19 ?_ _) | (with_reducible refine Z20 ?_) | exact HR555_0.out)) : p := h
theorem Q35 {p : Prop} (h : p := by (with_reducible repeat (first | apply Kd.N_alloc | apply Kd.N_drewN | apply Kd.N_drew)); exact Kd.N_mono HO_8.out (fun _ hk => ⟨hk.1, hk.2.1⟩)) : p := h
theorem Q36 {p : Prop} (h : p := by repeat (first | (with_reducible first | exact HI0.out | apply IsS88.alloc | apply IsS88.drewN | apply IsS88.drew | apply IsS88.set_1 | apply IsS88.set_2 | refine IsS88.far ?_ NB0_192.out _) | exact HI0.out)) : p := h
theorem Q37 {p : Prop} (h : p := by exact Or.inl ⟨by rfl, by rintro w' ⟨s0, s1⟩; go_simp; with_reducible rfl⟩) : p := h
theorem Q38 {p : Prop} (h : p := by repeat (first | (with_reducible exact HR546_0.out) | (with_reducible refine Z18 ?_ _) | (with_reducible refine Z19 ?_ _) | (with_reducible refine Z20 ?_) | exact HR546_0.out)) : p := h
theorem Q39 {p : Prop} (h : p := by first | rfl | (simp [errW_none, errW_some] <;> rfl) | (simp only [← hji53]; first | rfl | (simp [errW_none, errW_some] <;> rfl)) | (simp [*, errW_none, errW_some] <;> rfl)) : p := h
theorem Q40 {p : Prop} (h : p := by (try simp only [Z32, Z33, Z34]); first | done | (simp only [hji53]; rfl) | rfl | (simp only [Z30, Z31]; rfl)) : p := h
theorem Q41 {p : Prop} (h : p := by (with_reducible repeat (first | apply Kd.N_alloc | apply Kd.N_drewN | apply Kd.N_drew)); exact Kd.N_mono HO_8.out (fun _ hk => ⟨hk.1, ⟨hk.2.1, hk.2.2.2⟩⟩)) : p := h
theorem Q42 {p : Prop} (h : p := by repeat (first | (with_reducible first | exact HB.out | apply Z5 | apply Z3 | apply Z4 | refine Z6 ?_ (IsS88.ge HI0.out) | refine Z6 ?_ GE192.out) | exact HB.out)) : p := h
theorem Q43 {p : Prop} (h : p := by (with_reducible repeat (first | refine Z24 ?_ _ | refine Z25 ?_ | refine Z26 ?_ _)); exact BK303.out) : p := h
theorem Q44 {p : Prop} (h : p := by exact Or.inl ⟨by rfl, by rintro w' ⟨s0, s1, s2, s3, s4⟩; go_simp; with_reducible rfl⟩) : p := h
theorem Q45 {p : Prop} (h : p := by first | exact Kd.S_nil _ _ _ _ _ | exact Kd.N_nil _ _ _ _ _ | exact Kd.V_nil _ _ _ _ _ | exact Kd.Q_nil _ _ _ _ _ | exact Kd.R_nil _ _ _ _ _) : p := h
theorem Q46 {p : Prop} (h : p := by first | omega | exact Nat.le_refl _) : p := h
theorem Q47 {p : Prop} (h : p := by have := HJ7.out; first | omega | exact Nat.le_refl _) : p := h
theorem Q48 {p : Prop} (h : p := by first | exact q555 | exact Z29 Q1 | (have e_ := (Kd.N_reads' HO_7.out).1; omega)) : p := h
theorem Q49 {p : Prop} (h : p := by have := HK1.out; first | omega | exact Nat.le_refl _) : p := h
theorem Q50 {p : Prop} (h : p := by (with_reducible repeat (first | apply Kd.N_alloc | apply Kd.N_drewN | apply Kd.N_drew)); exact HO_8.out) : p := h
theorem Q51 {p : Prop} (h : p := by simp only [Z32, Z33, Z34]; rfl) : p := h
theorem Q52 {p : Prop} (h : p := by first | rfl | (simp [errW_none, errW_some] <;> rfl) | (simp only [← hji6]; first | rfl | (simp [errW_none, errW_some] <;> rfl)) | (simp [*, errW_none, errW_some] <;> rfl)) : p := h
theorem Q53 {p : Prop} (h : p := by first | exact q546 | exact Z29 Q1 | (have e_ := (Kd.N_reads' HO_115.out).1; omega)) : p := h
theorem Q54 {p : Prop} (h : p := by (with_reducible repeat (first | apply Kd.N_alloc | apply Kd.N_drewN | apply Kd.N_drew)); exact Kd.N_mono HO_7.out (fun _ hk => ⟨hk, (by simp [Value.ownBlock])⟩)) : p := h
theorem Q55 {p : Prop} (h : p := by (with_reducible repeat (first | apply Kd.N_alloc | apply Kd.N_drewN | apply Kd.N_drew)); exact Kd.N_mono HO529.out (fun _ hk => hk.1)) : p := h
theorem Q56 {p : Prop} (h : p := by repeat (first | (with_reducible first | exact HK.out | apply Kept.alloc | apply Kept.drewN | apply Kept.drew) | exact HK.out)) : p := h
end Go.Proofs.Ytllhnnjkonghlaa.MFnGreedyLists
