import Derived.Test.YtmkokfljonbcmaaPrS
import Derived.Test.YtmkokfljonbcmaaWKept
import Derived.Test.YtmkokfljonbcmaaWMore
import Derived.Test.YtmkokfljonbcmaaWLast
namespace Go.Proofs.Ytmkokfljonbcmaa.AlW
open Go Go.RowKit Go.Proofs.YtmkokfljonbcmaaW.PrintWords Go.Proofs.YtmkokfljonbcmaaW.PrintLast Go.Proofs.Ytmkokfljonbcmaa.PrS
set_option linter.unusedVariables false
set_option linter.unusedSimpArgs false
structure Bl where
  q : Nat
  bm : Nat
  bv : Nat
  bo : Nat
  be : Nat
structure Bl.Di (g : Bl) (base : Nat) : Prop where mk ::
  o : g.bm ≠ g.bo ∧ g.bv ≠ g.bo ∧ g.be ≠ g.bo
  ge : base ≤ g.q ∧ base ≤ g.bo
def Bl.Ok (g : Bl) (k : Nat) : Prop := k ≠ g.q ∧ k ≠ g.bm ∧ k ≠ g.bv ∧ k ≠ g.bo ∧ k ≠ g.be
structure Cs where
  tm : Nat
  ti : Nat
  tv : Nat
  ts : Nat
  tf : Nat
  xv : Value
  xe : Value
structure Env (w : World) (g : Bl) (c : Cs) : Prop where mk ::
  m : w.heap[g.bm]? = some (.cells #[.map (some g.q)] c.tm (0, 0))
  v : w.heap[g.bv]? = some (.cells #[c.xv] c.tv (0, 0))
  e : w.heap[g.be]? = some (.cells #[c.xe] c.tf (0, 0))
variable {P : Program} {tk tb base : Nat} {w w1 w2 : World} {g : Bl} {c : Cs} {M M' : List (Int × Int)} {out out' : List Int} {vo vo' : Value}
theorem Env.map (h : Env w g c) (hk : ∀ k, (k = g.bm ∨ k = g.bv ∨ k = g.be) → k < w.heap.size → w1.heap[k]? = w.heap[k]?) : Env w1 g c :=
  ⟨(hk _ (.inl rfl) (blk_lt h.m)).trans h.m, (hk _ (.inr (.inl rfl)) (blk_lt h.v)).trans h.v, (hk _ (.inr (.inr rfl)) (blk_lt h.e)).trans h.e⟩
structure St (P : Program) (tk tb : Nat) (w : World) (base : Nat) (g : Bl) (c : Cs) (M : List (Int × Int)) (out : List Int) (vo : Value) : Prop where mk ::
  env : Env w g c
  di : g.Di base
  o : w.heap[g.bo]? = some (.cells #[vo] c.ts (0, 0))
  s : PSet P tk tb w g.q M
  r : (Kd.int .i64).R c.ti w base g.Ok vo out
theorem St.below (h : St P tk tb w base g c M out vo) (hb : Below w.heap.size w w1) : St P tk tb w1 base g c M out vo :=
  ⟨h.env.map (fun k _ hk => hb.block k hk), h.di, blk_below h.o hb, h.s.below hb, Kd.R_below h.r hb⟩
theorem St.drew (h : St P tk tb w base g c M out vo) : St P tk tb w.drew base g c M out vo :=
  ⟨h.env.map (fun k _ hk => rfl), h.di, h.o, h.s.drew, Kd.R_drew h.r⟩
theorem St.drewN (h : St P tk tb w base g c M out vo) (n : Nat) : St P tk tb (w.drewN n) base g c M out vo := h.below (pw_below_drewN (Below.refl _ _) n)
theorem St.setO (h : St P tk tb w base g c M out vo) (hr : (Kd.int .i64).R c.ti w base g.Ok vo' out') : St P tk tb (w.setCell ⟨g.bo, 0, none⟩ vo') base g c M out' vo' := by
  obtain ⟨p1, p2, p3⟩ := h.di.o
  refine ⟨h.env.map (fun k hk _ => Below.heap_setCell w _ _ k ?_), h.di, blk_put h.o 0 _ rfl, h.s.setCell (h.s.block h.o) _, Kd.R_far hr (fun k hk => hk.2.2.2.1) _⟩
  rcases hk with rfl | rfl | rfl
  · exact p1
  · exact p2
  · exact p3
theorem St.upd (h : St P tk tb w base g c M out vo) (hm : PSet P tk tb w1 g.q M') (hg : w.grownBy w1 (some g.q)) : St P tk tb w1 base g c M' out vo := by
  have n0 := h.s.block h.env.m
  have n2 := h.s.block h.env.v
  have n4 := h.s.block h.env.e
  have n6 := h.s.block h.o
  refine ⟨h.env.map (fun k hk hl => hg.block k hl ?_), h.di, blk_grown h.o hg (fun e => n6 (Option.some.inj e).symm), hm, Kd.R_grown h.r hg (fun k hk e => hk.1 (Option.some.inj e))⟩
  rintro e
  have e := Option.some.inj e
  rcases hk with rfl | rfl | rfl
  · exact n0 e.symm
  · exact n2 e.symm
  · exact n4 e.symm
theorem St.appO (h : St P tk tb w base g c M out vo) (hg : w.grownBy w1 vo.ownBlock) : w1.heap[g.bo]? = some (.cells #[vo] c.ts (0, 0)) :=
  blk_grown h.o hg (fun e => (h.r.1 _ e.symm).2.2.2.1 rfl)
theorem St.app (h : St P tk tb w base g c M out vo) (hr : (Kd.int .i64).R c.ti w1 base g.Ok vo' out') (hg : w.grownBy w1 vo.ownBlock) : St P tk tb (w1.setCell ⟨g.bo, 0, none⟩ vo') base g c M out' vo' := by
  obtain ⟨p1, p2, p3⟩ := h.di.o
  have hne : ∀ k, some k = vo.ownBlock → g.Ok k := fun k e => h.r.1 k e.symm
  refine ⟨h.env.map (fun k hk hl => (Below.heap_setCell w1 _ _ k ?_).trans (hg.block k hl ?_)), h.di, blk_put (h.appO hg) 0 _ rfl, (h.s.kept hg (fun e => (hne _ e).1 rfl)).setCell ?_ _, Kd.R_far hr (fun k hk => hk.2.2.2.1) _⟩
  · rcases hk with rfl | rfl | rfl
    · exact p1
    · exact p2
    · exact p3
  · intro e
    have o := hne _ e
    rcases hk with rfl | rfl | rfl
    · exact o.2.1 rfl
    · exact o.2.2.1 rfl
    · exact o.2.2.2.2 rfl
  · exact h.s.block h.o
def Wq (g : Bl) (vo : Value) (k : Nat) : Prop := k = g.q ∨ k = g.bo ∨ vo.ownBlock = some k
def Fr (w : World) (vo vo' : Value) : Prop := ∀ k, vo'.ownBlock = some k → vo.ownBlock = some k ∨ w.heap.size ≤ k
theorem Fr.refl (w : World) (vo : Value) : Fr w vo vo := fun k hk => .inl hk
theorem Fr.trans {w w1 : World} {a b d : Value} (h : Fr w a b) (k : Fr w1 b d) (hs : w.heap.size ≤ w1.heap.size) : Fr w a d := fun j hj => by
  rcases k j hj with e | e
  · exact h j e
  · exact .inr (Nat.le_trans hs e)
theorem Fr.sub {a b : Value} (h : Fr w a b) : ∀ k, Wq g b k → Wq g a k ∨ w.heap.size ≤ k := fun k hk => by
  rcases hk with e | e | e
  · exact .inl (.inl e)
  · exact .inl (.inr (.inl e))
  · rcases h k e with e | e
    · exact .inl (.inr (.inr e))
    · exact .inr e
theorem Fr.new {a b : Value} {W : World} (h : b.ownBlock = a.ownBlock ∨ ∃ k, b.ownBlock = some k ∧ W.heap.size ≤ k) : Fr W a b := fun k hk => by
  rcases h with e | ⟨j, e, hj⟩
  · exact .inl (e ▸ hk)
  · rw [hk] at e
    cases e
    exact .inr hj
theorem St.lt (h : St P tk tb w base g c M out vo) : ∀ k, Wq g vo k → k < w.heap.size := fun k hk => by
  rcases hk with rfl | rfl | e
  · exact h.s.lt
  · exact blk_lt h.o
  · exact Kd.R_lt h.r k e
theorem St.ge (h : St P tk tb w base g c M out vo) : ∀ k, Wq g vo k → base ≤ k := fun k hk => by
  rcases hk with rfl | rfl | e
  · exact h.di.ge.1
  · exact h.di.ge.2
  · exact Kd.R_base h.r k e
theorem kq_setO {W : World} (h : Kept w W (Wq g vo)) (u : Value) : Kept w (W.setCell ⟨g.bo, 0, none⟩ u) (Wq g vo) := h.setCell (.inl (.inr (.inl rfl))) u
theorem kq_upd {W W1 : World} (h : Kept w W (Wq g vo)) (hg : W.grownBy W1 (some g.q)) : Kept w W1 (Wq g vo) := Kept.of_grown hg h (fun k hk => .inl (.inl (Option.some.inj hk).symm))
theorem kq_app {W W1 : World} (h : Kept w W (Wq g vo)) (hg : W.grownBy W1 vo.ownBlock) : Kept w W1 (Wq g vo) := Kept.of_grown hg h (fun k hk => .inl (.inr (.inr hk)))
theorem below_setO {w0 : World} (h : St P tk tb w w0.heap.size g c M out vo) {W : World} (hb : Below w0.heap.size w0 W) (u : Value) : Below w0.heap.size w0 (W.setCell ⟨g.bo, 0, none⟩ u) := below_set hb h.di.ge.2
theorem below_upd {w0 : World} (h : St P tk tb w w0.heap.size g c M out vo) {W W1 : World} (hb : Below w0.heap.size w0 W) (hg : W.grownBy W1 (some g.q)) : Below w0.heap.size w0 W1 := hb.grown hg hb.size (fun j hj => by cases hj; exact h.di.ge.1)
theorem St.fresh (h : St P tk tb w base g c M out vo) : ∀ k, w.heap.size ≤ k → g.Ok k := fun k hk => by
  have h0 := h.s.lt
  have h1 := blk_lt h.env.m
  have h3 := blk_lt h.env.v
  have h6 := blk_lt h.o
  have h7 := blk_lt h.env.e
  refine ⟨?_, ?_, ?_, ?_, ?_⟩ <;> (rintro rfl; omega)
structure Bx (w : World) (g : Bl) (vo : Value) (gs t : Nat) (x y : Value) : Prop where mk ::
  b : w.heap[gs]? = some (.cells #[x, y] t (0, 0))
  n : ¬ Wq g vo gs
theorem Bx.kept {gs t : Nat} {x y : Value} (h : Bx w g vo gs t x y) (hk : Kept w w1 (Wq g vo)) (hf : Fr w vo vo') : Bx w1 g vo' gs t x y := by
  refine ⟨(hk.2 gs (blk_lt h.b) h.n).trans h.b, fun hw => ?_⟩
  rcases hf.sub gs hw with e | e
  · exact h.n e
  · exact absurd (blk_lt h.b) (Nat.not_lt.2 e)
theorem Bx.below {gs t : Nat} {x y : Value} (h : Bx w g vo gs t x y) (hb : Below w.heap.size w w1) : Bx w1 g vo gs t x y := ⟨blk_below h.b hb, h.n⟩
theorem Bx.drew {gs t : Nat} {x y : Value} (h : Bx w g vo gs t x y) : Bx w.drew g vo gs t x y := ⟨h.b, h.n⟩
theorem run_store_func (P : Program) (w : World) (a : Addr) (m : Mode) (fn : Fn) (first cap : Array Value) : (store a (.func fn first cap) m).run P w = stored P w a (.func fn first cap) m := run_store P w a _ m rfl
section
variable {ops : Array Oper} {Q : Exit → Act → World → Prop}
theorem goesV_ {oi : Oper} {N : Option Tmp} {a : Act} {K : Act → World → Prop} {f : FuncId} {fn : Func} {as : Array Operand} {ts : Array TypeId} {t : Tmp} {cap : Array Value} (hf : P.funcs[f]? = some fn) (hname : (fn.name == "runtime.NumGoroutine") = false) (hb : fn.body.isSome = true) (args : Array Value)
    (hw : Region.wanted oi (yielded ops a.tmps) = true) (hN : oi.dst = N) (hop : oi.op = .call { callee := .value (.tmp t), args := as, argTypes := ts }) (hv : a.eval (.tmp t) = .func (.func f) #[] cap) (hargs : as.map a.eval = args)
    (h : Calls P f (args ++ cap) w fun e w' => ∃ v, e = .returned v ∧ K (a.put N v) w') : if Region.wanted oi (yielded ops a.tmps) = true then Oper.wp P oi a w K Q else K (a.put N undef) w := by
  refine call_ f (args ++ cap) hw hN ?_ h
  have he := enters_ hf hname hb (args ++ cap) w
  have hv' : a.tmps.getD t undef = .func (.func f) #[] cap := hv
  unfold execOp
  simp [hop, resolve, Deferred.ofValue, invoke, Act.eval, hv, hv', hargs, he]
end
theorem take_rdA (xs : List Int) (j : Int) (h0 : 0 ≤ j) (h : j < xs.length) : xs.take (j + 1).toNat = xs.take j.toNat ++ [rd xs j] := by
  have hl : j.toNat < xs.length := by omega
  have e : rd xs j = xs[j.toNat] := by unfold rd; rw [List.getD_eq_getElem?_getD, List.getElem?_eq_getElem hl]; rfl
  rw [e, show (j + 1).toNat = j.toNat + 1 from by omega]
  exact List.take_succ_eq_append_getElem hl
theorem zip_getD {α : Type} (L : List α) (z : α) (i : Nat) (h : i < L.length) : L.zipIdx.getD i (z, 0) = (L.getD i z, i) := by
  rw [List.getD_eq_getElem?_getD, List.getElem?_zipIdx, List.getD_eq_getElem?_getD, List.getElem?_eq_getElem h]
  simp
theorem idx_way : ∀ (way : List Int) (j : Nat) (h : j < way.length), way.Nodup → (∀ i ∈ way, 0 ≤ i) → (way.map Int.toNat).idxOf (way[j].toNat) = j
  | [], j, h, _, _ => by simp at h
  | x :: t, 0, h, _, _ => by simp
  | x :: t, j + 1, h, hd, h0 => by
    rw [List.nodup_cons] at hd
    have hl : j < t.length := by simpa using h
    have hm : t[j] ∈ t := List.getElem_mem hl
    have hne : x.toNat ≠ t[j].toNat := fun e => by
      have h1 := h0 x (by simp)
      have h2 := h0 t[j] (by simp [hm])
      have e2 : x = t[j] := by omega
      exact hd.1 (e2 ▸ hm)
    have ih := idx_way t j hl hd.2 (fun i hi => h0 i (by simp [hi]))
    simp only [List.map_cons, List.getElem_cons_succ]
    have hb : (x.toNat == t[j].toNat) = false := beq_eq_false_iff_ne.mpr hne
    rw [List.idxOf_cons, hb, ih]
    rfl
theorem S_of_way {α : Type} {d : Kd α} {e : Nat} {w : World} {base : Nat} {ok : Nat → Prop} {v : Value} {f : Nat → Nat} {rdl : Int → α} {way : List Int} (hnd : way.Nodup) (h0 : ∀ i ∈ way, 0 ≤ i) (h : (Kd.tag f d).R e w base ok v (way.map fun i => (rdl i, i.toNat))) : Kd.S d e w base ok v (way.map rdl) := by
  obtain ⟨hb, inner, ho, hr⟩ := h
  refine ⟨fun k => (way.map Int.toNat).idxOf (f k), hb, inner, ?_, ?_, fun j p hj => ?_⟩
  · rw [List.length_zipIdx, List.length_map]
    rw [List.length_map] at ho
    exact ho
  · have := hr.1
    rw [List.length_map] at this
    rw [List.length_zipIdx, List.length_map]
    exact this
  · obtain ⟨hl, e1⟩ := List.getElem?_eq_some_iff.1 hj
    rw [List.length_zipIdx, List.length_map] at hl
    rw [List.getElem_zipIdx] at e1
    subst e1
    have h1 := hr.2 j (rdl way[j], way[j].toNat) (by rw [List.getElem?_map, List.getElem?_eq_getElem hl]; rfl)
    simp only [List.getElem_map, Nat.zero_add]
    refine d.M_mono (fun k hk => ⟨hk.1, ?_⟩) h1
    show (way.map Int.toNat).idxOf (f k) = j
    rw [hk.2]
    exact idx_way way j hl hnd h0
end Go.Proofs.Ytmkokfljonbcmaa.AlW
