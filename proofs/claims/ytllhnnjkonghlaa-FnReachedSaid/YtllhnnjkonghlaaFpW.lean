import Derived.Test.YtllhnnjkonghlaaMapSet
import Derived.Test.YtllhnnjkonghlaaWKept
import Derived.Test.YtllhnnjkonghlaaWMore
import Derived.Test.YtllhnnjkonghlaaWLast
namespace Go.Proofs.Ytllhnnjkonghlaa.FpW
open Go Go.RowKit Go.Proofs.YtllhnnjkonghlaaW.PrintWords Go.Proofs.YtllhnnjkonghlaaW.PrintLast Go.Proofs.Ytllhnnjkonghlaa.MapSet
set_option linter.unusedVariables false
set_option linter.unusedSimpArgs false
structure Bl where
  q : Nat
  bm : Nat
  bn : Nat
  bv : Nat
  bp : Nat
  bb : Nat
  bo : Nat
  be : Nat
structure Bl.Di (g : Bl) (base : Nat) : Prop where mk ::
  p : g.bm ≠ g.bp ∧ g.bn ≠ g.bp ∧ g.bv ≠ g.bp ∧ g.bb ≠ g.bp ∧ g.be ≠ g.bp ∧ g.bo ≠ g.bp
  o : g.bm ≠ g.bo ∧ g.bn ≠ g.bo ∧ g.bv ≠ g.bo ∧ g.bb ≠ g.bo ∧ g.be ≠ g.bo
  ge : base ≤ g.q ∧ base ≤ g.bp ∧ base ≤ g.bo
def Bl.Ok (g : Bl) (k : Nat) : Prop := k ≠ g.q ∧ k ≠ g.bm ∧ k ≠ g.bn ∧ k ≠ g.bv ∧ k ≠ g.bp ∧ k ≠ g.bb ∧ k ≠ g.bo ∧ k ≠ g.be
structure Cs where
  tm : Nat
  ti : Nat
  tv : Nat
  ts : Nat
  tf : Nat
  xn : Value
  xv : Value
  xb : Value
  xe : Value
structure Env (w : World) (g : Bl) (c : Cs) : Prop where mk ::
  m : w.heap[g.bm]? = some (.cells #[.map (some g.q)] c.tm (0, 0))
  n : w.heap[g.bn]? = some (.cells #[c.xn] c.ti (0, 0))
  v : w.heap[g.bv]? = some (.cells #[c.xv] c.tv (0, 0))
  b : w.heap[g.bb]? = some (.cells #[c.xb] c.ti (0, 0))
  e : w.heap[g.be]? = some (.cells #[c.xe] c.tf (0, 0))
variable {P : Program} {tk tb base : Nat} {w w1 w2 : World} {g : Bl} {c : Cs} {M M' : List Int} {put x : Int} {out out' : List Int} {vo vo' : Value}
theorem Env.map (h : Env w g c) (hk : ∀ k, (k = g.bm ∨ k = g.bn ∨ k = g.bv ∨ k = g.bb ∨ k = g.be) → k < w.heap.size → w1.heap[k]? = w.heap[k]?) : Env w1 g c :=
  ⟨(hk _ (.inl rfl) (blk_lt h.m)).trans h.m, (hk _ (.inr (.inl rfl)) (blk_lt h.n)).trans h.n, (hk _ (.inr (.inr (.inl rfl))) (blk_lt h.v)).trans h.v, (hk _ (.inr (.inr (.inr (.inl rfl)))) (blk_lt h.b)).trans h.b, (hk _ (.inr (.inr (.inr (.inr rfl)))) (blk_lt h.e)).trans h.e⟩
structure St (P : Program) (tk tb : Nat) (w : World) (base : Nat) (g : Bl) (c : Cs) (M : List Int) (put : Int) (out : List Int) (vo : Value) : Prop where mk ::
  env : Env w g c
  di : g.Di base
  p : w.heap[g.bp]? = some (.cells #[.int .i64 put] c.ti (0, 0))
  o : w.heap[g.bo]? = some (.cells #[vo] c.ts (0, 0))
  s : MSet P tk tb w g.q M
  r : (Kd.int .i64).R c.ti w base g.Ok vo out
theorem St.below (h : St P tk tb w base g c M put out vo) (hb : Below w.heap.size w w1) : St P tk tb w1 base g c M put out vo :=
  ⟨h.env.map (fun k _ hk => hb.block k hk), h.di, blk_below h.p hb, blk_below h.o hb, h.s.below hb, Kd.R_below h.r hb⟩
theorem St.drew (h : St P tk tb w base g c M put out vo) : St P tk tb w.drew base g c M put out vo :=
  ⟨h.env.map (fun k _ hk => rfl), h.di, h.p, h.o, h.s.drew, Kd.R_drew h.r⟩
theorem St.drewN (h : St P tk tb w base g c M put out vo) (n : Nat) : St P tk tb (w.drewN n) base g c M put out vo := h.below (pw_below_drewN (Below.refl _ _) n)
theorem St.alloc (h : St P tk tb w base g c M put out vo) (o : Obj) : St P tk tb (w.alloc o) base g c M put out vo := h.below (below_alloc (Below.refl _ _) o)
theorem St.setP (h : St P tk tb w base g c M put out vo) (x : Int) : St P tk tb (w.setCell ⟨g.bp, 0, none⟩ (.int .i64 x)) base g c M x out vo := by
  obtain ⟨p1, p2, p3, p4, p5, p6⟩ := h.di.p
  refine ⟨h.env.map (fun k hk _ => Below.heap_setCell w _ _ k ?_), h.di, blk_put h.p 0 _ rfl, blk_far h.o p6 _, h.s.setCell (h.s.block h.p) _, Kd.R_far h.r (fun k hk => hk.2.2.2.2.1) _⟩
  rcases hk with rfl | rfl | rfl | rfl | rfl
  · exact p1
  · exact p2
  · exact p3
  · exact p4
  · exact p5
theorem St.setO (h : St P tk tb w base g c M put out vo) (hr : (Kd.int .i64).R c.ti w base g.Ok vo' out') : St P tk tb (w.setCell ⟨g.bo, 0, none⟩ vo') base g c M put out' vo' := by
  obtain ⟨p1, p2, p3, p4, p5⟩ := h.di.o
  refine ⟨h.env.map (fun k hk _ => Below.heap_setCell w _ _ k ?_), h.di, blk_far h.p (Ne.symm h.di.p.2.2.2.2.2) _, blk_put h.o 0 _ rfl, h.s.setCell (h.s.block h.o) _, Kd.R_far hr (fun k hk => hk.2.2.2.2.2.2.1) _⟩
  rcases hk with rfl | rfl | rfl | rfl | rfl
  · exact p1
  · exact p2
  · exact p3
  · exact p4
  · exact p5
theorem St.upd (h : St P tk tb w base g c M put out vo) (hm : MSet P tk tb w1 g.q M') (hg : w.grownBy w1 (some g.q)) : St P tk tb w1 base g c M' put out vo := by
  have n0 := h.s.block h.env.m
  have n1 := h.s.block h.env.n
  have n2 := h.s.block h.env.v
  have n3 := h.s.block h.env.b
  have n4 := h.s.block h.env.e
  have n5 := h.s.block h.p
  have n6 := h.s.block h.o
  refine ⟨h.env.map (fun k hk hl => hg.block k hl ?_), h.di, blk_grown h.p hg (fun e => n5 (Option.some.inj e).symm), blk_grown h.o hg (fun e => n6 (Option.some.inj e).symm), hm, Kd.R_grown h.r hg (fun k hk e => hk.1 (Option.some.inj e))⟩
  rintro e
  have e := Option.some.inj e
  rcases hk with rfl | rfl | rfl | rfl | rfl
  · exact n0 e.symm
  · exact n1 e.symm
  · exact n2 e.symm
  · exact n3 e.symm
  · exact n4 e.symm
theorem St.appO (h : St P tk tb w base g c M put out vo) (hg : w.grownBy w1 vo.ownBlock) : w1.heap[g.bo]? = some (.cells #[vo] c.ts (0, 0)) :=
  blk_grown h.o hg (fun e => (h.r.1 _ e.symm).2.2.2.2.2.2.1 rfl)
theorem St.app (h : St P tk tb w base g c M put out vo) (hr : (Kd.int .i64).R c.ti w1 base g.Ok vo' out') (hg : w.grownBy w1 vo.ownBlock) : St P tk tb (w1.setCell ⟨g.bo, 0, none⟩ vo') base g c M put out' vo' := by
  obtain ⟨p1, p2, p3, p4, p5⟩ := h.di.o
  have hne : ∀ k, some k = vo.ownBlock → g.Ok k := fun k e => h.r.1 k e.symm
  refine ⟨h.env.map (fun k hk hl => (Below.heap_setCell w1 _ _ k ?_).trans (hg.block k hl ?_)), h.di, blk_far (blk_grown h.p hg (fun e => (hne _ e).2.2.2.2.1 rfl)) (Ne.symm h.di.p.2.2.2.2.2) _, blk_put (h.appO hg) 0 _ rfl, (h.s.kept hg (fun e => (hne _ e).1 rfl)).setCell ?_ _, Kd.R_far hr (fun k hk => hk.2.2.2.2.2.2.1) _⟩
  · rcases hk with rfl | rfl | rfl | rfl | rfl
    · exact p1
    · exact p2
    · exact p3
    · exact p4
    · exact p5
  · intro e
    have o := hne _ e
    rcases hk with rfl | rfl | rfl | rfl | rfl
    · exact o.2.1 rfl
    · exact o.2.2.1 rfl
    · exact o.2.2.2.1 rfl
    · exact o.2.2.2.2.2.1 rfl
    · exact o.2.2.2.2.2.2.2 rfl
  · exact h.s.block h.o
def Wq (g : Bl) (vo : Value) (k : Nat) : Prop := k = g.q ∨ k = g.bp ∨ k = g.bo ∨ vo.ownBlock = some k
def Fr (w : World) (vo vo' : Value) : Prop := ∀ k, vo'.ownBlock = some k → vo.ownBlock = some k ∨ w.heap.size ≤ k
theorem Fr.refl (w : World) (vo : Value) : Fr w vo vo := fun k hk => .inl hk
theorem Fr.trans {w w1 : World} {a b d : Value} (h : Fr w a b) (k : Fr w1 b d) (hs : w.heap.size ≤ w1.heap.size) : Fr w a d := fun j hj => by
  rcases k j hj with e | e
  · exact h j e
  · exact .inr (Nat.le_trans hs e)
theorem Fr.sub {a b : Value} (h : Fr w a b) : ∀ k, Wq g b k → Wq g a k ∨ w.heap.size ≤ k := fun k hk => by
  rcases hk with e | e | e | e
  · exact .inl (.inl e)
  · exact .inl (.inr (.inl e))
  · exact .inl (.inr (.inr (.inl e)))
  · rcases h k e with e | e
    · exact .inl (.inr (.inr (.inr e)))
    · exact .inr e
theorem Fr.new {a b : Value} {W : World} (h : b.ownBlock = a.ownBlock ∨ ∃ k, b.ownBlock = some k ∧ W.heap.size ≤ k) : Fr W a b := fun k hk => by
  rcases h with e | ⟨j, e, hj⟩
  · exact .inl (e ▸ hk)
  · rw [hk] at e
    cases e
    exact .inr hj
theorem St.ge (h : St P tk tb w base g c M put out vo) : ∀ k, Wq g vo k → base ≤ k := fun k hk => by
  rcases hk with rfl | rfl | rfl | e
  · exact h.di.ge.1
  · exact h.di.ge.2.1
  · exact h.di.ge.2.2
  · exact Kd.R_base h.r k e
theorem St.lt (h : St P tk tb w base g c M put out vo) : ∀ k, Wq g vo k → k < w.heap.size := fun k hk => by
  rcases hk with rfl | rfl | rfl | e
  · exact h.s.lt
  · exact blk_lt h.p
  · exact blk_lt h.o
  · exact Kd.R_lt h.r k e
theorem nx_app {e b : Nat} {v : Value} {nx : List Int} (hn : (Kd.int .i64).R e w b (fun k => ¬ Wq g vo k) v nx) (hg : w.grownBy w1 vo.ownBlock) (hv : vo'.ownBlock = vo.ownBlock ∨ ∃ k, vo'.ownBlock = some k ∧ w.heap.size ≤ k) : (Kd.int .i64).R e w1 b (fun k => ¬ Wq g vo' k) v nx :=
  Kd.R_mono (Kd.R_grown (ok := fun k => ¬ Wq g vo' k ∧ some k ≠ vo.ownBlock) (Kd.R_mono (Kd.R_bound hn) (fun k hk => by
    refine ⟨fun h => ?_, fun h => hk.1 (.inr (.inr (.inr h.symm)))⟩
    rcases h with h | h | h | h
    · exact hk.1 (.inl h)
    · exact hk.1 (.inr (.inl h))
    · exact hk.1 (.inr (.inr (.inl h)))
    · rcases hv with hv | ⟨j, hj, hle⟩
      · exact hk.1 (.inr (.inr (.inr (hv ▸ h))))
      · rw [h] at hj
        cases hj
        exact absurd hk.2.2.1 (Nat.not_lt.2 hle))) hg (fun k hk => hk.2)) (fun k hk => hk.1)
theorem nx_setO {e b : Nat} {v u : Value} {nx : List Int} (hn : (Kd.int .i64).R e w b (fun k => ¬ Wq g vo k) v nx) : (Kd.int .i64).R e (w.setCell ⟨g.bo, 0, none⟩ u) b (fun k => ¬ Wq g vo k) v nx := Kd.R_far hn (fun k hk e => hk (.inr (.inr (.inl e)))) u
theorem nx_setP {e b : Nat} {v u : Value} {nx : List Int} (hn : (Kd.int .i64).R e w b (fun k => ¬ Wq g vo k) v nx) : (Kd.int .i64).R e (w.setCell ⟨g.bp, 0, none⟩ u) b (fun k => ¬ Wq g vo k) v nx := Kd.R_far hn (fun k hk e => hk (.inr (.inl e))) u
theorem nx_upd {e b : Nat} {v : Value} {nx : List Int} (hn : (Kd.int .i64).R e w b (fun k => ¬ Wq g vo k) v nx) (hg : w.grownBy w1 (some g.q)) : (Kd.int .i64).R e w1 b (fun k => ¬ Wq g vo k) v nx := Kd.R_grown hn hg (fun k hk e => hk (.inl (Option.some.inj e)))
theorem nx_hl {e b n cap : Nat} {A : Option Addr} {nx : List Int} (hn : (Kd.int .i64).R e w b (fun k => ¬ Wq g vo k) (.slice A n cap) nx) : ∀ W', Kept w W' (Wq g vo) → (Kd.int .i64).C W' A n nx := Kd.C_kept_own hn (fun k hk => hk)
theorem nx_new {e N : Nat} {v : Value} {nx : List Int} {W : World} (h : St P tk tb w base g c M put out vo) (hn : (Kd.int .i64).R e W N (fun _ => True) v nx) (hN : w.heap.size ≤ N) : (Kd.int .i64).R e W N (fun k => ¬ Wq g vo k) v nx :=
  Kd.R_mono (Kd.R_bound hn) (fun k hk hw => by have := h.lt k hw; have := hk.2.1; omega)
theorem kq_setP {W : World} (h : Kept w W (Wq g vo)) (u : Value) : Kept w (W.setCell ⟨g.bp, 0, none⟩ u) (Wq g vo) := h.setCell (.inl (.inr (.inl rfl))) u
theorem kq_setO {W : World} (h : Kept w W (Wq g vo)) (u : Value) : Kept w (W.setCell ⟨g.bo, 0, none⟩ u) (Wq g vo) := h.setCell (.inl (.inr (.inr (.inl rfl)))) u
theorem kq_upd {W W1 : World} (h : Kept w W (Wq g vo)) (hg : W.grownBy W1 (some g.q)) : Kept w W1 (Wq g vo) := Kept.of_grown hg h (fun k hk => .inl (.inl (Option.some.inj hk).symm))
theorem kq_app {W W1 : World} (h : Kept w W (Wq g vo)) (hg : W.grownBy W1 vo.ownBlock) : Kept w W1 (Wq g vo) := Kept.of_grown hg h (fun k hk => .inl (.inr (.inr (.inr hk))))
theorem below_setP {w0 : World} (h : St P tk tb w w0.heap.size g c M put out vo) {W : World} (hb : Below w0.heap.size w0 W) (u : Value) : Below w0.heap.size w0 (W.setCell ⟨g.bp, 0, none⟩ u) := below_set hb h.di.ge.2.1
theorem below_setO {w0 : World} (h : St P tk tb w w0.heap.size g c M put out vo) {W : World} (hb : Below w0.heap.size w0 W) (u : Value) : Below w0.heap.size w0 (W.setCell ⟨g.bo, 0, none⟩ u) := below_set hb h.di.ge.2.2
theorem below_upd {w0 : World} (h : St P tk tb w w0.heap.size g c M put out vo) {W W1 : World} (hb : Below w0.heap.size w0 W) (hg : W.grownBy W1 (some g.q)) : Below w0.heap.size w0 W1 := hb.grown hg hb.size (fun j hj => by cases hj; exact h.di.ge.1)
theorem St.fresh (h : St P tk tb w base g c M put out vo) : ∀ k, w.heap.size ≤ k → g.Ok k := fun k hk => by
  have h0 := h.s.lt
  have h1 := blk_lt h.env.m
  have h2 := blk_lt h.env.n
  have h3 := blk_lt h.env.v
  have h4 := blk_lt h.p
  have h5 := blk_lt h.env.b
  have h6 := blk_lt h.o
  have h7 := blk_lt h.env.e
  refine ⟨?_, ?_, ?_, ?_, ?_, ?_, ?_, ?_⟩ <;> (rintro rfl; omega)
theorem Fr.up {w w1 : World} {a b : Value} (h : Fr w1 a b) (hs : w.heap.size ≤ w1.heap.size) : Fr w a b := (Fr.refl w a).trans h hs
theorem St.init {wb we : World} {y1 y2 y3 y4 : Value} {Okr : Nat → Prop} (hn : wb.heap[g.bn]? = some (.cells #[c.xn] c.ti (0, 0))) (hv : wb.heap[g.bv]? = some (.cells #[c.xv] c.tv (0, 0))) (hbb : wb.heap[g.bb]? = some (.cells #[c.xb] c.ti (0, 0)))
    (ho : wb.heap[g.bo]? = some (.cells #[y1] c.ts (0, 0))) (hm : wb.heap[g.bm]? = some (.cells #[y2] c.tm (0, 0))) (hp : wb.heap[g.bp]? = some (.cells #[y3] c.ti (0, 0))) (hs : MSet P tk tb wb g.q M) (hr : (Kd.int .i64).R c.ti wb base Okr vo out) (hOk : ∀ k, Okr k → g.Ok k) (di : g.Di base)
    (hne : g.bn ≠ g.bm ∧ g.bv ≠ g.bm ∧ g.bb ≠ g.bm)
    (hb : Below (((wb.setCell ⟨g.bo, 0, none⟩ vo).setCell ⟨g.bm, 0, none⟩ (.map (some g.q))).setCell ⟨g.bp, 0, none⟩ (.int .i64 put)).heap.size (((wb.setCell ⟨g.bo, 0, none⟩ vo).setCell ⟨g.bm, 0, none⟩ (.map (some g.q))).setCell ⟨g.bp, 0, none⟩ (.int .i64 put)) we)
    (hbox : we.heap[g.be]? = some (.cells #[y4] c.tf (0, 0))) (he : (((wb.setCell ⟨g.bo, 0, none⟩ vo).setCell ⟨g.bm, 0, none⟩ (.map (some g.q))).setCell ⟨g.bp, 0, none⟩ (.int .i64 put)).heap.size ≤ g.be) :
    St P tk tb (we.setCell ⟨g.be, 0, none⟩ c.xe) base g c M put out vo := by
  obtain ⟨p1, p2, p3, p4, p5, p6⟩ := di.p
  obtain ⟨o1, o2, o3, o4, o5⟩ := di.o
  obtain ⟨e1, e2, e3⟩ := hne
  have up : ∀ {k : Nat} {cs : Array Value} {t : Nat}, (((wb.setCell ⟨g.bo, 0, none⟩ vo).setCell ⟨g.bm, 0, none⟩ (.map (some g.q))).setCell ⟨g.bp, 0, none⟩ (.int .i64 put)).heap[k]? = some (.cells cs t (0, 0)) → (we.setCell ⟨g.be, 0, none⟩ c.xe).heap[k]? = some (.cells cs t (0, 0)) := fun {k cs t} h =>
    blk_far (blk_below h hb) (fun e => by have h1 := blk_lt h; rw [show k = g.be from e] at h1; omega) _
  have hq : g.q < (((wb.setCell ⟨g.bo, 0, none⟩ vo).setCell ⟨g.bm, 0, none⟩ (.map (some g.q))).setCell ⟨g.bp, 0, none⟩ (.int .i64 put)).heap.size := by
    have := hs.lt
    simp only [World.setCell, Array.size_modify] at this ⊢
    exact this
  refine ⟨⟨?_, ?_, ?_, ?_, ?_⟩, di, ?_, ?_, ?_, ?_⟩
  · exact up (blk_far (blk_put (blk_far hm o1 _) 0 _ rfl) p1 _)
  · exact up (blk_far (blk_far (blk_far hn o2 _) e1 _) p2 _)
  · exact up (blk_far (blk_far (blk_far hv o3 _) e2 _) p3 _)
  · exact up (blk_far (blk_far (blk_far hbb o4 _) e3 _) p4 _)
  · exact blk_put hbox 0 _ rfl
  · exact up (blk_put (blk_far (blk_far hp (Ne.symm p6) _) (Ne.symm p1) _) 0 _ rfl)
  · exact up (blk_far (blk_far (blk_put ho 0 _ rfl) (Ne.symm o1) _) p6 _)
  · exact (((((hs.setCell (hs.block ho) _).setCell (hs.block hm) _).setCell (hs.block hp) _).below hb)).setCell (fun e => Nat.ne_of_lt (Nat.lt_of_lt_of_le hq he) e) _
  · refine Kd.R_far (Kd.R_below (Kd.R_far (Kd.R_far (Kd.R_far (Kd.R_mono hr hOk) (fun k hk => hk.2.2.2.2.2.2.1) _) (fun k hk => hk.2.1) _) (fun k hk => hk.2.2.2.2.1) _) hb) (fun k hk => hk.2.2.2.2.2.2.2) _
def keptK {α : Type} (d : Kd α) (wz : World) (S : Nat → Prop) : Kd α where
  sz := d.sz
  E := []
  K := fun _ x cs => ∀ W', Kept wz W' S → d.K W' x cs
  M := fun _ _ _ x cs => ∀ W', Kept wz W' S → d.K W' x cs
  K_len := fun h => d.K_len (h wz (Kept.refl wz S))
  K_one := fun h => d.K_one (h wz (Kept.refl wz S))
  K_below := fun _ h => h
  K_of_M := fun h => h
  M_mono := fun _ h => h
  M_bound := fun h => h
  M_move := fun _ h => h
  M_lower := fun _ h => h
theorem keptK_C {d : Kd (List Int)} {wz w W : World} {S : Nat → Prop} {A : Option Addr} {n : Nat} {xs : List (List Int)} (h : (keptK d wz S).C W A n xs) (hz : Kept wz W S) : d.C W A n xs :=
  ReadsRow.imp_ h (Below.refl _ _) (fun _ _ hp => hp W hz)
theorem run_store_func (P : Program) (w : World) (a : Addr) (m : Mode) (fn : Fn) (first cap : Array Value) : (store a (.func fn first cap) m).run P w = stored P w a (.func fn first cap) m := run_store P w a _ m rfl
section
variable {ops : Array Oper} {Q : Exit → Act → World → Prop}
theorem goesV_ {oi : Oper} {N : Option Tmp} {a : Act} {K : Act → World → Prop} {f : FuncId} {fn : Func} {as : Array Operand} {ts : Array TypeId} {t : Tmp} {cap : Array Value} (hf : P.funcs[f]? = some fn) (hname : (fn.name == "runtime.NumGoroutine") = false) (hb : fn.body.isSome = true) (args : Array Value)
    (hw : Region.wanted oi (yielded ops a.tmps) = true) (hN : oi.dst = N) (hop : oi.op = .call { callee := .value (.tmp t), args := as, argTypes := ts }) (hv : a.eval (.tmp t) = .func (.func f) #[] cap) (hargs : as.map a.eval = args)
    (h : Calls P f (args ++ cap) w fun e w' => ∃ v, e = .returned v ∧ K (a.put N v) w') : if Region.wanted oi (yielded ops a.tmps) = true then Oper.wp P oi a w K Q else K (a.put N undef) w := by
  refine call_ f (args ++ cap) hw hN ?_ h
  have he := enters_ hf hname hb (args ++ cap) w
  have hv' : a.tmps.getD t undef = .func (.func f) #[] cap := hv
  unfold execOp
  simp [hop, resolve, Deferred.ofValue, invoke, Act.eval, hv, hv', hargs, he]
end
end Go.Proofs.Ytllhnnjkonghlaa.FpW
