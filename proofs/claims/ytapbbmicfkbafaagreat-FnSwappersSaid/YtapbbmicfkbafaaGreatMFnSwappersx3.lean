import Derived.Test.YtapbbmicfkbafaaGreatMFnSwappersx0
import Derived.Test.YtapbbmicfkbafaaGreatMFnSwappersx1
import Derived.Test.YtapbbmicfkbafaaGreatMFnSwappersx2
namespace Go.Proofs.YtapbbmicfkbafaaGreat.MFnSwappers
open Go.RowKit Go.Proofs.YtapbbmicfkbafaaGreatW.PrintWords Go.Proofs.YtapbbmicfkbafaaGreatW.PrintLast Go.Proofs.YtapbbmicfkbafaaGreatW.PrintMore
attribute [local go_sem] max2_int min2_int max_two min_two max_three min_three max_four min_four   
set_option linter.unusedVariables false
set_option maxHeartbeats 16000000
set_option maxRecDepth 100000
set_option linter.unusedSimpArgs false
def FA (ys : List Int) (r : Int) : Prop := ∃ k b d u p, spec_foAt.f k ys r = some (b, d, u, p, true) ∧ b.length = ys.length ∧ d.length = ys.length ∧ u.length = ys.length ∧ p.length = ys.length + 1
structure FD (l : List Int) : Prop where mk ::
 small : ∀ a s, 0 ≤ a → a ≤ 300000000000 → ∃ k ys a' s', spec_l1Cur_small.f k l a s = some (ys, a', s') ∧ ys.length ≤ 1000 ∧ a ≤ a' ∧ a' ≤ a + 400
 pick : ∀ a s n, 0 ≤ a → a ≤ 900000000000 → ∃ v a' s', spec_l1Cur_pick.f l a s n = some (v, a', s') ∧ a ≤ a' ∧ a' ≤ a + 2 ∧ 0 ≤ v ∧ (v = 0 ∨ v < n)
 among : ∀ a s xs, 0 < xs.length → 0 ≤ a → a ≤ 900000000000 → ∃ v a' s', spec_l1Cur_among.f l a s xs = some (v, a', s') ∧ a ≤ a' ∧ a' ≤ a + 2
 one : ∀ a s n, 0 ≤ a → a ≤ 900000000000 → ∃ o a' s', spec_l1Cur_one.f l a s n = some (o, a', s') ∧ a ≤ a' ∧ a' ≤ a + 2
 at_ : ∀ ys, ys.length ≤ 1000 → ∃ k o, spec_foBases.f k ys = some o ∧ (o = true → ∃ k P m, spec_raProduct.f k ys = some P ∧ spec_l1Least.f P 400 = some m ∧ (∀ r, 0 ≤ r → (r = 0 ∨ r < m) → FA ys r) ∧ FA ys (wrap64 (P - 1)))
open Go.Proofs.YtapbbmicfkbafaaGreat.FoW
structure CX (w0 w W : World) (g : Nat) (l : List Int) (a s : Int) : Prop where mk ::
 i : IsS66 w0 W g l a s
 k : KeepBut w W g none
 m : Below w0.heap.size w0 W
 q : w0.heap.size ≤ w.heap.size
section
variable {w0 w W w1 : World} {g g1 g2 : Nat} {l : List Int} {a s a' s' : Int}
theorem CX.keep (h : CX w0 w W g l a s) (hi : IsS66 w0 w1 g l a' s') (hb : Below w0.heap.size w0 w1) (hk : KeepBut W w1 g none) : CX w0 w w1 g l a' s' := ⟨hi, h.k.trans hk (.inl rfl), hb, h.q⟩
theorem CX.below (h : CX w0 w W g l a s) (hb : Below W.heap.size W w1) : CX w0 w w1 g l a s := ⟨h.i.below hb, h.k.trans (KeepBut.of_below hb g none) (.inl rfl), Z8 h.m hb, h.q⟩
theorem CX.drewN (h : CX w0 w W g l a s) (n : Nat) : CX w0 w (W.drewN n) g l a s := h.below (Z3 (Below.refl _ _) n)
theorem CX.drew (h : CX w0 w W g l a s) : CX w0 w W.drew g l a s := ⟨h.i.drew, keep_drew h.k, Z4 h.m, h.q⟩
theorem CX.set (h : CX w0 w W g l a s) {x : Nat} (hx : w.heap.size ≤ x) (hn : g ≠ x) (j : Nat) (u : Value) : CX w0 w (W.setCell ⟨x, j, none⟩ u) g l a s := ⟨h.i.far hn u, keep_far h.k hx u, Z6 h.m (Nat.le_trans h.q hx), h.q⟩
theorem CX.row {d : Kd Int} {e b : Nat} {ok : Nat → Prop} {v : Value} {xs : List Int} (h : CX w0 w W g l a s) (r : d.R e W b ok v xs) (ht : ∀ q, q ∈ e :: d.E → q ≠ 66) (hk : KeepBut W w1 g none) : d.R e w1 b ok v xs := Z12 (Kd.R_keep (IsS66.apart h.i r ht) hk (fun _ h => h.2)) (fun _ h => h.1)
theorem CX.blk (h : CX w0 w W g l a s) {x t : Nat} {cs : Array Value} (hb : W.heap[x]? = some (.cells cs t (0, 0))) (ht : t ≠ 66) (hk : KeepBut W w1 g none) : w1.heap[x]? = some (.cells cs t (0, 0)) := hk.blk hb (h.i.ne_blk hb ht).symm (by simp)
theorem CX.set4 (h : CX w0 w W g l a s) {x t : Nat} {cs : Array Value} (hb : W.heap[x]? = some (.cells cs t (0, 0))) (ht : t ≠ 66) (hx : w.heap.size ≤ x) (x0 x1 x2 x3 : Value) : CX w0 w (Go.Proofs.YtapbbmicfkbafaaGreat.FoW.set4 W x x0 x1 x2 x3) g l a s :=
 have hn := h.i.ne_blk hb ht
 (((h.set hx hn _ _).set hx hn _ _).set hx hn _ _).set hx hn _ _
theorem CX.new (hI : IsS66 w0 w g l a s) (hB : Below w0.heap.size w0 w) : CX w0 w w g l a s := ⟨hI, KeepBut.refl w g none, hB, hB.size⟩
end
structure FS (w0 w W : World) (g g1 g2 : Nat) (l : List Int) (a s : Int) (v0 v1 v2 v3 : Value) (b d : List Int) (u : List Bool) (p : List Int) : Prop where mk ::
 c : CX w0 w W g l a s
 n1 : W.heap[g1]? = some (.cells YN4 27 (0, 0))
 n2 : W.heap[g2]? = some (.cells #[v0, v1, v2, v3] 27 (0, 0))
 q1 : w.heap.size ≤ g1
 q2 : w.heap.size ≤ g2
 nn : g1 ≠ g2
 v : FoV W w.heap.size v0 v1 v2 v3 b d u p
section
variable {w0 w W w1 : World} {g g1 g2 : Nat} {l : List Int} {a s a' s' : Int} {v0 v1 v2 v3 x0 x1 x2 x3 : Value} {b d b' d' : List Int} {u u' : List Bool} {p p' : List Int} {base : Nat}
theorem _root_.Go.Proofs.YtapbbmicfkbafaaGreat.FoW.FoV.keepC (h : FoV W base v0 v1 v2 v3 b d u p) (c : CX w0 w W g l a s) (hk : KeepBut W w1 g none) : FoV w1 base v0 v1 v2 v3 b d u p :=
 h.map (fun k hk' => by
  obtain ⟨cs, t, e, ht⟩ := h.typed k hk'
  exact hk.2 k (blk_lt e) (c.i.ne_blk e (by rcases ht with rfl | rfl <;> decide)).symm (by simp))
theorem FS.keep (h : FS w0 w W g g1 g2 l a s v0 v1 v2 v3 b d u p) (hi : IsS66 w0 w1 g l a' s') (hb : Below w0.heap.size w0 w1) (hk : KeepBut W w1 g none) : FS w0 w w1 g g1 g2 l a' s' v0 v1 v2 v3 b d u p :=
 ⟨h.c.keep hi hb hk, h.c.blk h.n1 (by decide) hk, h.c.blk h.n2 (by decide) hk, h.q1, h.q2, h.nn, h.v.keepC h.c hk⟩
theorem FS.below (h : FS w0 w W g g1 g2 l a s v0 v1 v2 v3 b d u p) (hb : Below W.heap.size W w1) : FS w0 w w1 g g1 g2 l a s v0 v1 v2 v3 b d u p :=
 ⟨h.c.below hb, Z25 h.n1 hb, Z25 h.n2 hb, h.q1, h.q2, h.nn, h.v.below hb⟩
theorem FS.drewN (h : FS w0 w W g g1 g2 l a s v0 v1 v2 v3 b d u p) (n : Nat) : FS w0 w (W.drewN n) g g1 g2 l a s v0 v1 v2 v3 b d u p := h.below (Z3 (Below.refl _ _) n)
theorem FS.drew (h : FS w0 w W g g1 g2 l a s v0 v1 v2 v3 b d u p) : FS w0 w W.drew g g1 g2 l a s v0 v1 v2 v3 b d u p := ⟨h.c.drew, h.n1, h.n2, h.q1, h.q2, h.nn, h.v.drew⟩
theorem FS.put (h : FS w0 w W g g1 g2 l a s v0 v1 v2 v3 b d u p) (hv : FoV W w.heap.size x0 x1 x2 x3 b' d' u' p') : FS w0 w ((((W.setCell ⟨g2, 0, none⟩ x0).setCell ⟨g2, 1, none⟩ x1).setCell ⟨g2, 2, none⟩ x2).setCell ⟨g2, 3, none⟩ x3) g g1 g2 l a s x0 x1 x2 x3 b' d' u' p' :=
 ⟨h.c.set4 h.n2 (by decide) h.q2 x0 x1 x2 x3, (set4_far W g2 x0 x1 x2 x3 g1 h.nn).trans h.n1, set4_at h.n2 x0 x1 x2 x3, h.q1, h.q2, h.nn, FoV.set4 hv h.n2 (by decide) (by decide) x0 x1 x2 x3⟩
theorem FS.old (h : FS w0 w W g g1 g2 l a s v0 v1 v2 v3 b d u p) {bs : Nat} {ok : Nat → Prop} {v : Value} {xs : List Int} (r : (Kd.int .i64).R 3 W bs ok v xs) : (Kd.int .i64).R 3 ((((W.setCell ⟨g2, 0, none⟩ x0).setCell ⟨g2, 1, none⟩ x1).setCell ⟨g2, 2, none⟩ x2).setCell ⟨g2, 3, none⟩ x3) bs ok v xs :=
 Z12 (Kd.R_move (Kd.R_types r h.n2 (by decide)) (fun k hk => set4_far W g2 x0 x1 x2 x3 k hk.2)) (fun _ h => h.1)
theorem FS.fin (h : FS w0 w W g g1 g2 l a s v0 v1 v2 v3 b d u p) (x0 x1 x2 x3 : Value) : FoV (set4 W g1 x0 x1 x2 x3) w.heap.size v0 v1 v2 v3 b d u p ∧ CX w0 w (set4 W g1 x0 x1 x2 x3) g l a s :=
 ⟨FoV.set4 h.v h.n1 (by decide) (by decide) x0 x1 x2 x3, h.c.set4 h.n1 (by decide) h.q1 x0 x1 x2 x3⟩
theorem ne23 {v v' : Value} {ok ok' : Nat → Prop} (h : (Kd.int .i64).R 3 W base ok v d) (h' : Kd.bool.R 4 W base ok' v' u) {k : Nat} (e : v.ownBlock = some k) : some k ≠ v'.ownBlock := fun e' => by
 obtain ⟨_, o⟩ := Kd.R_own h
 obtain ⟨_, o'⟩ := Kd.R_own h'
 obtain ⟨_, c⟩ := own_typed o k e
 obtain ⟨_, c'⟩ := own_typed o' k e'.symm
 exact ne_of_types c c' (by decide) rfl
theorem _root_.Go.Proofs.YtapbbmicfkbafaaGreat.FoW.FoV.put1 {B n c : Nat} (h : FoV W base v0 (.slice (some ⟨B, 0, none⟩) n c) v2 v3 b d u p) (i x : Int) : FoV (W.setCell ⟨B, i.toNat, none⟩ (.int .i64 x)) base v0 (.slice (some ⟨B, 0, none⟩) n c) v2 v3 b (d.set i.toNat x) u p :=
 ⟨Kd.R_far h.r0 (p := ⟨B, i.toNat, none⟩) (fun k hk e => hk.1 (e ▸ rfl)) _, Kd.R_putn h.r1 i x, Z12 (Kd.R_far (p := ⟨B, i.toNat, none⟩) (Kd.R_far1 h.r2 rfl (ne23 h.r1 h.r2 rfl)) (fun _ hk => hk.2) _) (fun _ h => h.1), Kd.R_far h.r3 (p := ⟨B, i.toNat, none⟩) (fun k hk e => hk.2 (e ▸ rfl)) _⟩
theorem _root_.Go.Proofs.YtapbbmicfkbafaaGreat.FoW.FoV.put3 {B n c : Nat} (h : FoV W base v0 v1 v2 (.slice (some ⟨B, 0, none⟩) n c) b d u p) (i x : Int) : FoV (W.setCell ⟨B, i.toNat, none⟩ (.int .i64 x)) base v0 v1 v2 (.slice (some ⟨B, 0, none⟩) n c) b d u (p.set i.toNat x) :=
 ⟨Kd.R_far h.r0 (p := ⟨B, i.toNat, none⟩) (fun k hk e => hk.2 (e ▸ rfl)) _, Kd.R_far h.r1 (p := ⟨B, i.toNat, none⟩) (fun k hk e => hk.2 (e ▸ rfl)) _, Z12 (Kd.R_far (p := ⟨B, i.toNat, none⟩) (Kd.R_far1 h.r2 rfl (ne23 h.r3 h.r2 rfl)) (fun _ hk => hk.2) _) (fun _ h => h.1), Kd.R_putn h.r3 i x⟩
theorem _root_.Go.Proofs.YtapbbmicfkbafaaGreat.FoW.FoV.put2 {B n c : Nat} (h : FoV W base v0 v1 (.slice (some ⟨B, 0, none⟩) n c) v3 b d u p) (i : Int) (x : Bool) : FoV (W.setCell ⟨B, i.toNat, none⟩ (.bool x)) base v0 v1 (.slice (some ⟨B, 0, none⟩) n c) v3 b d (u.set i.toNat x) p :=
 have f : ∀ {ok : Nat → Prop} {v : Value} {l : List Int}, (Kd.int .i64).R 3 W base ok v l → (Kd.int .i64).R 3 (W.setCell ⟨B, i.toNat, none⟩ (.bool x)) base ok v l := fun r => Z12 (Kd.R_far (p := ⟨B, i.toNat, none⟩) (Kd.R_far1 r rfl (fun e => ne23 r h.r2 e.symm rfl)) (fun _ hk => hk.2) _) (fun _ h => h.1)
 ⟨f h.r0, f h.r1, Kd.R_putn h.r2 i x, f h.r3⟩
theorem FS.row (h : FS w0 w W g g1 g2 l a s v0 v1 v2 v3 b d u p) {B : Nat} {o : Value} (ho : OwnB v0 v1 v2 v3 B) (hg : w.heap.size ≤ B) (i : Nat) (hv : FoV (W.setCell ⟨B, i, none⟩ o) w.heap.size v0 v1 v2 v3 b' d' u' p') : FS w0 w (W.setCell ⟨B, i, none⟩ o) g g1 g2 l a s v0 v1 v2 v3 b' d' u' p' := by
 obtain ⟨cs, t, e, ht⟩ := h.v.typed B ho
 have ab : t ≠ 66 := by rcases ht with rfl | rfl <;> decide
 have aa : 27 ≠ t := by rcases ht with rfl | rfl <;> decide
 exact ⟨h.c.set hg (h.c.i.ne_blk e ab) _ _, blk_far h.n1 (ne_of_types h.n1 e aa) _, blk_far h.n2 (ne_of_types h.n2 e aa) _, h.q1, h.q2, h.nn, hv⟩
theorem FS.app {ok : Nat → Prop} {v6 : Value} (h : FS w0 w W g g1 g2 l a s v0 v1 v2 v3 b d u p) (ho : Kd.bool.R 4 w1 w.heap.size ok v6 u') (hb : Below w.heap.size W w1) (hg : W.grownBy w1 v2.ownBlock) :
  w1.heap[g2]? = some (.cells #[v0, v1, v2, v3] 27 (0, 0)) ∧ FS w0 w (w1.setCell ⟨g2, 2, none⟩ v6) g g1 g2 l a s v0 v1 v6 v3 b d u' p := by
 have c1 : CX w0 w w1 g l a s := ⟨h.c.i.grown hg (h.c.i.own_ne h.v.r2 (by decide)), h.c.k.trans (KeepBut.of_grown hg g) (Kd.R_base2 h.v.r2), below_weaken h.c.m h.c.q hb, h.c.q⟩
 have n1 := blk_grown h.n1 hg (Kd.R_ne h.v.r2 h.n1 (by decide))
 have n2 := blk_grown h.n2 hg (Kd.R_ne h.v.r2 h.n2 (by decide))
 have v : FoV w1 w.heap.size v0 v1 v6 v3 b d u' p := ⟨Kd.R_over' h.v.r0 (Kd.R_typed h.v.r2) (by decide) hg, Kd.R_over' h.v.r1 (Kd.R_typed h.v.r2) (by decide) hg, Z12 ho (fun _ _ => trivial), Kd.R_over' h.v.r3 (Kd.R_typed h.v.r2) (by decide) hg⟩
 exact ⟨n2, c1.set h.q2 (c1.i.ne_blk n2 (by decide)) 2 v6, blk_far n1 h.nn v6, Z26 n2 2 v6 rfl, h.q1, h.q2, h.nn, v.map (fun k hk => Below.heap_setCell _ _ _ _ (v.apart n2 (by decide) (by decide) k hk))⟩
end
theorem spec_l1Cur_focus.calls (g : Nat) (l : List Int) (a s : Int) (w0 w : World) (hI : IsS66 w0 w g l a s) (hB : Below w0.heap.size w0 w) (D : FD l) (h0 : 0 ≤ a) (h1 : a ≤ 200000000000) :
  Calls Tryz.prog 78 #[.pointer (some ⟨g, 0, none⟩)] w fun e w' => ∃ v0 v1 v2 v3 b d u p a' s', e = .returned (.agg #[v0, v1, v2, v3]) ∧ FoV w' w.heap.size v0 v1 v2 v3 b d u p ∧ CX w0 w w' g l a' s' ∧ b.length ≤ 2000 ∧ d.length ≤ 2000 ∧ u.length ≤ 2000 ∧ p.length ≤ 2000 := by
 have hu := Tryz.underlying27
 obtain ⟨k1, ys, a1, s1, e1, y1, y2, y3⟩ := D.small a s h0 (by omega)
 obtain ⟨k2, o, e2, y4⟩ := D.at_ ys y1
 have HD := Ya D
 have A1 := Ya e1
 have A2 := Ya e2
 have HC := Ya (CX.new hI hB)
 clear D e1 e2 hI hB
 cases o
 ·go_enter Tryz.func78, Tryz.ntmps78
  go_wp2_with (first | ((with_reducible refine gate_dst (N := 2) rfl ?_); refine Yx 2 YN4 27 ?_; intro g1 hg w_2 hbox hb; have N1 := Ya hbox; have G1 := Ya (by rw [hg]; exact keep_size (CX.k Q11) : w.heap.size ≤ g1); replace HC := Ya (CX.below Q11 hb); clear hb hbox hg) | ((with_reducible refine gate_callee (f := 95) rfl ?_); refine Yz 9 Tryz.func95 #[.pointer (some ⟨g, 0, none⟩)] ?_ (hargs := Q19); (with_reducible refine (spec_l1Cur_small.calls k1 g l a s ys a1 s1 w0 _ (CX.i Q11) (CX.m Q11) A1.1).mono ?_); rintro e w2 ⟨vy, rfl, ho, hi, hb, hk⟩; refine ⟨_, rfl, ?_⟩; replace N1 := Ya (CX.blk Q11 Q37 (by decide) hk); have HY := Ya (Kd.R_lower ho (keep_size (CX.k Q11))); replace HC := Ya (CX.keep Q11 hi hb hk); clear ho hi hb hk; obtain ⟨Ay, cy, ey⟩ := Z15 HY.1; subst ey) | ((with_reducible refine gate_callee (f := 80) rfl ?_); refine Yz 11 Tryz.func80 #[.slice Ay ys.length cy] ?_ (hargs := Q19); (with_reducible refine (spec_foBases.calls k2 _ _ ys false _ Q32 (Kd.R_reads' HY.1).2.1 A2.1).mono ?_); rintro e w' ⟨rfl, ⟨nd, rfl⟩⟩; refine ⟨_, rfl, ?_⟩; obtain ⟨⟨ad, ae, af, ag⟩, hf0, hf1, hf2, hf3⟩ := LY4 N1.1))
  refine bodyPost_ret (results_cell_row rfl _ _ g1 27 #[.slice Ay ys.length cy, .slice none 0 0, .slice none 0 0, .slice none 0 0] (0, 0) _ rfl (by have h_ := set4_at (Z22 N1.1 nd) (.slice Ay ys.length cy) (.slice none 0 0) (.slice none 0 0) (.slice none 0 0); unfold set4 at h_; exact h_) hu rfl (by kernel_rfl)) rfl ?_
  have hv := FoV.set4 (FoV.drewN (FoV.mk (Z12 HY.1 (fun k _ => ⟨by simp [Value.ownBlock], by simp [Value.ownBlock]⟩)) (Kd.R_nil _ _ _ _ _) (Kd.R_nil _ _ _ _ _) (Kd.R_nil _ _ _ _ _)) nd) (Z22 N1.1 nd) (by decide) (by decide) (.slice Ay ys.length cy) (.slice none 0 0) (.slice none 0 0) (.slice none 0 0)
  have hc := CX.set4 (CX.drewN HC.1 nd) (Z22 N1.1 nd) (by decide) G1.1 (.slice Ay ys.length cy) (.slice none 0 0) (.slice none 0 0) (.slice none 0 0)
  unfold set4 at hv hc
  exact ⟨_, _, _, _, ys, [], [], [], a1, s1, rfl, hv, hc, by omega, by simp, by simp, by simp⟩
 ·obtain ⟨k3, P, m, e3, e4, y5, y6⟩ := y4 rfl
  clear y4
  obtain ⟨r, a2, s2, e5, y7, y8, y9, an⟩ := HD.1.pick a1 s1 m (by omega) (by omega)
  obtain ⟨k4, b, d, u, p, e6, L⟩ := y5 r y9 an
  obtain ⟨o1, a3, s3, e7, ar, au⟩ := HD.1.one a2 s2 6 (by omega) (by omega)
  obtain ⟨x, a4, s4, e8, av, aw, ax, ap⟩ := HD.1.pick a3 s3 16 (by omega) (by omega)
  have A3 := Ya e3
  have A4 := Ya e4
  have A5 := Ya e5
  have A6 := Ya e6
  have A7 := Ya e7
  have A8 := Ya e8
  have HL := Ya L
  have H6 := Ya y6
  clear e3 e4 e5 e6 e7 e8 L y5 y6 an ap
  go_enter Tryz.func78, Tryz.ntmps78
  go_upto_region 5 with (first | ((with_reducible refine gate_dst (N := 2) rfl ?_); refine Yx 2 YN4 27 ?_; intro g1 hg w_2 hbox hb; have N1 := Ya hbox; have G1 := Ya (by rw [hg]; exact keep_size (CX.k Q11) : w.heap.size ≤ g1); replace HC := Ya (CX.below Q11 hb); clear hb hbox hg) | ((with_reducible refine gate_callee (f := 95) rfl ?_); refine Yz 9 Tryz.func95 #[.pointer (some ⟨g, 0, none⟩)] ?_ (hargs := Q19); (with_reducible refine (spec_l1Cur_small.calls k1 g l a s ys a1 s1 w0 _ (CX.i Q11) (CX.m Q11) A1.1).mono ?_); rintro e w2 ⟨vy, rfl, ho, hi, hb, hk⟩; refine ⟨_, rfl, ?_⟩; replace N1 := Ya (CX.blk Q11 Q37 (by decide) hk); have HY := Ya (Kd.R_lower ho (keep_size (CX.k Q11))); replace HC := Ya (CX.keep Q11 hi hb hk); clear ho hi hb hk; obtain ⟨Ay, cy, ey⟩ := Z15 HY.1; subst ey) | ((with_reducible refine gate_callee (f := 80) rfl ?_); refine Yz 11 Tryz.func80 #[.slice Ay ys.length cy] ?_ (hargs := Q19); (with_reducible refine (spec_foBases.calls k2 _ _ ys true _ Q32 (Kd.R_reads' HY.1).2.1 A2.1).mono ?_); rintro e w' ⟨rfl, ⟨nd, rfl⟩⟩; refine ⟨_, rfl, ?_⟩) | ((with_reducible refine gate_callee (f := 83) rfl ?_); refine Yz 19 Tryz.func83 #[.slice Ay ys.length cy] ?_ (hargs := Q19); (with_reducible refine (spec_raProduct.calls k3 _ _ ys P _ Q32 (Kd.R_reads' HY.1).2.1 A3.1).mono ?_); rintro e w' ⟨rfl, ⟨nd, rfl⟩⟩; refine ⟨_, rfl, ?_⟩) | ((with_reducible refine gate_callee (f := 94) rfl ?_); refine Yz 20 Tryz.func94 #[.int .i64 P, .int .i64 400] ?_ (hargs := Q19); (with_reducible refine (spec_l1Least.calls P 400 m _ A4.1).mono ?_); rintro e w' ⟨rfl, ⟨nd, rfl⟩⟩; refine ⟨_, rfl, ?_⟩) | ((with_reducible refine gate_callee (f := 72) rfl ?_); refine Yz 21 Tryz.func72 #[.pointer (some ⟨g, 0, none⟩), .int .i64 m] ?_ (hargs := Q19); (with_reducible refine (spec_l1Cur_pick.calls g l a1 s1 m r a2 s2 w0 _ (CX.i Q11) (CX.m Q11) A5.1).mono ?_); rintro e w3 ⟨rfl, hi, hb, hk⟩; refine ⟨_, rfl, ?_⟩; replace N1 := Ya (CX.blk Q11 Q37 (by decide) hk); replace HY := Ya (CX.row Q11 Q39 (by decide) hk); replace HC := Ya (CX.keep Q11 hi hb hk); clear hi hb hk) | ((with_reducible refine gate_callee (f := 82) rfl ?_); refine Yz 22 Tryz.func82 #[.slice Ay ys.length cy, .int .i64 r] ?_ (hargs := Q19); (with_reducible refine (spec_foAt.calls k4 _ _ ys r b d u p true _ Q32 (Kd.R_reads' HY.1).2.1 A6.1).mono ?_); rintro e w4 ⟨v0, v1, v2, v3, rfl, ah, ai, aj, ak, hb⟩; refine ⟨_, rfl, ?_⟩; have HV := Ya (FoV.mk (Kd.R_lower ah (keep_size (CX.k Q11))) (Kd.R_lower ai (keep_size (CX.k Q11))) (Kd.R_lower aj (keep_size (CX.k Q11))) (Kd.R_lower ak (keep_size (CX.k Q11)))); replace HY := Ya (Z13 Q39 hb); replace N1 := Ya (Z25 Q37 hb); replace HC := Ya (CX.below Q11 hb); clear ah ai aj ak hb; obtain ⟨B0, c0, q0⟩ := Z15 HV.1.r0; obtain ⟨B1, c1, q1⟩ := Z15 HV.1.r1; obtain ⟨B2, c2, q2⟩ := Z15 HV.1.r2; obtain ⟨B3, c3, q3⟩ := Z15 HV.1.r3; subst q0 q1 q2 q3) | ((with_reducible refine gate_dst (N := 4) rfl ?_); refine Yx 4 YN4 27 ?_; intro g2 hg w_4 hbox hb; replace HY := Ya (Z13 Q39 hb); replace HV := Ya (FoV.below (by repeat (first | (with_reducible first | exact HV.1 | apply FoV.drewN | apply FoV.drew) | exact HV.1)) hb); have HS := Ya (FS.mk (v0 := .slice none 0 0) (v1 := .slice none 0 0) (v2 := .slice none 0 0) (v3 := .slice none 0 0) (CX.below Q11 hb) (Z25 Q37 hb) hbox G1.1 (by rw [hg]; exact keep_size (CX.k Q11)) (by rw [hg]; exact Nat.ne_of_lt (blk_lt Q37)) (FoV.mk (Kd.R_nil _ _ _ _ _) (Kd.R_nil _ _ _ _ _) (Kd.R_nil _ _ _ _ _) (Kd.R_nil _ _ _ _ _))); clear HC N1 G1; obtain ⟨⟨ad, ae, af, ag⟩, hf0, hf1, hf2, hf3⟩ := LY4 HS.1.n2; clear hb hbox hg))
  clear ad hf0 ae hf1 af hf2 ag hf3
  have ao := Ya (FS.put (x0 := .slice B0 b.length c0) (x1 := .slice B1 d.length c1) (x2 := .slice B2 u.length c2) (x3 := .slice B3 p.length c3) HS.1 HV.1)
  have HY2 := Ya (FS.old (x0 := .slice B0 b.length c0) (x1 := .slice B1 d.length c1) (x2 := .slice B2 u.length c2) (x3 := .slice B3 p.length c3) HS.1 HY.1)
  clear HS HY HV
  have HS := ao
  have HY := HY2
  clear ao HY2
  generalize (World.setCell (World.setCell (World.setCell (World.setCell _ ⟨g2, 0, none⟩ (.slice B0 b.length c0)) ⟨g2, 1, none⟩ (.slice B1 d.length c1)) ⟨g2, 2, none⟩ (.slice B2 u.length c2)) ⟨g2, 3, none⟩ (.slice B3 p.length c3)) = w5 at HS HY ⊢
  go_cut [31] (fun aq wc => ∃ x5 : Bool, aq = .bool x5 ∧ Aside0 (FS w0 w wc g g1 g2 l a3 s3 (.slice B0 b.length c0) (.slice B1 d.length c1) (.slice B2 u.length c2) (.slice B3 p.length c3) b d u p) ∧ Aside0 ((Kd.int .i64).R 3 wc w.heap.size (fun _ => True) (.slice Ay ys.length cy) ys))
  case first =>
   cases o1
   ·go_wp2_with (first | ((with_reducible refine gate_callee (f := 76) rfl ?_); refine Yz 26 Tryz.func76 #[.pointer (some ⟨g, 0, none⟩), .int .i64 6] ?_ (hargs := Q19); (with_reducible refine (spec_l1Cur_one.calls g l a2 s2 6 false a3 s3 w0 _ (CX.i (FS.c Q7)) (CX.m (FS.c Q7)) A7.1).mono ?_); rintro e w3 ⟨rfl, hi, hb, hk⟩; refine ⟨_, rfl, ?_⟩; replace HY := Ya (CX.row (FS.c Q7) Q39 (by decide) hk); replace HS := Ya (FS.keep Q7 hi hb hk); clear hi hb hk))
    go_meet
    case rel => exact ⟨_, rfl, ⟨Q7⟩, ⟨Q39⟩⟩
   ·go_wp2_with (first | ((with_reducible refine gate_callee (f := 76) rfl ?_); refine Yz 26 Tryz.func76 #[.pointer (some ⟨g, 0, none⟩), .int .i64 6] ?_ (hargs := Q19); (with_reducible refine (spec_l1Cur_one.calls g l a2 s2 6 true a3 s3 w0 _ (CX.i (FS.c Q7)) (CX.m (FS.c Q7)) A7.1).mono ?_); rintro e w3 ⟨rfl, hi, hb, hk⟩; refine ⟨_, rfl, ?_⟩; replace HY := Ya (CX.row (FS.c Q7) Q39 (by decide) hk); replace HS := Ya (FS.keep Q7 hi hb hk); clear hi hb hk) | (go_at_call 83; (with_reducible refine (spec_raProduct.calls k3 _ _ ys P _ Q32 (Kd.R_reads' HY.1).2.1 A3.1).mono ?_); rintro e w' ⟨rfl, ⟨nd, rfl⟩⟩))
    go_meet
    case rel => exact ⟨_, rfl, ⟨Q7⟩, ⟨Q39⟩⟩
  case rest =>
   clear HS HY
   obtain ⟨x5, rfl, HS, HY⟩ := hcut
   go_upto_if 31 with (fail)
   go_cut [] (fun wc => ∃ (v0 v1 v2 v3 : Value) (b d : List Int) (u : List Bool) (p : List Int), Aside0 (FS w0 w wc g g1 g2 l a3 s3 v0 v1 v2 v3 b d u p) ∧ Aside0 (b.length = ys.length ∧ d.length = ys.length ∧ u.length = ys.length ∧ p.length = ys.length + 1))
   case first =>
    cases x5
    ·go_wp2
     go_meet
     case rel => exact ⟨_, _, _, _, _, _, _, _, ⟨Q7⟩, HL⟩
    ·obtain ⟨k5, b', d', u', p', e9, L'⟩ := H6.1
     have A9 := Ya e9
     have HL' := Ya L'
     clear e9 L'
     go_wp2_with (first | ((with_reducible refine gate_callee (f := 83) rfl ?_); refine Yz 35 Tryz.func83 #[.slice Ay ys.length cy] ?_ (hargs := Q19); (with_reducible refine (spec_raProduct.calls k3 _ _ ys P _ Q32 (Kd.R_reads' HY.1).2.1 A3.1).mono ?_); rintro e w' ⟨rfl, ⟨nd, rfl⟩⟩; refine ⟨_, rfl, ?_⟩) | ((with_reducible refine gate_callee (f := 82) rfl ?_); refine Yz 37 Tryz.func82 #[.slice Ay ys.length cy, .int .i64 (wrap64 (P - 1))] ?_ (hargs := Q19); (with_reducible refine (spec_foAt.calls k5 _ _ ys (wrap64 (P - 1)) b' d' u' p' true _ Q32 (Kd.R_reads' HY.1).2.1 A9.1).mono ?_); rintro e w4 ⟨v0, v1, v2, v3, rfl, ah, ai, aj, ak, hb⟩; refine ⟨_, rfl, ?_⟩; have HV := Ya (FoV.mk (Kd.R_lower ah (keep_size (CX.k (FS.c Q7)))) (Kd.R_lower ai (keep_size (CX.k (FS.c Q7)))) (Kd.R_lower aj (keep_size (CX.k (FS.c Q7)))) (Kd.R_lower ak (keep_size (CX.k (FS.c Q7))))); replace HS := Ya (FS.below Q7 hb); clear ah ai aj ak hb; obtain ⟨B0, c0, q0⟩ := Z15 HV.1.r0; obtain ⟨B1, c1, q1⟩ := Z15 HV.1.r1; obtain ⟨B2, c2, q2⟩ := Z15 HV.1.r2; obtain ⟨B3, c3, q3⟩ := Z15 HV.1.r3; subst q0 q1 q2 q3; obtain ⟨⟨ad, ae, af, ag⟩, hf0, hf1, hf2, hf3⟩ := LY4 HS.1.n2))
     go_meet
     case rel => exact ⟨_, _, _, _, _, _, _, _, ⟨FS.put HS.1 HV.1⟩, HL'⟩
   case rest =>
    clear HS HY HL
    obtain ⟨v0, v1, v2, v3, b', d', u', p', HS, HL⟩ := hcut
    obtain ⟨B0, c0, q0⟩ := Z15 HS.1.v.r0
    obtain ⟨B1, c1, q1⟩ := Z15 HS.1.v.r1
    obtain ⟨B2, c2, q2⟩ := Z15 HS.1.v.r2
    obtain ⟨B3, c3, q3⟩ := Z15 HS.1.v.r3
    subst q0 q1 q2 q3
    go_upto_block 0 with (first | ((with_reducible refine gate_callee (f := 72) rfl ?_); refine Yz 41 Tryz.func72 #[.pointer (some ⟨g, 0, none⟩), .int .i64 16] ?_ (hargs := Q19); (with_reducible refine (spec_l1Cur_pick.calls g l a3 s3 16 x a4 s4 w0 _ (CX.i (FS.c Q7)) (CX.m (FS.c Q7)) A8.1).mono ?_); rintro e w3 ⟨rfl, hi, hb, hk⟩; refine ⟨_, rfl, ?_⟩; replace HS := Ya (FS.keep Q7 hi hb hk); clear hi hb hk))
    go_cut [] (fun wc => ∃ (a s : Int) (v0 v1 v2 v3 : Value) (b d : List Int) (u : List Bool) (p : List Int), Aside0 (FS w0 w wc g g1 g2 l a s v0 v1 v2 v3 b d u p) ∧ Aside0 (b.length ≤ 2000 ∧ d.length ≤ 2000 ∧ u.length ≤ 2000 ∧ p.length ≤ 2000))
    case first =>
     by_cases x0 : x = 0
     ·subst x0
      by_cases m0 : 0 < ys.length
      ·have m1 : decide ((ys.length : Int) > 0) = true := Z35 (by omega)
       obtain ⟨i5, a5, s5, ab, z1, z2, z3, z4⟩ := HD.1.pick a4 s4 (ys.length : Int) (by omega) (by omega)
       obtain ⟨zs, hz⟩ : ∃ zs : List Int, zs = [0, 1, (-1), 12] := ⟨_, rfl⟩
       obtain ⟨z, a6, s6, al, z5, z6⟩ := HD.1.among a5 s5 zs (by rw [hz]; decide) (by omega) (by omega)
       have ac := Ya ab
       have am := Ya al
       have Nz := Ya hz
       have P5 := Ya z3
       have Q5 : Aside0 (i5 < (d'.length : Int)) := ⟨by have := HL.1; omega⟩
       clear ab al hz z3 z4
       obtain ⟨G, c9, eG, gG, gl, cG⟩ := Kd.R_form HS.1.v.r1 (by have := Q5.1; have := P5.1; omega)
       injection eG with eG _ ec
       subst eG ec
       have GG := Ya gG
       clear gG gl cG
       go_wp2
       replace HS := Ya (FS.drew HS.1)
       refine start_ (n := 11) (S := fun w' => w'.cell? ⟨g2, 1, none⟩ = some (.slice (some ⟨G, 0, none⟩) d'.length c1)) (ds := [10]) (YA 11 0) (by kernel_rfl) rfl rfl ((Z20 HS.1.n2 1).trans rfl) (fun hHeld => ?_)
       generalize World.drew _ = w5 at HS hHeld ⊢
       refine Yq 0 (some 50) (YA 11 1) rfl ?_
       refine Yq 2 (some 52) (YA 11 5) rfl ?_
       refine Yq 3 (some 53) (YA 11 13) rfl ?_
       refine Yq 4 (some 54) (YA 11 29) rfl ?_
       refine Yq 6 (some 56) (YA 11 93) rfl ?_
       refine take_ (i := 1) (N := some 51) (v := ?_) (a' := ?_) (YA 11 95) rfl rfl (by kernel_rfl) (fun _ _ _ h => h) (Or.inl ⟨by rfl, ?_⟩) hHeld ?_ ?_
       rotate_left
       ·intro w' s0
        go_simp
        with_reducible rfl
       rotate_left
       ·simp only [Act.put, Z0, Z1, Z2, i64_w, i32_w]
        rfl
       refine join_ (σ := Value) 3 (YA 11 255) (fun s_ => [(55, .int .i64 i5), (57, s_)]) (fun s_ w' => (FS w0 w w' g g1 g2 l a5 s5 (.slice B0 b'.length c0) (.slice (some ⟨G, 0, none⟩) d'.length c1) (.slice B2 u'.length c2) (.slice B3 p'.length c3) b' d' u' p') ∧ ((Kd.int .i64).R 3 w' w.heap.size (fun _ => True) s_ zs)) ?_ ?_
       rotate_left
       ·intro hCont
        refine two_ (i := 5) (j := 7) (Ni := some 55) (Nj := some 57) (YA 11 127) (YA 11 223) rfl rfl rfl rfl (by kernel_rfl) (by decide) (by decide) (fun K hK => ?_) (fun K hK => ?_)
        ·skip
         refine goes_ Tryz.func72 (by kernel_rfl) rfl #[.pointer (some ⟨g, 0, none⟩), .int .i64 (ys.length : Int)] (by rfl) rfl rfl Q29 ?_
         with_reducible refine (spec_l1Cur_pick.calls g l a4 s4 (ys.length : Int) i5 a5 s5 w0 _ (CX.i (FS.c Q7)) (CX.m (FS.c Q7)) ac.1).mono ?_
         rintro e w3 ⟨rfl, hi, hb, hk⟩
         refine ⟨_, rfl, ?_⟩
         replace HS := Ya (FS.keep Q7 hi hb hk)
         clear hi hb hk
         refine hK.out _ _ ((Z20 HS.1.n2 1).trans rfl) (fun hHeld => ?_)
         clear hK K
         refine YNa 55 ?_
         refine one_ (i := 7) (N := some 57) (YA 11 255) rfl rfl (by kernel_rfl) (by decide) (fun K hK => ?_)
         refine Kd.R_lit_step (Kd.int .i64) _ 3 ?hg (N := 57) ?hd (xs := ([0, 1, (-1), 12] : List Int)) (inner := [.int .i64 0, .int .i64 1, .int .i64 (-1), .int .i64 12]) (ok := fun _ => True) (okp := fun _ => True) ?hr ?hp (fun _ hk => hk) trivial (Below.refl _ _) (Nat.le_refl _) (by simp) ?_; (case hd => rfl); (case hg => rfl); (case hr => first | (go_simp; done) | (go_simp; rfl)); (case hp => exact (Reps.one (show Kd.M (Kd.int .i64) _ _ _ 0 [.int .i64 0] from rfl) (Reps.one (show Kd.M (Kd.int .i64) _ _ _ 1 [.int .i64 1] from rfl) (Reps.one (show Kd.M (Kd.int .i64) _ _ _ (-1) [.int .i64 (-1)] from rfl) (Reps.one (show Kd.M (Kd.int .i64) _ _ _ 12 [.int .i64 12] from rfl) (Reps.none _ _))))))
         intro vr w3 ho hb hg_ hnew_
         clear hg_ hnew_
         rw [← Nz.1] at ho
         have HR := Ya (Kd.R_lower ho (keep_size (CX.k (FS.c Q7))))
         replace HS := Ya (FS.below Q7 hb)
         clear ho hb
         refine hK.out _ _ ((Z20 HS.1.n2 1).trans rfl) (fun hHeld => ?_)
         clear hK K
         refine YNa 57 ?_
         exact norm_ Q34 (hCont vr _ ⟨HS.1, HR.1⟩)
        ·skip
         refine Kd.R_lit_step (Kd.int .i64) _ 3 ?hg (N := 57) ?hd (xs := ([0, 1, (-1), 12] : List Int)) (inner := [.int .i64 0, .int .i64 1, .int .i64 (-1), .int .i64 12]) (ok := fun _ => True) (okp := fun _ => True) ?hr ?hp (fun _ hk => hk) trivial (Below.refl _ _) (Nat.le_refl _) (by simp) ?_; (case hd => rfl); (case hg => rfl); (case hr => first | (go_simp; done) | (go_simp; rfl)); (case hp => exact (Reps.one (show Kd.M (Kd.int .i64) _ _ _ 0 [.int .i64 0] from rfl) (Reps.one (show Kd.M (Kd.int .i64) _ _ _ 1 [.int .i64 1] from rfl) (Reps.one (show Kd.M (Kd.int .i64) _ _ _ (-1) [.int .i64 (-1)] from rfl) (Reps.one (show Kd.M (Kd.int .i64) _ _ _ 12 [.int .i64 12] from rfl) (Reps.none _ _))))))
         intro vr w3 ho hb hg_ hnew_
         clear hg_ hnew_
         rw [← Nz.1] at ho
         have HR := Ya (Kd.R_lower ho (keep_size (CX.k (FS.c Q7))))
         replace HS := Ya (FS.below Q7 hb)
         clear ho hb
         refine hK.out _ _ ((Z20 HS.1.n2 1).trans rfl) (fun hHeld => ?_)
         clear hK K
         refine YNa 57 ?_
         refine one_ (i := 5) (N := some 55) (YA 11 255) rfl rfl (by kernel_rfl) (by decide) (fun K hK => ?_)
         refine goes_ Tryz.func72 (by kernel_rfl) rfl #[.pointer (some ⟨g, 0, none⟩), .int .i64 (ys.length : Int)] (by rfl) rfl rfl Q29 ?_
         with_reducible refine (spec_l1Cur_pick.calls g l a4 s4 (ys.length : Int) i5 a5 s5 w0 _ (CX.i (FS.c Q7)) (CX.m (FS.c Q7)) ac.1).mono ?_
         rintro e w3 ⟨rfl, hi, hb, hk⟩
         refine ⟨_, rfl, ?_⟩
         replace HR := Ya (CX.row (FS.c HS.1) HR.1 (by decide) hk)
         replace HS := Ya (FS.keep Q7 hi hb hk)
         clear hi hb hk
         refine hK.out _ _ ((Z20 HS.1.n2 1).trans rfl) (fun hHeld => ?_)
         clear hK K
         refine YNa 55 ?_
         exact norm_ Q34 (hCont vr _ ⟨HS.1, HR.1⟩)
       rintro vr w6 ⟨hs_, hr_⟩
       have aa := Ya hs_
       have HR := Ya hr_
       clear HS hs_ hr_
       have HS := aa
       clear aa
       have hHeld : w6.cell? ⟨g2, 1, none⟩ = some (.slice (some ⟨G, 0, none⟩) d'.length c1) := (Z20 HS.1.n2 1).trans rfl
       obtain ⟨Ar, cr, er⟩ := Z15 HR.1
       subst er
       refine YNb ?_
       refine one_ (i := 8) (N := some 58) (YA 11 511) rfl rfl (by kernel_rfl) (by decide) (fun K hK => ?_)
       refine goes_ Tryz.func39 (by kernel_rfl) rfl #[.pointer (some ⟨g, 0, none⟩), .slice Ar zs.length cr] (by rfl) rfl rfl Q29 ?_
       with_reducible refine (spec_l1Cur_among.calls g l a5 s5 _ _ zs z a6 s6 w0 _ (CX.i (FS.c Q7)) (CX.m (FS.c Q7)) (Kd.R_reads' HR.1).2.2 (Kd.R_reads' HR.1).2.1 (far_slice (IsS66.own_ne HS.1.c.i HR.1 (by decide))) am.1).mono ?_
       rintro e w3 ⟨rfl, hi, hb, hk⟩
       refine ⟨_, rfl, ?_⟩
       replace HS := Ya (FS.keep Q7 hi hb hk)
       clear hi hb hk HR
       obtain ⟨hx, hf⟩ := Kd.R_celln 0 HS.1.v.r1 i5 P5.1 Q5.1
       have p5 := eq_true P5.1
       have q5 := eq_true Q5.1
       refine hK.out _ _ ((Z20 HS.1.n2 1).trans rfl) (fun hHeld => ?_)
       clear hK K
       refine YNa 58 ?_
       refine Yq 9 (some 59) (YA 11 1023) rfl ?_
       refine last_ (i := 10) (N := none) (YA 11 2047) rfl rfl (by kernel_rfl) (by decide) (fun K hK => ?_)
       refine YNc ?_
       refine hK.out _ _ ?_
       clear hK K
       refine done_ (by kernel_rfl) ?_
       have aa := Ya (FS.row HS.1 (.inr (.inl rfl)) GG.1 _ (FoV.put1 HS.1.v i5 z))
       go_step
       go_step
       go_meet
       case rel => exact ⟨_, _, _, _, _, _, _, _, _, _, ⟨aa.1⟩, ⟨Q67⟩⟩
      ·have m1 : decide ((ys.length : Int) > 0) = false := Z34 (by omega)
       go_wp2
       go_meet
       case rel => exact ⟨_, _, _, _, _, _, _, _, _, _, ⟨Q7⟩, ⟨by have := HL.1; omega⟩⟩
     ·have nx0 : (x == 0) = false := beq_eq_false_iff_ne.mpr x0
      by_cases x1 : x = 1
      ·subst x1
       obtain ⟨i5, a5, s5, ab, z1, z2, z3, z4⟩ := HD.1.pick a4 s4 (p'.length : Int) (by omega) (by omega)
       obtain ⟨zs, hz⟩ : ∃ zs : List Int, zs = [0, 1, 2, (-1), 99] := ⟨_, rfl⟩
       obtain ⟨z, a6, s6, al, z5, z6⟩ := HD.1.among a5 s5 zs (by rw [hz]; decide) (by omega) (by omega)
       have ac := Ya ab
       have am := Ya al
       have Nz := Ya hz
       have P5 := Ya z3
       have Q5 : Aside0 (i5 < (p'.length : Int)) := ⟨by have := HL.1; omega⟩
       clear ab al hz z3 z4
       obtain ⟨G, c9, eG, gG, gl, cG⟩ := Kd.R_form HS.1.v.r3 (by have := Q5.1; have := P5.1; omega)
       injection eG with eG _ ec
       subst eG ec
       have GG := Ya gG
       clear gG gl cG
       go_wp2
       replace HS := Ya (FS.drew HS.1)
       refine start_ (n := 12) (S := fun w' => w'.cell? ⟨g2, 3, none⟩ = some (.slice (some ⟨G, 0, none⟩) p'.length c3)) (ds := [11]) (YA 12 0) (by kernel_rfl) rfl rfl ((Z20 HS.1.n2 3).trans rfl) (fun hHeld => ?_)
       generalize World.drew _ = w5 at HS hHeld ⊢
       refine Yq 0 (some 63) (YA 12 1) rfl ?_
       refine Yq 2 (some 65) (YA 12 5) rfl ?_
       refine Yq 3 (some 66) (YA 12 13) rfl ?_
       refine Yq 7 (some 70) (YA 12 141) rfl ?_
       refine take_ (i := 1) (N := some 64) (v := ?_) (a' := ?_) (YA 12 143) rfl rfl (by kernel_rfl) (fun _ _ _ h => h) (Or.inl ⟨by rfl, ?_⟩) hHeld ?_ ?_
       rotate_left
       ·intro w' s0
        go_simp
        with_reducible rfl
       rotate_left
       ·simp only [Act.put, Z0, Z1, Z2, i64_w, i32_w]
        rfl
       refine take_ (i := 4) (N := some 67) (v := ?_) (a' := ?_) (YA 12 159) rfl rfl (by kernel_rfl) (fun _ _ _ h => h) (Or.inl ⟨by rfl, ?_⟩) hHeld ?_ ?_
       rotate_left
       ·intro w' s0
        go_simp
        with_reducible rfl
       rotate_left
       ·simp only [Act.put, Z0, Z1, Z2, i64_w, i32_w]
        rfl
       refine Yq 5 (some 68) (YA 12 191) rfl ?_
       refine join_ (σ := Value) 3 (YA 12 511) (fun s_ => [(69, .int .i64 i5), (71, s_)]) (fun s_ w' => (FS w0 w w' g g1 g2 l a5 s5 (.slice B0 b'.length c0) (.slice B1 d'.length c1) (.slice B2 u'.length c2) (.slice (some ⟨G, 0, none⟩) p'.length c3) b' d' u' p') ∧ ((Kd.int .i64).R 3 w' w.heap.size (fun _ => True) s_ zs)) ?_ ?_
       rotate_left
       ·intro hCont
        refine two_ (i := 6) (j := 8) (Ni := some 69) (Nj := some 71) (YA 12 255) (YA 12 447) rfl rfl rfl rfl (by kernel_rfl) (by decide) (by decide) (fun K hK => ?_) (fun K hK => ?_)
        ·skip
         refine goes_ Tryz.func72 (by kernel_rfl) rfl #[.pointer (some ⟨g, 0, none⟩), .int .i64 (p'.length : Int)] (by rfl) rfl rfl Q29 ?_
         with_reducible refine (spec_l1Cur_pick.calls g l a4 s4 (p'.length : Int) i5 a5 s5 w0 _ (CX.i (FS.c Q7)) (CX.m (FS.c Q7)) ac.1).mono ?_
         rintro e w3 ⟨rfl, hi, hb, hk⟩
         refine ⟨_, rfl, ?_⟩
         replace HS := Ya (FS.keep Q7 hi hb hk)
         clear hi hb hk
         refine hK.out _ _ ((Z20 HS.1.n2 3).trans rfl) (fun hHeld => ?_)
         clear hK K
         refine YNa 69 ?_
         refine one_ (i := 8) (N := some 71) (YA 12 511) rfl rfl (by kernel_rfl) (by decide) (fun K hK => ?_)
         refine Kd.R_lit_step (Kd.int .i64) _ 3 ?hg (N := 71) ?hd (xs := ([0, 1, 2, (-1), 99] : List Int)) (inner := [.int .i64 0, .int .i64 1, .int .i64 2, .int .i64 (-1), .int .i64 99]) (ok := fun _ => True) (okp := fun _ => True) ?hr ?hp (fun _ hk => hk) trivial (Below.refl _ _) (Nat.le_refl _) (by simp) ?_; (case hd => rfl); (case hg => rfl); (case hr => first | (go_simp; done) | (go_simp; rfl)); (case hp => exact (Reps.one (show Kd.M (Kd.int .i64) _ _ _ 0 [.int .i64 0] from rfl) (Reps.one (show Kd.M (Kd.int .i64) _ _ _ 1 [.int .i64 1] from rfl) (Reps.one (show Kd.M (Kd.int .i64) _ _ _ 2 [.int .i64 2] from rfl) (Reps.one (show Kd.M (Kd.int .i64) _ _ _ (-1) [.int .i64 (-1)] from rfl) (Reps.one (show Kd.M (Kd.int .i64) _ _ _ 99 [.int .i64 99] from rfl) (Reps.none _ _)))))))
         intro vr w3 ho hb hg_ hnew_
         clear hg_ hnew_
         rw [← Nz.1] at ho
         have HR := Ya (Kd.R_lower ho (keep_size (CX.k (FS.c Q7))))
         replace HS := Ya (FS.below Q7 hb)
         clear ho hb
         refine hK.out _ _ ((Z20 HS.1.n2 3).trans rfl) (fun hHeld => ?_)
         clear hK K
         refine YNa 71 ?_
         exact norm_ Q34 (hCont vr _ ⟨HS.1, HR.1⟩)
        ·skip
         refine Kd.R_lit_step (Kd.int .i64) _ 3 ?hg (N := 71) ?hd (xs := ([0, 1, 2, (-1), 99] : List Int)) (inner := [.int .i64 0, .int .i64 1, .int .i64 2, .int .i64 (-1), .int .i64 99]) (ok := fun _ => True) (okp := fun _ => True) ?hr ?hp (fun _ hk => hk) trivial (Below.refl _ _) (Nat.le_refl _) (by simp) ?_; (case hd => rfl); (case hg => rfl); (case hr => first | (go_simp; done) | (go_simp; rfl)); (case hp => exact (Reps.one (show Kd.M (Kd.int .i64) _ _ _ 0 [.int .i64 0] from rfl) (Reps.one (show Kd.M (Kd.int .i64) _ _ _ 1 [.int .i64 1] from rfl) (Reps.one (show Kd.M (Kd.int .i64) _ _ _ 2 [.int .i64 2] from rfl) (Reps.one (show Kd.M (Kd.int .i64) _ _ _ (-1) [.int .i64 (-1)] from rfl) (Reps.one (show Kd.M (Kd.int .i64) _ _ _ 99 [.int .i64 99] from rfl) (Reps.none _ _)))))))
         intro vr w3 ho hb hg_ hnew_
         clear hg_ hnew_
         rw [← Nz.1] at ho
         have HR := Ya (Kd.R_lower ho (keep_size (CX.k (FS.c Q7))))
         replace HS := Ya (FS.below Q7 hb)
         clear ho hb
         refine hK.out _ _ ((Z20 HS.1.n2 3).trans rfl) (fun hHeld => ?_)
         clear hK K
         refine YNa 71 ?_
         refine one_ (i := 6) (N := some 69) (YA 12 511) rfl rfl (by kernel_rfl) (by decide) (fun K hK => ?_)
         refine goes_ Tryz.func72 (by kernel_rfl) rfl #[.pointer (some ⟨g, 0, none⟩), .int .i64 (p'.length : Int)] (by rfl) rfl rfl Q29 ?_
         with_reducible refine (spec_l1Cur_pick.calls g l a4 s4 (p'.length : Int) i5 a5 s5 w0 _ (CX.i (FS.c Q7)) (CX.m (FS.c Q7)) ac.1).mono ?_
         rintro e w3 ⟨rfl, hi, hb, hk⟩
         refine ⟨_, rfl, ?_⟩
         replace HR := Ya (CX.row (FS.c HS.1) HR.1 (by decide) hk)
         replace HS := Ya (FS.keep Q7 hi hb hk)
         clear hi hb hk
         refine hK.out _ _ ((Z20 HS.1.n2 3).trans rfl) (fun hHeld => ?_)
         clear hK K
         refine YNa 69 ?_
         exact norm_ Q34 (hCont vr _ ⟨HS.1, HR.1⟩)
       rintro vr w6 ⟨hs_, hr_⟩
       have aa := Ya hs_
       have HR := Ya hr_
       clear HS hs_ hr_
       have HS := aa
       clear aa
       have hHeld : w6.cell? ⟨g2, 3, none⟩ = some (.slice (some ⟨G, 0, none⟩) p'.length c3) := (Z20 HS.1.n2 3).trans rfl
       obtain ⟨Ar, cr, er⟩ := Z15 HR.1
       subst er
       refine YNb ?_
       refine one_ (i := 9) (N := some 72) (YA 12 1023) rfl rfl (by kernel_rfl) (by decide) (fun K hK => ?_)
       refine goes_ Tryz.func39 (by kernel_rfl) rfl #[.pointer (some ⟨g, 0, none⟩), .slice Ar zs.length cr] (by rfl) rfl rfl Q29 ?_
       with_reducible refine (spec_l1Cur_among.calls g l a5 s5 _ _ zs z a6 s6 w0 _ (CX.i (FS.c Q7)) (CX.m (FS.c Q7)) (Kd.R_reads' HR.1).2.2 (Kd.R_reads' HR.1).2.1 (far_slice (IsS66.own_ne HS.1.c.i HR.1 (by decide))) am.1).mono ?_
       rintro e w3 ⟨rfl, hi, hb, hk⟩
       refine ⟨_, rfl, ?_⟩
       replace HS := Ya (FS.keep Q7 hi hb hk)
       clear hi hb hk HR
       obtain ⟨hx, hf⟩ := Kd.R_celln 0 HS.1.v.r3 i5 P5.1 Q5.1
       have p5 := eq_true P5.1
       have q5 := eq_true Q5.1
       refine hK.out _ _ ((Z20 HS.1.n2 3).trans rfl) (fun hHeld => ?_)
       clear hK K
       refine YNa 72 ?_
       refine Yq 10 (some 73) (YA 12 2047) rfl ?_
       refine last_ (i := 11) (N := none) (YA 12 4095) rfl rfl (by kernel_rfl) (by decide) (fun K hK => ?_)
       refine YNc ?_
       refine hK.out _ _ ?_
       clear hK K
       refine done_ (by kernel_rfl) ?_
       have aa := Ya (FS.row HS.1 (.inr (.inr (.inr rfl))) GG.1 _ (FoV.put3 HS.1.v i5 z))
       go_step
       go_step
       go_meet
       case rel => exact ⟨_, _, _, _, _, _, _, _, _, _, ⟨aa.1⟩, ⟨Q67⟩⟩
      ·have nx1 : (x == 1) = false := beq_eq_false_iff_ne.mpr x1
       by_cases x2 : x = 2
       ·subst x2
        by_cases m0 : 0 < ys.length
        ·have m1 : decide ((ys.length : Int) > 0) = true := Z35 (by omega)
         obtain ⟨i5, a5, s5, ab, z1, z2, z3, z4⟩ := HD.1.pick a4 s4 (ys.length : Int) (by omega) (by omega)
         have ac := Ya ab
         have P5 := Ya z3
         have Q5 : Aside0 (i5 < (u'.length : Int)) := ⟨by have := HL.1; omega⟩
         clear ab z3 z4
         obtain ⟨G, c9, eG, gG, gl, cG⟩ := Kd.R_form HS.1.v.r2 (by have := Q5.1; have := P5.1; omega)
         injection eG with eG _ ec
         subst eG ec
         have GG := Ya gG
         clear gG gl cG
         go_upto_region 14 with (first | ((with_reducible refine gate_callee (f := 72) rfl ?_); refine Yz 85 Tryz.func72 #[.pointer (some ⟨g, 0, none⟩), .int .i64 (ys.length : Int)] ?_ (hargs := Q19); (with_reducible refine (spec_l1Cur_pick.calls g l a4 s4 (ys.length : Int) i5 a5 s5 w0 _ (CX.i (FS.c Q7)) (CX.m (FS.c Q7)) ac.1).mono ?_); rintro e w3 ⟨rfl, hi, hb, hk⟩; refine ⟨_, rfl, ?_⟩; replace HS := Ya (FS.keep Q7 hi hb hk); clear hi hb hk))
         have p5 := eq_true P5.1
         have q5 := eq_true Q5.1
         replace HS := Ya (FS.drew HS.1)
         refine start_ (n := 11) (S := fun w' => w'.cell? ⟨g2, 2, none⟩ = some (.slice (some ⟨G, 0, none⟩) u'.length c2) ∧ w'.cell? ⟨G, i5.toNat, none⟩ = some (.bool (rdOf false u' i5))) (ds := [10]) (YA 11 0) (by kernel_rfl) rfl rfl ⟨(Z20 HS.1.n2 2).trans rfl, (Kd.R_celln false HS.1.v.r2 i5 P5.1 Q5.1).1⟩ (fun hHeld => ?_)
         generalize World.drew _ = w5 at HS hHeld ⊢
         refine Yq 0 (some 86) (YA 11 1) rfl ?_
         refine Yq 2 (some 88) (YA 11 5) rfl ?_
         refine Yq 3 (some 89) (YA 11 13) rfl ?_
         refine Yq 5 (some 91) (YA 11 45) rfl ?_
         refine Ys 1 (some 87) (YA 11 47) rfl hHeld Q26 ?_
         refine Ys 4 (some 90) (YA 11 63) rfl hHeld Q26 ?_
         refine Yq 6 (some 92) (YA 11 127) rfl ?_
         refine Ys 7 (some 93) (YA 11 255) rfl hHeld Q26 ?_
         refine Yq 8 (some 94) (YA 11 511) rfl ?_
         refine Yq 9 (some 95) (YA 11 1023) rfl ?_
         refine last_ (i := 10) (N := none) (YA 11 2047) rfl rfl (by kernel_rfl) (by decide) (fun K hK => ?_)
         have hf := (Kd.R_celln false HS.1.v.r2 i5 P5.1 Q5.1).2
         refine YNc ?_
         refine hK.out _ _ ?_
         clear hK K
         refine done_ (by kernel_rfl) ?_
         have aa := Ya (FS.row HS.1 (.inr (.inr (.inl rfl))) GG.1 _ (FoV.put2 HS.1.v i5 (!rdOf false u' i5)))
         go_step
         go_step
         go_meet
         case rel => exact ⟨_, _, _, _, _, _, _, _, _, _, ⟨aa.1⟩, ⟨Q67⟩⟩
        ·have m1 : decide ((ys.length : Int) > 0) = false := Z34 (by omega)
         go_wp2
         go_meet
         case rel => exact ⟨_, _, _, _, _, _, _, _, _, _, ⟨Q7⟩, ⟨by have := HL.1; omega⟩⟩
       ·have nx2 : (x == 2) = false := beq_eq_false_iff_ne.mpr x2
        by_cases x3 : x = 3
        ·subst x3
         obtain ⟨⟨hcd0, hcd1, hcd2, hcd3⟩, hfd0, hfd1, hfd2, hfd3⟩ := LY4 HS.1.n2
         go_wp2_with (first | ((with_reducible refine gate_builtin (b := .append) (xs := #[.tmp 100, .tmp 101]) rfl ?_); at_builtin; refine Kd.R_append Kd.bool w.heap.size rfl (.tmp 100) (.tmp 101) 25 4 (.bool false) 1 rfl Tryz.underlying25 info4 rfl (by decide) (by omega) (.slice B2 u'.length c2) u' true [.bool true] (fun _ => True) (fun _ => False) rfl rfl ?aP (fun _ hk => hk.elim) ?aF ?aO (Below.refl _ _) ?aS ?aL ?_; (case aP => exact rfl); (case aF => exact (fun _ _ => trivial)); (case aO => exact (FS.v Q7).r2); (case aS => exact (keep_size (CX.k (FS.c Q7)))); (case aL => have := HL.1; omega); intro v6 w6 ho hb hg hat; obtain ⟨A6, c6, q6⟩ := Z15 ho; subst q6; obtain ⟨hn, hs_⟩ := FS.app Q7 ho hb hg; simp only [List.length_append, List.length_singleton] at hs_; have aa := Ya hs_; have Hn := Ya hn; clear ho hb hg hat hn hs_ HS; obtain ⟨⟨ad, ae, af, ag⟩, hf0, hf1, hf2, hf3⟩ := LY4 Hn.1))
         go_meet
         case rel => exact ⟨_, _, _, _, _, _, _, _, _, _, ⟨aa.1⟩, ⟨by have := HL.1; simp only [List.length_append, List.length_singleton]; omega⟩⟩
        ·have nx3 : (x == 3) = false := beq_eq_false_iff_ne.mpr x3
         go_wp2
         go_meet
         case rel => exact ⟨_, _, _, _, _, _, _, _, _, _, ⟨Q7⟩, ⟨by have := HL.1; omega⟩⟩
    case rest =>
     clear HS HL
     obtain ⟨a9, s9, v0, v1, v2, v3, b', d', u', p', HS, HL⟩ := hcut
     obtain ⟨B0, c0, q0⟩ := Z15 HS.1.v.r0
     obtain ⟨B1, c1, q1⟩ := Z15 HS.1.v.r1
     obtain ⟨B2, c2, q2⟩ := Z15 HS.1.v.r2
     obtain ⟨B3, c3, q3⟩ := Z15 HS.1.v.r3
     subst q0 q1 q2 q3
     obtain ⟨⟨ad, ae, af, ag⟩, hf0, hf1, hf2, hf3⟩ := LY4 HS.1.n2
     obtain ⟨⟨hcd0, hcd1, hcd2, hcd3⟩, hfd0, hfd1, hfd2, hfd3⟩ := LY4 HS.1.n1
     have hn1 := HS.1.nn
     have hn2 := HS.1.nn.symm
     go_wp2
     refine bodyPost_ret (results_cell_row rfl _ _ g1 27 #[.slice B0 b'.length c0, .slice B1 d'.length c1, .slice B2 u'.length c2, .slice B3 p'.length c3] (0, 0) _ rfl (by have h_ := set4_at HS.1.n1 (.slice B0 b'.length c0) (.slice B1 d'.length c1) (.slice B2 u'.length c2) (.slice B3 p'.length c3); unfold set4 at h_; exact h_) hu rfl (by kernel_rfl)) rfl ?_
     obtain ⟨hv, hc⟩ := FS.fin HS.1 (.slice B0 b'.length c0) (.slice B1 d'.length c1) (.slice B2 u'.length c2) (.slice B3 p'.length c3)
     unfold set4 at hv hc
     exact ⟨_, _, _, _, b', d', u', p', _, _, rfl, hv, hc, HL.1⟩
def SA (n r : Int) : Prop := ∃ k b d u p it wh o, spec_foSwapperAt.f k n r = some (b, d, u, p, it, wh, o) ∧ (b.length ≤ 1000 ∧ d.length ≤ 1000 ∧ u.length ≤ 1000 ∧ p.length ≤ 1000 ∧ it.length ≤ 1000 ∧ wh.length ≤ 1000) ∧ n ≤ wh.length
structure SD (l : List Int) : Prop where mk ::
 D : FD l
 at_ : ∀ n, 1 ≤ n → n ≤ 5 → ∃ k F, spec_raFactorial.f k n = some F ∧ (∀ r, 0 ≤ r → (r = 0 ∨ r < F) → SA n r) ∧ SA n (wrap64 (F - 1))
 order : ∀ a s n, 1 ≤ n → n ≤ 5 → 0 ≤ a → a ≤ 600000000000 → ∃ k it a' s', spec_l1Cur_order.f k l a s n = some (it, a', s') ∧ it.length ≤ 2000
theorem wn {q : Int} (h0 : 0 ≤ q) (h : q = 0 ∨ q < 5) : 1 ≤ wrap64 (1 + q) ∧ wrap64 (1 + q) ≤ 5 := by
 unfold wrap64; omega
open Go.Proofs.YtapbbmicfkbafaaGreat.FoW Go.Proofs.YtapbbmicfkbafaaGreat.SwW Go.Proofs.YtapbbmicfkbafaaGreat.SwL Go.Proofs.YtapbbmicfkbafaaGreat.StpW
theorem LY6 {W : World} {g t : Nat} {v0 v1 v2 v3 v4 v5 : Value} (h : W.heap[g]? = some (.cells #[v0, v1, v2, v3, v4, v5] t (0, 0))) : (W.cell? ⟨g, 0, none⟩ = some v0 ∧ W.cell? ⟨g, 1, none⟩ = some v1 ∧ W.cell? ⟨g, 2, none⟩ = some v2 ∧ W.cell? ⟨g, 3, none⟩ = some v3 ∧ W.cell? ⟨g, 4, none⟩ = some v4 ∧ W.cell? ⟨g, 5, none⟩ = some v5) ∧ W.frozen? ⟨g, 0, none⟩ = false ∧ W.frozen? ⟨g, 1, none⟩ = false ∧ W.frozen? ⟨g, 2, none⟩ = false ∧ W.frozen? ⟨g, 3, none⟩ = false ∧ W.frozen? ⟨g, 4, none⟩ = false ∧ W.frozen? ⟨g, 5, none⟩ = false := ⟨⟨(Z20 h 0).trans rfl, (Z20 h 1).trans rfl, (Z20 h 2).trans rfl, (Z20 h 3).trans rfl, (Z20 h 4).trans rfl, (Z20 h 5).trans rfl⟩, Z21 h 0, Z21 h 1, Z21 h 2, Z21 h 3, Z21 h 4, Z21 h 5⟩
structure SX (w0 w W : World) (g g1 g2 : Nat) (l : List Int) (a s : Int) (v0 v1 v2 v3 v4 v5 : Value) (b d : List Int) (u : List Bool) (p it wh : List Int) : Prop where mk ::
 c : CX w0 w W g l a s
 n1 : W.heap[g1]? = some (.cells YN6 29 (0, 0))
 n2 : W.heap[g2]? = some (.cells #[v0, v1, v2, v3, v4, v5] 29 (0, 0))
 q1 : w.heap.size ≤ g1
 q2 : w.heap.size ≤ g2
 nn : g1 ≠ g2
 v : SwC W w.heap.size v0 v1 v2 v3 v4 v5 b d u p it wh
structure SS (w0 w W : World) (g g1 g2 : Nat) (l : List Int) (a s : Int) (v0 v1 v2 v3 v4 v5 : Value) (b d : List Int) (u : List Bool) (p it wh : List Int) : Prop where mk ::
 c : CX w0 w W g l a s
 n1 : W.heap[g1]? = some (.cells YN6 29 (0, 0))
 n2 : W.heap[g2]? = some (.cells #[v0, v1, v2, v3, v4, v5] 29 (0, 0))
 q1 : w.heap.size ≤ g1
 q2 : w.heap.size ≤ g2
 nn : g1 ≠ g2
 v : SwV W w.heap.size v0 v1 v2 v3 v4 v5 b d u p it wh
section
variable {w0 w W w1 : World} {g g1 g2 : Nat} {l : List Int} {a s a' s' : Int} {v0 v1 v2 v3 v4 v5 x0 x1 x2 x3 x4 x5 : Value} {b d b' d' : List Int} {u u' : List Bool} {p p' it wh it' wh' : List Int} {base : Nat}
theorem CX.set6 (h : CX w0 w W g l a s) {x t : Nat} {cs : Array Value} (hb : W.heap[x]? = some (.cells cs t (0, 0))) (ht : t ≠ 66) (hx : w.heap.size ≤ x) (x0 x1 x2 x3 x4 x5 : Value) : CX w0 w (Go.Proofs.YtapbbmicfkbafaaGreat.SwW.set6 W x x0 x1 x2 x3 x4 x5) g l a s :=
 have hn := h.i.ne_blk hb ht
 (((((h.set hx hn _ _).set hx hn _ _).set hx hn _ _).set hx hn _ _).set hx hn _ _).set hx hn _ _
theorem SS.keep (h : SS w0 w W g g1 g2 l a s v0 v1 v2 v3 v4 v5 b d u p it wh) (hi : IsS66 w0 w1 g l a' s') (hb : Below w0.heap.size w0 w1) (hk : KeepBut W w1 g none) : SS w0 w w1 g g1 g2 l a' s' v0 v1 v2 v3 v4 v5 b d u p it wh :=
 ⟨h.c.keep hi hb hk, h.c.blk h.n1 (by decide) hk, h.c.blk h.n2 (by decide) hk, h.q1, h.q2, h.nn, h.v.map (fun k hk' => by
  obtain ⟨cs, t, e, ht⟩ := h.v.typed k hk'
  exact hk.2 k (blk_lt e) (h.c.i.ne_blk e (by rcases ht with rfl | rfl <;> decide)).symm (by simp))⟩
theorem SS.below (h : SS w0 w W g g1 g2 l a s v0 v1 v2 v3 v4 v5 b d u p it wh) (hb : Below W.heap.size W w1) : SS w0 w w1 g g1 g2 l a s v0 v1 v2 v3 v4 v5 b d u p it wh :=
 ⟨h.c.below hb, Z25 h.n1 hb, Z25 h.n2 hb, h.q1, h.q2, h.nn, h.v.below hb⟩
theorem SS.drewN (h : SS w0 w W g g1 g2 l a s v0 v1 v2 v3 v4 v5 b d u p it wh) (n : Nat) : SS w0 w (W.drewN n) g g1 g2 l a s v0 v1 v2 v3 v4 v5 b d u p it wh := h.below (Z3 (Below.refl _ _) n)
theorem SS.drew (h : SS w0 w W g g1 g2 l a s v0 v1 v2 v3 v4 v5 b d u p it wh) : SS w0 w W.drew g g1 g2 l a s v0 v1 v2 v3 v4 v5 b d u p it wh := ⟨h.c.drew, h.n1, h.n2, h.q1, h.q2, h.nn, h.v.drew⟩
theorem SS.weak (h : SS w0 w W g g1 g2 l a s v0 v1 v2 v3 v4 v5 b d u p it wh) : SX w0 w W g g1 g2 l a s v0 v1 v2 v3 v4 v5 b d u p it wh := ⟨h.c, h.n1, h.n2, h.q1, h.q2, h.nn, h.v.weak⟩
theorem SS.put (h : SS w0 w W g g1 g2 l a s v0 v1 v2 v3 v4 v5 b d u p it wh) (hv : SwV W w.heap.size x0 x1 x2 x3 x4 x5 b' d' u' p' it' wh') : SS w0 w (set6 W g2 x0 x1 x2 x3 x4 x5) g g1 g2 l a s x0 x1 x2 x3 x4 x5 b' d' u' p' it' wh' :=
 ⟨h.c.set6 h.n2 (by decide) h.q2 x0 x1 x2 x3 x4 x5, (set6_far W g2 x0 x1 x2 x3 x4 x5 g1 h.nn).trans h.n1, set6_at h.n2 x0 x1 x2 x3 x4 x5, h.q1, h.q2, h.nn, SwV.set6 hv h.n2 (by decide) (by decide) x0 x1 x2 x3 x4 x5⟩
theorem SX.fin (h : SX w0 w W g g1 g2 l a s v0 v1 v2 v3 v4 v5 b d u p it wh) (x0 x1 x2 x3 x4 x5 : Value) : SwC (set6 W g1 x0 x1 x2 x3 x4 x5) w.heap.size v0 v1 v2 v3 v4 v5 b d u p it wh ∧ CX w0 w (set6 W g1 x0 x1 x2 x3 x4 x5) g l a s :=
 ⟨SwC.set6 h.v h.n1 (by decide) (by decide) x0 x1 x2 x3 x4 x5, h.c.set6 h.n1 (by decide) h.q1 x0 x1 x2 x3 x4 x5⟩
theorem SS.item (h : SS w0 w W g g1 g2 l a s v0 v1 v2 v3 v4 v5 b d u p it wh) {ok : Nat → Prop} (r : (Kd.int .i64).R 3 W w.heap.size ok x4 it') : SX w0 w (W.setCell ⟨g2, 4, none⟩ x4) g g1 g2 l a s v0 v1 v2 v3 x4 v5 b d u p it' wh := by
 have c : SwC W w.heap.size v0 v1 v2 v3 x4 v5 b d u p it' wh := ⟨h.v.weak.r0, h.v.weak.r1, h.v.weak.r2, h.v.weak.r3, Z12 r (fun _ _ => trivial), h.v.weak.r5⟩
 refine ⟨h.c.set h.q2 (h.c.i.ne_blk h.n2 (by decide)) _ _, blk_far h.n1 h.nn _, Z26 h.n2 4 _ rfl, h.q1, h.q2, h.nn, c.map (fun k hk => Below.heap_setCell _ _ _ _ ?_)⟩
 rintro rfl
 obtain ⟨c', t', e, ht⟩ := c.typed _ hk
 rw [h.n2] at e
 injection e with e
 injection e with _ e _
 rcases ht with ht | ht <;> exact absurd (e.trans ht) (by decide)
theorem SS.foc (h : SS w0 w W g g1 g2 l a s v0 v1 v2 v3 v4 v5 b d u p it wh) (r : FoV W base x0 x1 x2 x3 b' d' u' p') (hs : w.heap.size ≤ base) : SX w0 w (set4 W g2 x0 x1 x2 x3) g g1 g2 l a s x0 x1 x2 x3 v4 v5 b' d' u' p' it wh := by
 have m : ∀ {ok : Nat → Prop} {v : Value} {xs : List Int}, (Kd.int .i64).R 3 W base ok v xs → (Kd.int .i64).R 3 W w.heap.size (fun _ => True) v xs := fun r => Z12 (Kd.R_lower r hs) (fun _ _ => trivial)
 have c : SwC W w.heap.size x0 x1 x2 x3 v4 v5 b' d' u' p' it wh := ⟨m r.r0, m r.r1, Kd.R_lower r.r2 hs, m r.r3, h.v.weak.r4, h.v.weak.r5⟩
 refine ⟨h.c.set4 h.n2 (by decide) h.q2 x0 x1 x2 x3, (set4_far W g2 x0 x1 x2 x3 g1 h.nn).trans h.n1, blk_set (blk_set (blk_set (blk_set h.n2 0 x0) 1 x1) 2 x2) 3 x3, h.q1, h.q2, h.nn, c.map (fun k hk => set4_far W g2 x0 x1 x2 x3 k ?_)⟩
 rintro rfl
 obtain ⟨c', t', e, ht⟩ := c.typed _ hk
 rw [h.n2] at e
 injection e with e
 injection e with _ e _
 rcases ht with ht | ht <;> exact absurd (e.trans ht) (by decide)
theorem SS.row {B n c : Nat} (h : SS w0 w W g g1 g2 l a s v0 v1 v2 v3 v4 (.slice (some ⟨B, 0, none⟩) n c) b d u p it wh) (hg : w.heap.size ≤ B) (i x : Int) : SX w0 w (W.setCell ⟨B, i.toNat, none⟩ (.int .i64 x)) g g1 g2 l a s v0 v1 v2 v3 v4 (.slice (some ⟨B, 0, none⟩) n c) b d u p it (wh.set i.toNat x) := by
 obtain ⟨cs, t, e, ht⟩ := h.v.typed B (.inr (.inr (.inr (.inr (.inr rfl)))))
 have ab : t ≠ 66 := by rcases ht with rfl | rfl <;> decide
 have aa : 29 ≠ t := by rcases ht with rfl | rfl <;> decide
 have f : ∀ {ok : Nat → Prop} {v : Value} {xs : List Int}, (Kd.int .i64).R 3 W w.heap.size ok v xs → (∀ k, ok k → some k ≠ (Value.slice (some ⟨B, 0, none⟩) n c).ownBlock) → (Kd.int .i64).R 3 (W.setCell ⟨B, i.toNat, none⟩ (.int .i64 x)) w.heap.size (fun _ => True) v xs := fun r hn => Z12 (Kd.R_far r (p := ⟨B, i.toNat, none⟩) (fun k hk e => hn k hk (e ▸ rfl)) _) (fun _ _ => trivial)
 exact ⟨h.c.set hg (h.c.i.ne_blk e ab) _ _, blk_far h.n1 (ne_of_types h.n1 e aa) _, blk_far h.n2 (ne_of_types h.n2 e aa) _, h.q1, h.q2, h.nn,
  ⟨f h.v.r0 (fun k hk => hk.2.2.2), f h.v.r1 (fun k hk => hk.2.2.2), Z12 (Kd.R_far (p := ⟨B, i.toNat, none⟩) (Kd.R_far1 h.v.r2 rfl (ne23 h.v.r5 h.v.r2 rfl)) (fun _ hk => hk.2) _) (fun _ h => h.1), f h.v.r3 (fun k hk => hk.2.2.2), f h.v.r4 (fun k hk => hk.2.2.2), Z12 (Kd.R_putn h.v.r5 i x) (fun _ _ => trivial)⟩⟩
theorem SS.app {ok : Nat → Prop} (h : SS w0 w W g g1 g2 l a s v0 v1 v2 v3 v4 v5 b d u p it wh) (ho : (Kd.int .i64).R 3 w1 w.heap.size ok x4 it') (hb : Below w.heap.size W w1) (hg : W.grownBy w1 v4.ownBlock) :
  w1.heap[g2]? = some (.cells #[v0, v1, v2, v3, v4, v5] 29 (0, 0)) ∧ SX w0 w (w1.setCell ⟨g2, 4, none⟩ x4) g g1 g2 l a s v0 v1 v2 v3 x4 v5 b d u p it' wh := by
 have c1 : CX w0 w w1 g l a s := ⟨h.c.i.grown hg (h.c.i.own_ne h.v.r4 (by decide)), h.c.k.trans (KeepBut.of_grown hg g) (Kd.R_base2 h.v.r4), below_weaken h.c.m h.c.q hb, h.c.q⟩
 have n1 := blk_grown h.n1 hg (Kd.R_ne h.v.r4 h.n1 (by decide))
 have n2 := blk_grown h.n2 hg (Kd.R_ne h.v.r4 h.n2 (by decide))
 have f : ∀ {ok : Nat → Prop} {v : Value} {xs : List Int}, (Kd.int .i64).R 3 W w.heap.size ok v xs → (∀ k, v.ownBlock = some k → v4.ownBlock ≠ some k) → (Kd.int .i64).R 3 w1 w.heap.size (fun _ => True) v xs := fun r hn => Z12 (Kd.R_move (Kd.R_tight rfl r) (fun k hk => hg.block k (Z14 r k hk.symm) (fun e => hn k hk.symm e.symm))) (fun _ _ => trivial)
 have c : SwC w1 w.heap.size v0 v1 v2 v3 x4 v5 b d u p it' wh := ⟨f h.v.r0 (fun k hk e => (h.v.r0.1 k hk).2.2.1 e.symm), f h.v.r1 (fun k hk e => (h.v.r1.1 k hk).2.2.1 e.symm), Kd.R_over' h.v.r2 (Kd.R_typed h.v.r4) (by decide) hg, f h.v.r3 (fun k hk e => (h.v.r3.1 k hk).2.2.1 e.symm), Z12 ho (fun _ _ => trivial), f h.v.r5 (fun k hk e => (h.v.r5.1 k hk).2.2.2 e.symm)⟩
 refine ⟨n2, c1.set h.q2 (c1.i.ne_blk n2 (by decide)) _ _, blk_far n1 h.nn _, Z26 n2 4 _ rfl, h.q1, h.q2, h.nn, c.map (fun k hk => Below.heap_setCell _ _ _ _ ?_)⟩
 rintro rfl
 obtain ⟨c', t', e, ht⟩ := c.typed _ hk
 rw [n2] at e
 injection e with e
 injection e with _ e _
 rcases ht with ht | ht <;> exact absurd (e.trans ht) (by decide)
end
theorem _root_.Go.Proofs.YtapbbmicfkbafaaGreat.SwL.SwC.lower {w : World} {base base' : Nat} {v0 v1 v2 v3 v4 v5 : Value} {b d : List Int} {u : List Bool} {p it wh : List Int} (h : SwC w base v0 v1 v2 v3 v4 v5 b d u p it wh) (hb : base' ≤ base) : SwC w base' v0 v1 v2 v3 v4 v5 b d u p it wh :=
 ⟨Kd.R_lower h.r0 hb, Kd.R_lower h.r1 hb, Kd.R_lower h.r2 hb, Kd.R_lower h.r3 hb, Kd.R_lower h.r4 hb, Kd.R_lower h.r5 hb⟩
theorem spec_l1Cur_swapper.calls (g : Nat) (l : List Int) (a s : Int) (w0 w : World) (hI : IsS66 w0 w g l a s) (hB : Below w0.heap.size w0 w) (D : SD l) (h0 : 0 ≤ a) (h1 : a ≤ 100000000000) :
  Calls Tryz.prog 50 #[.pointer (some ⟨g, 0, none⟩)] w fun e w' => ∃ v0 v1 v2 v3 v4 v5 b d u p it wh a' s', e = .returned (.agg #[v0, v1, v2, v3, v4, v5]) ∧ SwC w' w.heap.size v0 v1 v2 v3 v4 v5 b d u p it wh ∧ CX w0 w w' g l a' s' ∧ b.length ≤ 2000 ∧ d.length ≤ 2000 ∧ u.length ≤ 2000 ∧ p.length ≤ 2000 ∧ it.length ≤ 2000 ∧ wh.length ≤ 2000 := by
 have hu := Tryz.underlying29
 obtain ⟨q, a1, s1, e1, y1, y2, y3, y4⟩ := D.D.pick a s 5 h0 (by omega)
 obtain ⟨n1, n5⟩ := wn y3 y4
 obtain ⟨k1, F, e2, y5, y6⟩ := D.at_ _ n1 n5
 obtain ⟨r, a2, s2, e3, z1, z2, z3, z4⟩ := D.D.pick a1 s1 F (by omega) (by omega)
 obtain ⟨k2, b, d, u, p, it, wh, o, e4, L, L2⟩ := y5 r z3 z4
 obtain ⟨o1, a3, s3, e5, z5, z6⟩ := D.D.one a2 s2 6 (by omega) (by omega)
 obtain ⟨x, a4, s4, e6, z7, z8, z9, z0⟩ := D.D.pick a3 s3 16 (by omega) (by omega)
 have HD := Ya D
 have HC := Ya (CX.new hI hB)
 have H6 := Ya y6
 have HL := Ya (And.intro L L2)
 have A1 := Ya e1
 have A2 := Ya e2
 have A3 := Ya e3
 have A4 := Ya e4
 have A5 := Ya e5
 have A6 := Ya e6
 clear D hI hB y4 y5 y6 z4 z0 L L2 e1 e2 e3 e4 e5 e6
 go_enter Tryz.func50, Tryz.ntmps50
 go_upto_region 3 with (first | ((with_reducible refine gate_dst (N := 2) rfl ?_); refine Yx 2 YN6 29 ?_; intro g1 hg w_2 hbox hb; have N1 := Ya hbox; have G1 := Ya (by rw [hg]; exact keep_size (CX.k Q11) : w.heap.size ≤ g1); replace HC := Ya (CX.below Q11 hb); clear hb hbox hg) | ((with_reducible refine gate_callee (f := 72) rfl ?_); refine Yz 7 Tryz.func72 #[.pointer (some ⟨g, 0, none⟩), .int .i64 5] ?_ (hargs := Q19); (with_reducible refine (spec_l1Cur_pick.calls g l a s 5 q a1 s1 w0 _ (CX.i Q11) (CX.m Q11) A1.1).mono ?_); rintro e w3 ⟨rfl, hi, hb, hk⟩; refine ⟨_, rfl, ?_⟩; replace N1 := Ya (CX.blk Q11 Q37 (by decide) hk); replace HC := Ya (CX.keep Q11 hi hb hk); clear hi hb hk) | ((with_reducible refine gate_callee (f := 41) rfl ?_); refine Yz 13 Tryz.func41 #[.int .i64 (wrap64 (1 + q))] ?_ (hargs := Q19); (with_reducible refine (spec_raFactorial.calls k1 _ F _ A2.1).mono ?_); rintro e w' ⟨rfl, ⟨nd, rfl⟩⟩; refine ⟨_, rfl, ?_⟩) | ((with_reducible refine gate_callee (f := 72) rfl ?_); refine Yz 14 Tryz.func72 #[.pointer (some ⟨g, 0, none⟩), .int .i64 F] ?_ (hargs := Q19); (with_reducible refine (spec_l1Cur_pick.calls g l a1 s1 F r a2 s2 w0 _ (CX.i Q11) (CX.m Q11) A3.1).mono ?_); rintro e w3 ⟨rfl, hi, hb, hk⟩; refine ⟨_, rfl, ?_⟩; replace N1 := Ya (CX.blk Q11 Q37 (by decide) hk); replace HC := Ya (CX.keep Q11 hi hb hk); clear hi hb hk) | ((with_reducible refine gate_callee (f := 46) rfl ?_); refine Yz 15 Tryz.func46 #[.int .i64 (wrap64 (1 + q)), .int .i64 r] ?_ (hargs := Q19); (with_reducible refine (spec_foSwapperAt.calls k2 _ r b d u p it wh _ _ A4.1).mono ?_); rintro e w4 ⟨v0, v1, v2, v3, v4, v5, rfl, ad, ae, af, ag, ah, ai, hb⟩; refine ⟨_, rfl, ?_⟩; have HV := Ya (SwV.mk (Kd.R_lower ad (keep_size (CX.k Q11))) (Kd.R_lower ae (keep_size (CX.k Q11))) (Kd.R_lower af (keep_size (CX.k Q11))) (Kd.R_lower ag (keep_size (CX.k Q11))) (Kd.R_lower ah (keep_size (CX.k Q11))) (Kd.R_lower ai (keep_size (CX.k Q11)))); replace N1 := Ya (Z25 Q37 hb); replace HC := Ya (CX.below Q11 hb); clear ad ae af ag ah ai hb; obtain ⟨B0, c0, B1, c1, B2, c2, B3, c3, B4, c4, B5, c5, e0_, e1_, e2_, e3_, e4_, e5_⟩ := SwV.slices HV.1; subst e0_ e1_ e2_ e3_ e4_ e5_) | ((with_reducible refine gate_dst (N := 4) rfl ?_); refine Yx 4 YN6 29 ?_; intro g2 hg w_4 hbox hb; replace HV := Ya (SwV.below (by repeat (first | (with_reducible first | exact HV.1 | apply SwV.drewN | apply SwV.drew) | exact HV.1)) hb); have HS := Ya (SS.mk (v0 := .slice none 0 0) (v1 := .slice none 0 0) (v2 := .slice none 0 0) (v3 := .slice none 0 0) (v4 := .slice none 0 0) (v5 := .slice none 0 0) (CX.below Q11 hb) (Z25 Q37 hb) hbox G1.1 (by rw [hg]; exact keep_size (CX.k Q11)) (by rw [hg]; exact Nat.ne_of_lt (blk_lt Q37)) (SwV.mk (b := []) (d := []) (u := []) (p := []) (it := []) (wh := []) (Kd.R_nil _ _ _ _ _) (Kd.R_nil _ _ _ _ _) (Kd.R_nil _ _ _ _ _) (Kd.R_nil _ _ _ _ _) (Kd.R_nil _ _ _ _ _) (Kd.R_nil _ _ _ _ _))); clear HC N1 G1; obtain ⟨⟨aj, ak, al, am, ab, an⟩, hf0, hf1, hf2, hf3, hf4, hf5⟩ := LY6 HS.1.n2; clear hb hbox hg))
 clear aj hf0 ak hf1 al hf2 am hf3 ab hf4 an hf5
 have ac := SS.put (x0 := .slice B0 b.length c0) (x1 := .slice B1 d.length c1) (x2 := .slice B2 u.length c2) (x3 := .slice B3 p.length c3) (x4 := .slice B4 it.length c4) (x5 := .slice B5 wh.length c5) HS.1 HV.1
 unfold set6 at ac
 clear HS HV
 have HS := Ya ac
 clear ac
 generalize (World.setCell (World.setCell (World.setCell (World.setCell (World.setCell (World.setCell _ ⟨g2, 0, none⟩ (.slice B0 b.length c0)) ⟨g2, 1, none⟩ (.slice B1 d.length c1)) ⟨g2, 2, none⟩ (.slice B2 u.length c2)) ⟨g2, 3, none⟩ (.slice B3 p.length c3)) ⟨g2, 4, none⟩ (.slice B4 it.length c4)) ⟨g2, 5, none⟩ (.slice B5 wh.length c5)) = w5 at HS ⊢
 go_upto_if 19 with (first | ((with_reducible refine gate_callee (f := 76) rfl ?_); refine Yz 19 Tryz.func76 #[.pointer (some ⟨g, 0, none⟩), .int .i64 6] ?_ (hargs := Q19); (with_reducible refine (spec_l1Cur_one.calls g l a2 s2 6 o1 a3 s3 w0 _ (CX.i (SS.c Q18)) (CX.m (SS.c Q18)) A5.1).mono ?_); rintro e w3 ⟨rfl, hi, hb, hk⟩; refine ⟨_, rfl, ?_⟩; replace HS := Ya (SS.keep Q18 hi hb hk); clear hi hb hk))
 go_frame
 go_cut [] (fun wc => ∃ (v0 v1 v2 v3 v4 v5 : Value) (b d : List Int) (u : List Bool) (p it wh : List Int), Aside0 (SS w0 w wc g g1 g2 l a3 s3 v0 v1 v2 v3 v4 v5 b d u p it wh) ∧ Aside0 ((b.length ≤ 1000 ∧ d.length ≤ 1000 ∧ u.length ≤ 1000 ∧ p.length ≤ 1000 ∧ it.length ≤ 1000 ∧ wh.length ≤ 1000) ∧ (wrap64 (1 + q)) ≤ wh.length))
 case first =>
  cases o1
  ·go_wp2
   go_meet
   case rel => exact ⟨_, _, _, _, _, _, _, _, _, _, _, _, ⟨Q18⟩, HL⟩
  ·obtain ⟨k5, b', d', u', p', it', wh', o', e9, L'⟩ := H6.1
   have A9 := Ya e9
   have HL' := Ya L'
   clear e9 L'
   go_wp2_with (first | ((with_reducible refine gate_callee (f := 41) rfl ?_); refine Yz 23 Tryz.func41 #[.int .i64 (wrap64 (1 + q))] ?_ (hargs := Q19); (with_reducible refine (spec_raFactorial.calls k1 _ F _ A2.1).mono ?_); rintro e w' ⟨rfl, ⟨nd, rfl⟩⟩; refine ⟨_, rfl, ?_⟩) | ((with_reducible refine gate_callee (f := 46) rfl ?_); refine Yz 25 Tryz.func46 #[.int .i64 (wrap64 (1 + q)), .int .i64 (wrap64 (F - 1))] ?_ (hargs := Q19); (with_reducible refine (spec_foSwapperAt.calls k5 _ (wrap64 (F - 1)) b' d' u' p' it' wh' _ _ A9.1).mono ?_); rintro e w4 ⟨v0, v1, v2, v3, v4, v5, rfl, ad, ae, af, ag, ah, ai, hb⟩; refine ⟨_, rfl, ?_⟩; have HV := Ya (SwV.mk (Kd.R_lower ad (keep_size (CX.k (SS.c Q18)))) (Kd.R_lower ae (keep_size (CX.k (SS.c Q18)))) (Kd.R_lower af (keep_size (CX.k (SS.c Q18)))) (Kd.R_lower ag (keep_size (CX.k (SS.c Q18)))) (Kd.R_lower ah (keep_size (CX.k (SS.c Q18)))) (Kd.R_lower ai (keep_size (CX.k (SS.c Q18))))); replace HS := Ya (SS.below Q18 hb); clear ad ae af ag ah ai hb; obtain ⟨B0, c0, B1, c1, B2, c2, B3, c3, B4, c4, B5, c5, e0_, e1_, e2_, e3_, e4_, e5_⟩ := SwV.slices HV.1; obtain ⟨⟨aj, ak, al, am, ab, an⟩, hf0, hf1, hf2, hf3, hf4, hf5⟩ := LY6 HS.1.n2; subst e0_ e1_ e2_ e3_ e4_ e5_))
   have ac := SS.put HS.1 HV.1
   unfold set6 at ac
   go_meet
   case rel => exact ⟨_, _, _, _, _, _, _, _, _, _, _, _, ⟨ac⟩, HL'⟩
 case rest =>
  clear HS HL
  obtain ⟨v0, v1, v2, v3, v4, v5, b', d', u', p', it', wh', HS, HL⟩ := hcut
  obtain ⟨B0, c0, B1, c1, B2, c2, B3, c3, B4, c4, B5, c5, e0_, e1_, e2_, e3_, e4_, e5_⟩ := SwV.slices HS.1.v
  subst e0_ e1_ e2_ e3_ e4_ e5_
  go_upto_block 0 with (first | ((with_reducible refine gate_callee (f := 72) rfl ?_); refine Yz 29 Tryz.func72 #[.pointer (some ⟨g, 0, none⟩), .int .i64 16] ?_ (hargs := Q19); (with_reducible refine (spec_l1Cur_pick.calls g l a3 s3 16 x a4 s4 w0 _ (CX.i (SS.c Q18)) (CX.m (SS.c Q18)) A6.1).mono ?_); rintro e w3 ⟨rfl, hi, hb, hk⟩; refine ⟨_, rfl, ?_⟩; replace HS := Ya (SS.keep Q18 hi hb hk); clear hi hb hk))
  go_frame
  go_cut [] (fun wc => ∃ (a s : Int) (v0 v1 v2 v3 v4 v5 : Value) (b d : List Int) (u : List Bool) (p it wh : List Int), Aside0 (SX w0 w wc g g1 g2 l a s v0 v1 v2 v3 v4 v5 b d u p it wh) ∧ Aside0 (b.length ≤ 2000 ∧ d.length ≤ 2000 ∧ u.length ≤ 2000 ∧ p.length ≤ 2000 ∧ it.length ≤ 2000 ∧ wh.length ≤ 2000))
  case first =>
   by_cases x0 : x = 0
   ·subst x0
    obtain ⟨k6, xs, a5, s5, e7, z5⟩ := HD.1.order a4 s4 (wrap64 (1 + q)) n1 n5 (by omega) (by omega)
    have A7 := Ya e7
    clear e7
    go_wp2_with (first | ((with_reducible refine gate_callee (f := 77) rfl ?_); refine Yz 34 Tryz.func77 #[.pointer (some ⟨g, 0, none⟩), .int .i64 (wrap64 (1 + q))] ?_ (hargs := Q19); (with_reducible refine (spec_l1Cur_order.calls k6 g l a4 s4 (wrap64 (1 + q)) xs a5 s5 w0 _ (CX.i (SS.c Q18)) (CX.m (SS.c Q18)) A7.1).mono ?_); rintro e w3 ⟨vy, rfl, ho, hi, hb, hk⟩; refine ⟨_, rfl, ?_⟩; have HY := Ya (Kd.R_lower ho (keep_size (CX.k (SS.c Q18)))); replace HS := Ya (SS.keep Q18 hi hb hk); clear ho hi hb hk; obtain ⟨Ay, cy, ey⟩ := Z15 HY.1; subst ey; have ab := (Z20 HS.1.n2 4).trans rfl; have hf4 := Z21 HS.1.n2 4))
    have aa := SS.item HS.1 HY.1
    go_meet
    case rel => exact ⟨_, _, _, _, _, _, _, _, _, _, _, _, _, _, ⟨aa⟩, ⟨by have := HL.1; omega⟩⟩
   ·have nx0 : (x == 0) = false := beq_eq_false_iff_ne.mpr x0
    by_cases x1 : x = 1
    ·subst x1
     obtain ⟨i5, a5, s5, ao, z1, z2, z3, z4⟩ := HD.1.D.pick a4 s4 (wrap64 (1 + q)) (by omega) (by omega)
     obtain ⟨zs, hz⟩ : ∃ zs : List Int, zs = [0, 1, (-1)] := ⟨_, rfl⟩
     obtain ⟨z, a6, s6, ap, z5, z6⟩ := HD.1.D.among a5 s5 zs (by rw [hz]; decide) (by omega) (by omega)
     have aq := Ya ao
     have ar := Ya ap
     have Nz := Ya hz
     have P5 := Ya z3
     have Q5 : Aside0 (i5 < (wh'.length : Int)) := ⟨by have := HL.1; omega⟩
     clear ao ap hz z3 z4
     obtain ⟨G, c9, eG, gG, gl, cG⟩ := Kd.R_form HS.1.v.r5 (by have := Q5.1; have := P5.1; omega)
     injection eG with eG _ ec
     subst eG ec
     have GG := Ya gG
     clear gG gl cG
     go_wp2
     replace HS := Ya (SS.drew HS.1)
     refine start_ (n := 10) (S := fun w' => w'.cell? ⟨g2, 5, none⟩ = some (.slice (some ⟨G, 0, none⟩) wh'.length c5)) (ds := [9]) (YA 10 0) (by kernel_rfl) rfl rfl ((Z20 HS.1.n2 5).trans rfl) (fun hHeld => ?_)
     generalize World.drew _ = w5 at HS hHeld ⊢
     refine Yq 0 (some 38) (YA 10 1) rfl ?_
     refine Yq 2 (some 40) (YA 10 5) rfl ?_
     refine Yq 3 (some 41) (YA 10 13) rfl ?_
     refine Yq 5 (some 43) (YA 10 45) rfl ?_
     refine take_ (i := 1) (N := some 39) (v := ?_) (a' := ?_) (YA 10 47) rfl rfl (by kernel_rfl) (fun _ _ _ h => h) (Or.inl ⟨by rfl, ?_⟩) hHeld ?_ ?_
     rotate_left
     ·intro w' s0
      go_simp
      with_reducible rfl
     rotate_left
     ·simp only [Act.put, Z0, Z1, Z2, i64_w, i32_w]
      rfl
     refine join_ (σ := Value) 3 (YA 10 127) (fun s_ => [(42, .int .i64 i5), (44, s_)]) (fun s_ w' => (SS w0 w w' g g1 g2 l a5 s5 (.slice B0 b'.length c0) (.slice B1 d'.length c1) (.slice B2 u'.length c2) (.slice B3 p'.length c3) (.slice B4 it'.length c4) (.slice (some ⟨G, 0, none⟩) wh'.length c5) b' d' u' p' it' wh') ∧ ((Kd.int .i64).R 3 w' w.heap.size (fun _ => True) s_ zs)) ?_ ?_
     rotate_left
     ·intro hCont
      refine two_ (i := 4) (j := 6) (Ni := some 42) (Nj := some 44) (YA 10 63) (YA 10 111) rfl rfl rfl rfl (by kernel_rfl) (by decide) (by decide) (fun K hK => ?_) (fun K hK => ?_)
      ·skip
       refine goes_ Tryz.func72 (by kernel_rfl) rfl #[.pointer (some ⟨g, 0, none⟩), .int .i64 (wrap64 (1 + q))] (by rfl) rfl rfl Q29 ?_
       with_reducible refine (spec_l1Cur_pick.calls g l a4 s4 (wrap64 (1 + q)) i5 a5 s5 w0 _ (CX.i (SS.c Q18)) (CX.m (SS.c Q18)) aq.1).mono ?_
       rintro e w3 ⟨rfl, hi, hb, hk⟩
       refine ⟨_, rfl, ?_⟩
       replace HS := Ya (SS.keep Q18 hi hb hk)
       clear hi hb hk
       refine hK.out _ _ ((Z20 HS.1.n2 5).trans rfl) (fun hHeld => ?_)
       clear hK K
       refine YNa 42 ?_
       refine one_ (i := 6) (N := some 44) (YA 10 127) rfl rfl (by kernel_rfl) (by decide) (fun K hK => ?_)
       refine Kd.R_lit_step (Kd.int .i64) _ 3 ?hg (N := 44) ?hd (xs := ([0, 1, (-1)] : List Int)) (inner := [.int .i64 0, .int .i64 1, .int .i64 (-1)]) (ok := fun _ => True) (okp := fun _ => True) ?hr ?hp (fun _ hk => hk) trivial (Below.refl _ _) (Nat.le_refl _) (by simp) ?_; (case hd => rfl); (case hg => rfl); (case hr => first | (go_simp; done) | (go_simp; rfl)); (case hp => exact (Reps.one (show Kd.M (Kd.int .i64) _ _ _ 0 [.int .i64 0] from rfl) (Reps.one (show Kd.M (Kd.int .i64) _ _ _ 1 [.int .i64 1] from rfl) (Reps.one (show Kd.M (Kd.int .i64) _ _ _ (-1) [.int .i64 (-1)] from rfl) (Reps.none _ _)))))
       intro vr w3 ho hb hg_ hnew_
       clear hg_ hnew_
       rw [← Nz.1] at ho
       have HR := Ya (Kd.R_lower ho (keep_size (CX.k (SS.c Q18))))
       replace HS := Ya (SS.below Q18 hb)
       clear ho hb
       refine hK.out _ _ ((Z20 HS.1.n2 5).trans rfl) (fun hHeld => ?_)
       clear hK K
       refine YNa 44 ?_
       exact norm_ Q34 (hCont vr _ ⟨HS.1, HR.1⟩)
      ·skip
       refine Kd.R_lit_step (Kd.int .i64) _ 3 ?hg (N := 44) ?hd (xs := ([0, 1, (-1)] : List Int)) (inner := [.int .i64 0, .int .i64 1, .int .i64 (-1)]) (ok := fun _ => True) (okp := fun _ => True) ?hr ?hp (fun _ hk => hk) trivial (Below.refl _ _) (Nat.le_refl _) (by simp) ?_; (case hd => rfl); (case hg => rfl); (case hr => first | (go_simp; done) | (go_simp; rfl)); (case hp => exact (Reps.one (show Kd.M (Kd.int .i64) _ _ _ 0 [.int .i64 0] from rfl) (Reps.one (show Kd.M (Kd.int .i64) _ _ _ 1 [.int .i64 1] from rfl) (Reps.one (show Kd.M (Kd.int .i64) _ _ _ (-1) [.int .i64 (-1)] from rfl) (Reps.none _ _)))))
       intro vr w3 ho hb hg_ hnew_
       clear hg_ hnew_
       rw [← Nz.1] at ho
       have HR := Ya (Kd.R_lower ho (keep_size (CX.k (SS.c Q18))))
       replace HS := Ya (SS.below Q18 hb)
       clear ho hb
       refine hK.out _ _ ((Z20 HS.1.n2 5).trans rfl) (fun hHeld => ?_)
       clear hK K
       refine YNa 44 ?_
       refine one_ (i := 4) (N := some 42) (YA 10 127) rfl rfl (by kernel_rfl) (by decide) (fun K hK => ?_)
       refine goes_ Tryz.func72 (by kernel_rfl) rfl #[.pointer (some ⟨g, 0, none⟩), .int .i64 (wrap64 (1 + q))] (by rfl) rfl rfl Q29 ?_
       with_reducible refine (spec_l1Cur_pick.calls g l a4 s4 (wrap64 (1 + q)) i5 a5 s5 w0 _ (CX.i (SS.c Q18)) (CX.m (SS.c Q18)) aq.1).mono ?_
       rintro e w3 ⟨rfl, hi, hb, hk⟩
       refine ⟨_, rfl, ?_⟩
       replace HR := Ya (CX.row (SS.c HS.1) HR.1 (by decide) hk)
       replace HS := Ya (SS.keep Q18 hi hb hk)
       clear hi hb hk
       refine hK.out _ _ ((Z20 HS.1.n2 5).trans rfl) (fun hHeld => ?_)
       clear hK K
       refine YNa 42 ?_
       exact norm_ Q34 (hCont vr _ ⟨HS.1, HR.1⟩)
     rintro vr w6 ⟨hs_, hr_⟩
     have aa := Ya hs_
     have HR := Ya hr_
     clear HS hs_ hr_
     have HS := aa
     clear aa
     have hHeld : w6.cell? ⟨g2, 5, none⟩ = some (.slice (some ⟨G, 0, none⟩) wh'.length c5) := (Z20 HS.1.n2 5).trans rfl
     obtain ⟨Ar, cr, er⟩ := Z15 HR.1
     subst er
     refine YNb ?_
     refine one_ (i := 7) (N := some 45) (YA 10 255) rfl rfl (by kernel_rfl) (by decide) (fun K hK => ?_)
     refine goes_ Tryz.func39 (by kernel_rfl) rfl #[.pointer (some ⟨g, 0, none⟩), .slice Ar zs.length cr] (by rfl) rfl rfl Q29 ?_
     with_reducible refine (spec_l1Cur_among.calls g l a5 s5 _ _ zs z a6 s6 w0 _ (CX.i (SS.c Q18)) (CX.m (SS.c Q18)) (Kd.R_reads' HR.1).2.2 (Kd.R_reads' HR.1).2.1 (far_slice (IsS66.own_ne HS.1.c.i HR.1 (by decide))) ar.1).mono ?_
     rintro e w3 ⟨rfl, hi, hb, hk⟩
     refine ⟨_, rfl, ?_⟩
     replace HS := Ya (SS.keep Q18 hi hb hk)
     clear hi hb hk HR
     obtain ⟨hx, hf⟩ := Kd.R_celln 0 HS.1.v.r5 i5 P5.1 Q5.1
     have p5 := eq_true P5.1
     have q5 := eq_true Q5.1
     refine hK.out _ _ ((Z20 HS.1.n2 5).trans rfl) (fun hHeld => ?_)
     clear hK K
     refine YNa 45 ?_
     refine Yq 8 (some 46) (YA 10 511) rfl ?_
     refine last_ (i := 9) (N := none) (YA 10 1023) rfl rfl (by kernel_rfl) (by decide) (fun K hK => ?_)
     refine YNc ?_
     refine hK.out _ _ ?_
     clear hK K
     refine done_ (by kernel_rfl) ?_
     have aa := Ya (SS.row HS.1 GG.1 i5 z)
     go_step
     go_step
     go_meet
     case rel => exact ⟨_, _, _, _, _, _, _, _, _, _, _, _, _, _, ⟨aa.1⟩, ⟨Q67⟩⟩
    ·have nx1 : (x == 1) = false := beq_eq_false_iff_ne.mpr x1
     by_cases x2 : x = 2
     ·subst x2
      go_wp2_with (first | ((with_reducible refine gate_callee (f := 78) rfl ?_); refine Yz 50 Tryz.func78 #[.pointer (some ⟨g, 0, none⟩)] ?_ (hargs := Q19); (with_reducible refine (spec_l1Cur_focus.calls g l a4 s4 w0 _ (CX.i (SS.c Q18)) (CX.m (SS.c Q18)) HD.1.D (by omega) (by omega)).mono ?_); rintro e w3 ⟨y0, y1, y2, y3, fb, fd, fu, fp, a5, s5, rfl, hv, hc, hl⟩; refine ⟨_, rfl, ?_⟩; have HY := Ya hv; have LY := Ya hl; have KY := Ya (keep_size (CX.k (SS.c Q18))); replace HS := Ya (SS.keep Q18 (CX.i hc) (CX.m hc) (CX.k hc)); clear hv hc hl; obtain ⟨Y0, k0, t0⟩ := Z15 HY.1.r0; obtain ⟨Y1, k1, t1⟩ := Z15 HY.1.r1; obtain ⟨Y2, k2, t2⟩ := Z15 HY.1.r2; obtain ⟨Y3, k3, t3⟩ := Z15 HY.1.r3; subst t0 t1 t2 t3; obtain ⟨⟨aj, ak, al, am, ab, an⟩, hf0, hf1, hf2, hf3, hf4, hf5⟩ := LY6 HS.1.n2))
      have aa := SS.foc HS.1 HY.1 KY.1
      unfold set4 at aa
      go_meet
      case rel => exact ⟨_, _, _, _, _, _, _, _, _, _, _, _, _, _, ⟨aa⟩, ⟨by have := HL.1; have := LY.1; omega⟩⟩
     ·have nx2 : (x == 2) = false := beq_eq_false_iff_ne.mpr x2
      by_cases x3 : x = 3
      ·subst x3
       obtain ⟨⟨hcd0, hcd1, hcd2, hcd3, hcd4, hcd5⟩, hfd0, hfd1, hfd2, hfd3, hfd4, hfd5⟩ := LY6 HS.1.n2
       go_wp2_with (first | ((with_reducible refine gate_builtin (b := .append) (xs := #[.tmp 55, .tmp 57]) rfl ?_); at_builtin; refine Kd.R_append (Kd.int .i64) w.heap.size rfl (.tmp 55) (.tmp 57) 24 3 (.int .i64 0) 8 rfl Tryz.underlying24 info3 rfl (by decide) (by omega) (.slice B4 it'.length c4) it' (wrap64 (1 + q)) [.int .i64 (wrap64 (1 + q))] (fun _ => True) (fun _ => False) rfl rfl ?aP (fun _ hk => hk.elim) ?aF ?aO (Below.refl _ _) ?aS ?aL ?_; (case aP => exact rfl); (case aF => exact (fun _ _ => trivial)); (case aO => exact Z12 (SS.v Q18).r4 (fun _ _ => trivial)); (case aS => exact (keep_size (CX.k (SS.c Q18)))); (case aL => have := HL.1; omega); intro v6 w6 ho hb hg hat; obtain ⟨A6, c6, q6⟩ := Z15 ho; subst q6; obtain ⟨hn, hs_⟩ := SS.app Q18 ho hb hg; simp only [List.length_append, List.length_singleton] at hs_; have aa := Ya hs_; have Hn := Ya hn; clear ho hb hg hat hn hs_ HS; obtain ⟨⟨aj, ak, al, am, ab, an⟩, hf0, hf1, hf2, hf3, hf4, hf5⟩ := LY6 Hn.1))
       go_meet
       case rel => exact ⟨_, _, _, _, _, _, _, _, _, _, _, _, _, _, ⟨aa.1⟩, ⟨by have := HL.1; simp only [List.length_append, List.length_singleton]; omega⟩⟩
      ·have nx3 : (x == 3) = false := beq_eq_false_iff_ne.mpr x3
       go_wp2
       go_meet
       case rel => exact ⟨_, _, _, _, _, _, _, _, _, _, _, _, _, _, ⟨SS.weak Q18⟩, ⟨by have := HL.1; omega⟩⟩
  case rest =>
   clear HS HL
   obtain ⟨a9, s9, v0, v1, v2, v3, v4, v5, b', d', u', p', it', wh', HS, HL⟩ := hcut
   obtain ⟨B0, c0, B1, c1, B2, c2, B3, c3, B4, c4, B5, c5, e0_, e1_, e2_, e3_, e4_, e5_⟩ := SwC.slices HS.1.v
   subst e0_ e1_ e2_ e3_ e4_ e5_
   obtain ⟨⟨aj, ak, al, am, ab, an⟩, hf0, hf1, hf2, hf3, hf4, hf5⟩ := LY6 HS.1.n2
   obtain ⟨⟨hcd0, hcd1, hcd2, hcd3, hcd4, hcd5⟩, hfd0, hfd1, hfd2, hfd3, hfd4, hfd5⟩ := LY6 HS.1.n1
   have hn1 := HS.1.nn
   have hn2 := HS.1.nn.symm
   go_wp2
   refine bodyPost_ret (results_cell_row rfl _ _ g1 29 #[.slice B0 b'.length c0, .slice B1 d'.length c1, .slice B2 u'.length c2, .slice B3 p'.length c3, .slice B4 it'.length c4, .slice B5 wh'.length c5] (0, 0) _ rfl (by have h_ := set6_at HS.1.n1 (.slice B0 b'.length c0) (.slice B1 d'.length c1) (.slice B2 u'.length c2) (.slice B3 p'.length c3) (.slice B4 it'.length c4) (.slice B5 wh'.length c5); unfold set6 at h_; exact h_) hu rfl (by kernel_rfl)) rfl ?_
   obtain ⟨hv, hc⟩ := SX.fin HS.1 (.slice B0 b'.length c0) (.slice B1 d'.length c1) (.slice B2 u'.length c2) (.slice B3 p'.length c3) (.slice B4 it'.length c4) (.slice B5 wh'.length c5)
   unfold set6 at hv hc
   exact ⟨_, _, _, _, _, _, b', d', u', p', it', wh', _, _, rfl, hv, hc, HL.1⟩
open Go.Proofs.YtapbbmicfkbafaaGreat.FoW Go.Proofs.YtapbbmicfkbafaaGreat.SwW Go.Proofs.YtapbbmicfkbafaaGreat.SwL
theorem spec_DrawIsSwapper.calls (A0 : Option Addr) (c0 : Nat) (l : List Int) (w : World) (hC : Kd.C (Kd.int .u8) w A0 l.length l) (hc : l.length ≤ c0) (D : SD l) :
  Calls Tryz.prog 24 #[.slice A0 l.length c0] w fun e w' => ∃ v0 v1 v2 v3 v4 v5 b d u p it wh, e = .returned (.agg #[v0, v1, v2, v3, v4, v5]) ∧ SwC w' w.heap.size v0 v1 v2 v3 v4 v5 b d u p it wh ∧ (b.length ≤ 2000 ∧ d.length ≤ 2000 ∧ u.length ≤ 2000 ∧ p.length ≤ 2000 ∧ it.length ≤ 2000 ∧ wh.length ≤ 2000) ∧ Below w.heap.size w w' := by
 have hu := Tryz.underlying29
 have HR := Ya hC
 have HD := Ya D
 have HB := Ya (Below.refl w.heap.size w)
 clear hC D
 go_enter Tryz.func24, Tryz.ntmps24
 go_wp2_with (first | ((with_reducible refine gate_dst (N := 2) rfl ?_); refine Yx 2 YN6 29 ?_; intro g1 hg w_2 hbox hb; have N1 := Ya hbox; have G1 := Ya (by rw [hg]; exact HB.1.size : w.heap.size ≤ g1); replace HB := Ya (Z8 HB.1 hb); clear hb hbox hg) | ((with_reducible refine gate_dst (N := 6) rfl ?_); refine Yx 6 #[.slice A0 l.length c0, .int .i64 0, .int .u64 0] 66 ?_; intro g hg w_6 hbox hb; have HI := Ya (show IsS66 w w_6 g l 0 0 from ⟨_, _, hbox, (by rw [hg]; exact HB.1.size : w.heap.size ≤ g), HR.1⟩); have NG := Ya (show g1 ≠ g by rw [hg]; exact Nat.ne_of_lt (blk_lt N1.1)); replace N1 := Ya (Z25 N1.1 hb); replace HB := Ya (Z8 HB.1 hb); clear hb hbox hg) | ((with_reducible refine gate_callee (f := 50) rfl ?_); refine Yz 8 Tryz.func50 #[.pointer (some ⟨g, 0, none⟩)] ?_ (hargs := Q19); (with_reducible refine (spec_l1Cur_swapper.calls g l 0 0 w _ HI.1 HB.1 HD.1 (by decide) (by decide)).mono ?_); rintro e w3 ⟨v0, v1, v2, v3, v4, v5, b, d, u, p, it, wh, a', s', rfl, hv, hx, hl⟩; refine ⟨_, rfl, ?_⟩; have HV := Ya (SwC.lower hv HB.1.size); have HL := Ya hl; replace N1 := Ya (hx.k.blk N1.1 NG.1 (by simp)); replace HB := Ya hx.m; clear hv hx hl; obtain ⟨B0, c0, q0⟩ := Z15 HV.1.r0; obtain ⟨B1, c1, q1⟩ := Z15 HV.1.r1; obtain ⟨B2, c2, q2⟩ := Z15 HV.1.r2; obtain ⟨B3, c3, q3⟩ := Z15 HV.1.r3; obtain ⟨B4, c4, q4⟩ := Z15 HV.1.r4; obtain ⟨B5, c5, q5⟩ := Z15 HV.1.r5; subst q0 q1 q2 q3 q4 q5; obtain ⟨⟨aa, ab, ac, ad, ae, af⟩, hf0, hf1, hf2, hf3, hf4, hf5⟩ := LY6 N1.1))
 refine bodyPost_ret (results_cell_row rfl _ _ g1 29 #[.slice B0 b.length c0, .slice B1 d.length c1, .slice B2 u.length c2, .slice B3 p.length c3, .slice B4 it.length c4, .slice B5 wh.length c5] (0, 0) _ rfl Q51 hu rfl (by kernel_rfl)) rfl ?_
 have hv := SwC.set6 HV.1 N1.1 (by decide) (by decide) (.slice B0 b.length c0) (.slice B1 d.length c1) (.slice B2 u.length c2) (.slice B3 p.length c3) (.slice B4 it.length c4) (.slice B5 wh.length c5)
 have hb := set6_below HB.1 G1.1 (.slice B0 b.length c0) (.slice B1 d.length c1) (.slice B2 u.length c2) (.slice B3 p.length c3) (.slice B4 it.length c4) (.slice B5 wh.length c5)
 unfold set6 at hv hb
 exact ⟨_, _, _, _, _, _, b, d, u, p, it, wh, rfl, hv, HL.1, hb⟩
open Go.Proofs.YtapbbmicfkbafaaGreat.FoW Go.Proofs.YtapbbmicfkbafaaGreat.SwW Go.Proofs.YtapbbmicfkbafaaGreat.SwL
theorem spec_DrawStepSwapper.calls (A0 : Option Addr) (c0 : Nat) (l : List Int) (w : World) (hC : Kd.C (Kd.int .u8) w A0 l.length l) (hc : l.length ≤ c0) (D : SD l) :
  Calls Tryz.prog 5 #[.slice A0 l.length c0] w fun e w' => ∃ v0 v1 v2 v3 v4 v5 b d u p it wh, e = .returned (.agg #[v0, v1, v2, v3, v4, v5]) ∧ SwC w' w.heap.size v0 v1 v2 v3 v4 v5 b d u p it wh ∧ (b.length ≤ 2000 ∧ d.length ≤ 2000 ∧ u.length ≤ 2000 ∧ p.length ≤ 2000 ∧ it.length ≤ 2000 ∧ wh.length ≤ 2000) ∧ Below w.heap.size w w' := by
 have hu := Tryz.underlying29
 have HR := Ya hC
 have HD := Ya D
 have HB := Ya (Below.refl w.heap.size w)
 clear hC D
 go_enter Tryz.func5, Tryz.ntmps5
 go_wp2_with (first | ((with_reducible refine gate_dst (N := 2) rfl ?_); refine Yx 2 YN6 29 ?_; intro g1 hg w_2 hbox hb; have N1 := Ya hbox; have G1 := Ya (by rw [hg]; exact HB.1.size : w.heap.size ≤ g1); replace HB := Ya (Z8 HB.1 hb); clear hb hbox hg) | ((with_reducible refine gate_callee (f := 24) rfl ?_); refine Yz 4 Tryz.func24 #[.slice A0 l.length c0] ?_ (hargs := Q19); (with_reducible refine (spec_DrawIsSwapper.calls A0 c0 l _ (Z19 HR.1 HB.1) hc HD.1).mono ?_); rintro e w3 ⟨v0, v1, v2, v3, v4, v5, b, d, u, p, it, wh, rfl, hv, hl, hb⟩; refine ⟨_, rfl, ?_⟩; have HV := Ya (SwC.lower hv HB.1.size); have HL := Ya hl; replace N1 := Ya (Z25 N1.1 hb); replace HB := Ya (Z8 HB.1 hb); clear hv hl hb; obtain ⟨B0, c0, q0⟩ := Z15 HV.1.r0; obtain ⟨B1, c1, q1⟩ := Z15 HV.1.r1; obtain ⟨B2, c2, q2⟩ := Z15 HV.1.r2; obtain ⟨B3, c3, q3⟩ := Z15 HV.1.r3; obtain ⟨B4, c4, q4⟩ := Z15 HV.1.r4; obtain ⟨B5, c5, q5⟩ := Z15 HV.1.r5; subst q0 q1 q2 q3 q4 q5; obtain ⟨⟨aa, ab, ac, ad, ae, af⟩, hf0, hf1, hf2, hf3, hf4, hf5⟩ := LY6 N1.1))
 refine bodyPost_ret (results_cell_row rfl _ _ g1 29 #[.slice B0 b.length c0, .slice B1 d.length c1, .slice B2 u.length c2, .slice B3 p.length c3, .slice B4 it.length c4, .slice B5 wh.length c5] (0, 0) _ rfl Q51 hu rfl (by kernel_rfl)) rfl ?_
 have hv := SwC.set6 HV.1 N1.1 (by decide) (by decide) (.slice B0 b.length c0) (.slice B1 d.length c1) (.slice B2 u.length c2) (.slice B3 p.length c3) (.slice B4 it.length c4) (.slice B5 wh.length c5)
 have hb := set6_below HB.1 G1.1 (.slice B0 b.length c0) (.slice B1 d.length c1) (.slice B2 u.length c2) (.slice B3 p.length c3) (.slice B4 it.length c4) (.slice B5 wh.length c5)
 unfold set6 at hv hb
 exact ⟨_, _, _, _, _, _, b, d, u, p, it, wh, rfl, hv, HL.1, hb⟩
def impl_size.l0 : Nat → Int → List Int → Int → Int → Option (Int)
 | 0, _, _, _, _ => none
 | k + 1, x3, x6, x7, x8 => if x8 < x7 then (if 0 ≤ x8 then (if x8 < (x6.length : Int) then (impl_size.l0 k (mn (wrap64 (x3 * (rd x6 x8))) 1000001) x6 x7 (wrap64 (x8 + 1))) else (none)) else (none)) else (some x3)
def impl_size.f (k : Nat) (l0 : List Int) : Option (Int) := impl_size.l0 k 1 l0 (l0.length : Int) 0
theorem impl_size.calls (k : Nat) (A0 : Option Addr) (c0 : Nat) (l0 : List Int) (r : Int) (w : World) (aj : Kd.C (Kd.int .i64) w A0 l0.length l0) (ak : l0.length ≤ c0) (h : impl_size.f k l0 = some r) :
  Calls Tryz.prog 60 #[.slice A0 l0.length c0] w fun e w' => e = .returned (.int .i64 r) ∧ Below w.heap.size w w' := by
 have HR0 := Ya aj
 have ao := Ya ak
 clear aj ak
 have HB := Ya (Below.refl w.heap.size w)
 have H : (impl_size.l0 k 1 l0 (l0.length : Int) 0) = some r := h
 clear h
 have H' := Ya H
 clear H
 go_enter Tryz.func60, Tryz.ntmps60
 go_wp2
 go_loopg [3, 8] k (fun kq v3 v8 w' => ∃ (ac : Int) (aa : Int), v3 = .int .i64 ac ∧ v8 = .int .i64 aa ∧ Aside0 (impl_size.l0 kq ac l0 (l0.length : Int) aa = some r) ∧ Aside0 (kq ≤ k) ∧ Aside0 (Below w.heap.size w w'))
 case atStart => exact ⟨(1), (0), Q17, Q17, H', ⟨Nat.le_refl _⟩, ⟨Q12⟩⟩
 case round =>
  clear H'
  obtain ⟨ac, aa, rfl, rfl, HA, HK1, HB⟩ := hrel
  cases gk with
  | zero => exact absurd HA.1 (by simp [impl_size.l0])
  | succ k1 =>
   have H := HA.1
   clear HA
   simp only [impl_size.l0] at H
   by_cases c2 : aa < (l0.length : Int)
   ·rw [if_pos c2] at H
    have ag := Z35 c2
    clear c2
    by_cases c3 : 0 ≤ aa
    ·rw [if_pos c3] at H
     have am := Z35 c3
     clear c3
     by_cases c4 : aa < (l0.length : Int)
     ·rw [if_pos c4] at H
      have an := Z35 c4
      clear c4
      obtain ⟨ah, ad⟩ : ∃ j_ : Int, (mn (wrap64 (ac * (rd l0 aa))) 1000001) = j_ := ⟨_, rfl⟩
      replace H : (impl_size.l0 k1 ah l0 (l0.length : Int) (wrap64 (aa + 1))) = some r := by first | (rw [ad] at H; exact H) | (simp only [ad] at H ⊢; exact H)
      have hji5_ : (if 1000001 < (wrap64 (ac * (rd l0 aa))) then 1000001 else (wrap64 (ac * (rd l0 aa)))) = ah := ad
      have H' := Ya H
      clear H
      have ae : 0 ≤ (aa : Int) := Z27 Q5
      have af : aa < (l0.length : Int) := Z27 Q5
      obtain ⟨al, ai, ab⟩ := Kd.at_int HR0.1 aa ae af
      cases ai
      try replace ab := (HB.1.cell (World.block_lt_of_cell? w _ ab)).trans ab
      replace ae := eq_true ae
      replace af := eq_true af
      go_wp2
      go_roundg k1
      case measure => have := HK1.1; omega
      case rel => exact ⟨(ah), (wrap64 (aa + 1)), (by first | rfl | (simp; done) | (simp only [← ad] <;> (first | rfl | simp)) | (simp [*]; done)), Q17, H', ⟨Q35⟩, ⟨Q12⟩⟩
     ·rw [if_neg c4] at H
      exact absurd H (by simp)
    ·rw [if_neg c3] at H
     exact absurd H (by simp)
   ·rw [if_neg c2] at H
    have ag := Z34 c2
    clear c2
    obtain rfl := Option.some.inj H
    go_wp2
    go_ret
    exact ⟨Q2, Q12⟩
def impl_mixedRank.f : Nat → List Int → List Int → Option (Int)
 | 0, _, _ => none
 | k + 1, l0, l1 => if (l1.length : Int) = 0 then (some 0) else (if 1 ≤ (l0.length : Int) then ((impl_size.f k (l0.drop 1)).bind fun aa => (if 1 ≤ (l1.length : Int) then ((impl_mixedRank.f k (l0.drop 1) (l1.drop 1)).bind fun ab => (if 0 < (l1.length : Int) then (if (Int.tmod (rd l1 0) 2) = 1 then (some (wrap64 ((wrap64 ((rd l1 0) * aa)) + (wrap64 ((wrap64 (aa - 1)) - ab))))) else (some (wrap64 ((wrap64 ((rd l1 0) * aa)) + ab)))) else (none))) else (none))) else (none))
def impl_mixedRank.T3 : Bool × List (List Nat × List Nat) := (true, [([], []), ([0], [0]), ([1], [1]), ([], []), ([3], [3]), ([], []), ([5], [5]), ([4, 6, 2], [4, 6]), ([2, 7, 0, 1, 2], [2]), ([7, 8, 0, 1, 2, 3, 4, 5, 6, 7, 8], [7])])
def impl_mixedRank.B3 : List Nat := [0, 1, 3, 0, 8, 0, 32, 127, 255, 511]
theorem impl_mixedRank.tab3 : rtab .any (opsOf Tryz.f30 3) = impl_mixedRank.T3 := by kernel_rfl
theorem impl_mixedRank.bits3 : waitsOk impl_mixedRank.T3.2 impl_mixedRank.B3 = true := by kernel_rfl
theorem impl_mixedRank.calls (k : Nat) : ∀ (A0 : Option Addr) (c0 : Nat) (l0 : List Int) (A1 : Option Addr) (c1 : Nat) (l1 : List Int) (r : Int) (w : World) (aE : Kd.C (Kd.int .i64) w A0 l0.length l0) (aF : l0.length ≤ c0) (aG : Kd.C (Kd.int .i64) w A1 l1.length l1) (aH : l1.length ≤ c1) (h : impl_mixedRank.f k l0 l1 = some r),
  Calls Tryz.prog 30 #[.slice A0 l0.length c0, .slice A1 l1.length c1] w fun e w' => e = .returned (.int .i64 r) ∧ Below w.heap.size w w' := by
 induction k using Nat.strongRecOn with
 | _ k ih =>
 intro A0 c0 l0 A1 c1 l1 r w aE aF aG aH h
 cases k with
 | zero => exact absurd h (by simp [impl_mixedRank.f])
 | succ k =>
 simp only [impl_mixedRank.f] at h
 have HR0 := Ya aE
 have aM := Ya aF
 clear aE aF
 have az := Ya aG
 have aN := Ya aH
 clear aG aH
 have HB := Ya (Below.refl w.heap.size w)
 have H : (if (l1.length : Int) = 0 then (some 0) else (if 1 ≤ (l0.length : Int) then ((impl_size.f k (l0.drop 1)).bind fun al => (if 1 ≤ (l1.length : Int) then ((impl_mixedRank.f k (l0.drop 1) (l1.drop 1)).bind fun am => (if 0 < (l1.length : Int) then (if (Int.tmod (rd l1 0) 2) = 1 then (some (wrap64 ((wrap64 ((rd l1 0) * al)) + (wrap64 ((wrap64 (al - 1)) - am))))) else (some (wrap64 ((wrap64 ((rd l1 0) * al)) + am)))) else (none))) else (none))) else (none))) = some r := h
 clear h
 by_cases c3 : (l1.length : Int) = 0
 ·rw [if_pos c3] at H
  have aI : ((l1.length : Int) == 0) = true := beq_iff_eq.mpr c3
  have aJ : ((l1.length : Int) != 0) = false := bne_eq_false_iff_eq.mpr c3
  clear c3
  obtain rfl := Option.some.inj H
  go_enter Tryz.func30, Tryz.ntmps30
  go_wp2
  go_ret
  exact ⟨Q2, Q12⟩
 ·rw [if_neg c3] at H
  have aI : ((l1.length : Int) == 0) = false := beq_eq_false_iff_ne.mpr c3
  have aJ : ((l1.length : Int) != 0) = true := bne_iff_ne.mpr c3
  have aQ : ¬ (l1 = []) := fun h_ => c3 (by rw [h_]; rfl)
  by_cases c4 : 1 ≤ (l0.length : Int)
  ·rw [if_pos c4] at H
   have aR := eq_true c4
   have aS := Z35 c4
   have HLEc4 := Ya c4
   clear c4
   replace H := YB H
   obtain ⟨al, A5, H⟩ := H
   have aT := eq_true (Z27 Q5 : 1 ≤ (l0.length : Int))
   by_cases c7 : 1 ≤ (l1.length : Int)
   ·rw [if_pos c7] at H
    have aU := eq_true c7
    have aV := Z35 c7
    have HLEc7 := Ya c7
    clear c7
    replace H := YB H
    obtain ⟨am, A8, H⟩ := H
    by_cases c9 : 0 < (l1.length : Int)
    ·rw [if_pos c9] at H
     have aW := Z35 c9
     have aX : decide (0 < l1.length) = true := Z35 (by omega)
     clear c9
     by_cases c10 : (Int.tmod (rd l1 0) 2) = 1
     ·rw [if_pos c10] at H
      have aA : ((Int.tmod (rd l1 0) 2) == 1) = true := beq_iff_eq.mpr c10
      have aB : ((Int.tmod (rd l1 0) 2) != 1) = false := bne_eq_false_iff_eq.mpr c10
      clear c10
      obtain rfl := Option.some.inj H
      go_enter Tryz.func30, Tryz.ntmps30
      try go_wp2
      replace HB := Ya (Z4 HB.1)
      obtain ⟨aY, hi012, _, hsz12, _⟩ := info_parts info3
      obtain ⟨aO, hcut12, hA12, hC12⟩ := print_drop_of (P := Tryz.prog) (Value.int .i64) 0 24 3 .i64 Tryz.underlying24 hi012 hsz12 A0 c0 l0 1 (by omega) (Z27 Q5) aM.1
      have ad := Ya (Kd.C_of_reads (h1 := fun _ => rfl) (hA12 _ (Kd.reads_of_C HR0.1)))
      have ag := Ya hC12
      clear hA12 hC12 hi012 hsz12
      have ah := ad
      have an := ag
      obtain ⟨aZ, hi014, _, hsz14, _⟩ := info_parts info3
      obtain ⟨a0, hcut14, hA14, hC14⟩ := print_drop_of (P := Tryz.prog) (Value.int .i64) 0 24 3 .i64 Tryz.underlying24 hi014 hsz14 A1 c1 l1 1 (by omega) (Z27 Q5) aN.1
      have ai := Ya (Kd.C_of_reads (h1 := fun _ => rfl) (hA14 _ (Kd.reads_of_C az.1)))
      have ao := Ya hC14
      clear hA14 hC14 hi014 hsz14
      refine start_ (n := 10) (S := fun w' => True) (ds := []) (YA 10 0) (by kernel_rfl) rfl rfl trivial (fun hHeld => ?_); refine with_tabW impl_mixedRank.tab3 impl_mixedRank.bits3 (fun HT_ HW_ => ?_)
      generalize w.drew = a4 at HB ad ah ai hHeld ⊢
      refine Yp 0 (some 10) (YA 10 1) rfl HT_.1 ?_
      refine Yp 1 (some 11) (YA 10 3) rfl HT_.1 ?_
      refine Yp 3 (some 13) (YA 10 11) rfl HT_.1 ?_
      refine Yp 4 (some 14) (YA 10 27) rfl HT_.1 ?_
      refine Yp 5 (some 15) (YA 10 59) rfl HT_.1 ?_
      refine Yp 6 (some 16) (YA 10 123) rfl HT_.1 ?_
      refine one_ (i := 2) (N := some 12) (YA 10 127) rfl rfl (one_of HT_.1 (by kernel_rfl)) (by decide) (fun K hK => ?_)
      refine goes_ Tryz.func60 (by kernel_rfl) rfl #[.slice aO (l0.drop 1).length (c0 - 1)] (by rfl) rfl rfl Q44 ?_
      with_reducible refine (impl_size.calls k _ _ (l0.drop 1) al _ ?ae ?af A5.1).mono ?_
      (case ae => exact Yc (Z19 ad.1 HB.1))
      (case af => exact ag.1)
      rintro e a5 ⟨rfl, hb⟩
      refine ⟨_, rfl, ?_⟩
      replace HB := Yh hb
      (try clear hb)
      refine hK.out _ _ trivial (fun hHeld => ?_)
      clear hK K
      refine YNa 12 ?_
      refine one_ (i := 7) (N := some 17) (YA 10 255) rfl rfl (one_of HT_.1 (by kernel_rfl)) (by decide) (fun K hK => ?_)
      refine goes_ Tryz.func30 (by kernel_rfl) rfl #[.slice aO (l0.drop 1).length (c0 - 1), .slice a0 (l1.drop 1).length (c1 - 1)] (by rfl) rfl rfl Q36 ?_
      with_reducible refine (ih k (by omega) _ _ (l0.drop 1) _ _ (l1.drop 1) am _ ?ae ?af ?ap ?aq A8.1).mono ?_
      (case ae => exact Yc (Z19 ah.1 HB.1))
      (case af => exact an.1)
      (case ap => exact Yc (Z19 ai.1 HB.1))
      (case aq => exact ao.1)
      rintro e a6 ⟨rfl, hb⟩
      refine ⟨_, rfl, ?_⟩
      replace HB := Yh hb
      (try clear hb)
      refine hK.out _ _ trivial (fun hHeld => ?_)
      clear hK K
      refine YNa 17 ?_
      refine Yp 8 (some 5) (YA 10 511) rfl HT_.1 ?_
      refine Yp 9 (some 6) (YA 10 1023) rfl HT_.1 ?_
      refine done_ (done_of HT_.1 (by kernel_rfl)) ?_
      have aj : 0 ≤ (0 : Int) := (by omega)
      have ak : 0 < (l1.length : Int) := Z27 Q5
      obtain ⟨ar, au, aa⟩ := Kd.at_int az.1 0 aj ak
      cases au
      have qi386 : (0 < l1.length) = True := eq_true (by omega)
      (try rw [show ((0 : Int)).toNat = 0 from rfl] at aa)
      (try rw [Addr.add_zero'] at aa)
      try replace aa := (HB.1.cell (World.block_lt_of_cell? w _ aa)).trans aa
      replace aj := eq_true aj
      replace ak := eq_true ak
      have av : 0 ≤ (0 : Int) := (by omega)
      have aw : 0 < (l1.length : Int) := Z27 Q5
      obtain ⟨aC, aK, ab⟩ := Kd.at_int az.1 0 av aw
      obtain rfl : ar = aC := (by injection aK)
      have qi387 : (0 < l1.length) = True := eq_true (by omega)
      (try rw [show ((0 : Int)).toNat = 0 from rfl] at ab)
      (try rw [Addr.add_zero'] at ab)
      try replace ab := (HB.1.cell (World.block_lt_of_cell? w _ ab)).trans ab
      replace av := eq_true av
      replace aw := eq_true aw
      try go_wp2
      go_ret
      exact ⟨Q2, Q12⟩
     ·rw [if_neg c10] at H
      have aA : ((Int.tmod (rd l1 0) 2) == 1) = false := beq_eq_false_iff_ne.mpr c10
      have aB : ((Int.tmod (rd l1 0) 2) != 1) = true := bne_iff_ne.mpr c10
      obtain rfl := Option.some.inj H
      go_enter Tryz.func30, Tryz.ntmps30
      try go_wp2
      replace HB := Ya (Z4 HB.1)
      obtain ⟨a1, hi018, _, hsz18, _⟩ := info_parts info3
      obtain ⟨aP, hcut18, hA18, hC18⟩ := print_drop_of (P := Tryz.prog) (Value.int .i64) 0 24 3 .i64 Tryz.underlying24 hi018 hsz18 A0 c0 l0 1 (by omega) (Z27 Q5) aM.1
      have ad := Ya (Kd.C_of_reads (h1 := fun _ => rfl) (hA18 _ (Kd.reads_of_C HR0.1)))
      have ag := Ya hC18
      clear hA18 hC18 hi018 hsz18
      have ah := ad
      have an := ag
      obtain ⟨a2, hi020, _, hsz20, _⟩ := info_parts info3
      obtain ⟨a3, hcut20, hA20, hC20⟩ := print_drop_of (P := Tryz.prog) (Value.int .i64) 0 24 3 .i64 Tryz.underlying24 hi020 hsz20 A1 c1 l1 1 (by omega) (Z27 Q5) aN.1
      have ai := Ya (Kd.C_of_reads (h1 := fun _ => rfl) (hA20 _ (Kd.reads_of_C az.1)))
      have ao := Ya hC20
      clear hA20 hC20 hi020 hsz20
      refine start_ (n := 10) (S := fun w' => True) (ds := []) (YA 10 0) (by kernel_rfl) rfl rfl trivial (fun hHeld => ?_); refine with_tabW impl_mixedRank.tab3 impl_mixedRank.bits3 (fun HT_ HW_ => ?_)
      generalize w.drew = a7 at HB ad ah ai hHeld ⊢
      refine Yp 0 (some 10) (YA 10 1) rfl HT_.1 ?_
      refine Yp 1 (some 11) (YA 10 3) rfl HT_.1 ?_
      refine Yp 3 (some 13) (YA 10 11) rfl HT_.1 ?_
      refine Yp 4 (some 14) (YA 10 27) rfl HT_.1 ?_
      refine Yp 5 (some 15) (YA 10 59) rfl HT_.1 ?_
      refine Yp 6 (some 16) (YA 10 123) rfl HT_.1 ?_
      refine one_ (i := 2) (N := some 12) (YA 10 127) rfl rfl (one_of HT_.1 (by kernel_rfl)) (by decide) (fun K hK => ?_)
      refine goes_ Tryz.func60 (by kernel_rfl) rfl #[.slice aP (l0.drop 1).length (c0 - 1)] (by rfl) rfl rfl Q44 ?_
      with_reducible refine (impl_size.calls k _ _ (l0.drop 1) al _ ?ae ?af A5.1).mono ?_
      (case ae => exact Yc (Z19 ad.1 HB.1))
      (case af => exact ag.1)
      rintro e a8 ⟨rfl, hb⟩
      refine ⟨_, rfl, ?_⟩
      replace HB := Yh hb
      (try clear hb)
      refine hK.out _ _ trivial (fun hHeld => ?_)
      clear hK K
      refine YNa 12 ?_
      refine one_ (i := 7) (N := some 17) (YA 10 255) rfl rfl (one_of HT_.1 (by kernel_rfl)) (by decide) (fun K hK => ?_)
      refine goes_ Tryz.func30 (by kernel_rfl) rfl #[.slice aP (l0.drop 1).length (c0 - 1), .slice a3 (l1.drop 1).length (c1 - 1)] (by rfl) rfl rfl Q36 ?_
      with_reducible refine (ih k (by omega) _ _ (l0.drop 1) _ _ (l1.drop 1) am _ ?ae ?af ?ap ?aq A8.1).mono ?_
      (case ae => exact Yc (Z19 ah.1 HB.1))
      (case af => exact an.1)
      (case ap => exact Yc (Z19 ai.1 HB.1))
      (case aq => exact ao.1)
      rintro e a9 ⟨rfl, hb⟩
      refine ⟨_, rfl, ?_⟩
      replace HB := Yh hb
      (try clear hb)
      refine hK.out _ _ trivial (fun hHeld => ?_)
      clear hK K
      refine YNa 17 ?_
      refine Yp 8 (some 5) (YA 10 511) rfl HT_.1 ?_
      refine Yp 9 (some 6) (YA 10 1023) rfl HT_.1 ?_
      refine done_ (done_of HT_.1 (by kernel_rfl)) ?_
      have aj : 0 ≤ (0 : Int) := (by omega)
      have ak : 0 < (l1.length : Int) := Z27 Q5
      obtain ⟨ar, au, aa⟩ := Kd.at_int az.1 0 aj ak
      cases au
      have qi386 : (0 < l1.length) = True := eq_true (by omega)
      (try rw [show ((0 : Int)).toNat = 0 from rfl] at aa)
      (try rw [Addr.add_zero'] at aa)
      try replace aa := (HB.1.cell (World.block_lt_of_cell? w _ aa)).trans aa
      replace aj := eq_true aj
      replace ak := eq_true ak
      have ax : 0 ≤ (0 : Int) := (by omega)
      have ay : 0 < (l1.length : Int) := Z27 Q5
      obtain ⟨aD, aL, ac⟩ := Kd.at_int az.1 0 ax ay
      obtain rfl : ar = aD := (by injection aL)
      have qi388 : (0 < l1.length) = True := eq_true (by omega)
      (try rw [show ((0 : Int)).toNat = 0 from rfl] at ac)
      (try rw [Addr.add_zero'] at ac)
      try replace ac := (HB.1.cell (World.block_lt_of_cell? w _ ac)).trans ac
      replace ax := eq_true ax
      replace ay := eq_true ay
      try go_wp2
      go_ret
      exact ⟨Q2, Q12⟩
    ·rw [if_neg c9] at H
     exact absurd H (by simp)
   ·rw [if_neg c7] at H
    exact absurd H (by simp)
  ·rw [if_neg c4] at H
   exact absurd H (by simp)
def impl_within.f (a0 : Int) (a1 : Int) (a2 : Int) : Option (Bool) := if a0 ≥ a1 then (some (decide (a0 ≤ a2))) else (some false)
theorem impl_within.calls (a0 : Int) (a1 : Int) (a2 : Int) (r : Bool) (w : World) (h : impl_within.f a0 a1 a2 = some r) :
  Calls Tryz.prog 42 #[.int .i64 a0, .int .i64 a1, .int .i64 a2] w fun e w' => e = .returned (.bool r) ∧ Drawn0 w w' := by
 have H : (if a0 ≥ a1 then (some (decide (a0 ≤ a2))) else (some false)) = some r := h
 clear h
 by_cases c4 : a0 ≥ a1
 ·rw [if_pos c4] at H
  have aa : decide (a1 ≤ a0) = true := Z35 c4
  clear c4
  obtain rfl := Option.some.inj H
  go_enter Tryz.func42, Tryz.ntmps42
  go_wp2
  go_ret
  exact ⟨Q24, Q16⟩
 ·rw [if_neg c4] at H
  have aa : decide (a1 ≤ a0) = false := Z34 c4
  clear c4
  obtain rfl := Option.some.inj H
  go_enter Tryz.func42, Tryz.ntmps42
  go_wp2
  go_ret
  exact ⟨Q24, Q16⟩
def impl_isSwapperSize.f (a0 : Int) : Option (Bool) := (impl_within.f a0 1 7).bind fun aa => (some aa)
theorem impl_isSwapperSize.calls (a0 : Int) (r : Bool) (w : World) (h : impl_isSwapperSize.f a0 = some r) :
  Calls Tryz.prog 32 #[.int .i64 a0] w fun e w' => e = .returned (.bool r) ∧ Drawn0 w w' := by
 have H : ((impl_within.f a0 1 7).bind fun aa => (some aa)) = some r := h
 clear h
 replace H := YB H
 obtain ⟨aa, A2, H⟩ := H
 obtain rfl := Option.some.inj H
 go_enter Tryz.func32, Tryz.ntmps32
 go_wp2_with (first | ((with_reducible refine gate_callee (f := 42) rfl ?_); refine Yz 4 Tryz.func42 #[.int .i64 a0, .int .i64 1, .int .i64 7] ?_; (with_reducible refine (impl_within.calls a0 1 7 aa _ A2.1).mono ?_); rintro e w' ⟨rfl, ⟨nd, rfl⟩⟩; refine ⟨_, rfl, ?_⟩))
 go_ret
 exact ⟨Q24, Q16⟩
def impl_allWithin.l0 : Nat → Int → Int → List Int → Int → Int → Option (Bool)
 | 0, _, _, _, _, _ => none
 | k + 1, x1, x2, x9, ac, aa => if aa < ac then (if 0 ≤ aa then (if aa < (x9.length : Int) then ((impl_within.f (rd x9 aa) x1 x2).bind fun ab => (if ab = true then (impl_allWithin.l0 k x1 x2 x9 ac (wrap64 (aa + 1))) else (some false))) else (none)) else (none)) else (some true)
def impl_allWithin.f (k : Nat) (l0 : List Int) (a1 : Int) (a2 : Int) : Option (Bool) := impl_allWithin.l0 k a1 a2 l0 (l0.length : Int) 0
theorem impl_allWithin.calls (k : Nat) (A0 : Option Addr) (c0 : Nat) (l0 : List Int) (a1 : Int) (a2 : Int) (r : Bool) (w : World) (ah : Kd.C (Kd.int .i64) w A0 l0.length l0) (ai : l0.length ≤ c0) (h : impl_allWithin.f k l0 a1 a2 = some r) :
  Calls Tryz.prog 97 #[.slice A0 l0.length c0, .int .i64 a1, .int .i64 a2] w fun e w' => e = .returned (.bool r) ∧ Drawn0 w w' := by
 have HR0 := Ya ah
 have an := Ya ai
 clear ah ai
 have H : (impl_allWithin.l0 k a1 a2 l0 (l0.length : Int) 0) = some r := h
 clear h
 have H' := Ya H
 clear H
 go_enter Tryz.func97, Tryz.ntmps97
 go_wp2
 go_loopg [11] k (fun kq aj w' => ∃ (aa : Int), aj = .int .i64 aa ∧ Aside0 (impl_allWithin.l0 kq a1 a2 l0 (l0.length : Int) aa = some r) ∧ Aside0 (kq ≤ k) ∧ Drawn0 w w')
 case atStart => exact ⟨(0), Q17, H', ⟨Nat.le_refl _⟩, Q16⟩
 case round =>
  clear H'
  obtain ⟨aa, rfl, HA, HK1, ⟨m1, rfl⟩⟩ := hrel
  cases gk with
  | zero => exact absurd HA.1 (by simp [impl_allWithin.l0])
  | succ k1 =>
   have H := HA.1
   clear HA
   simp only [impl_allWithin.l0] at H
   by_cases c4 : aa < (l0.length : Int)
   ·rw [if_pos c4] at H
    have ag := Z35 c4
    clear c4
    by_cases c5 : 0 ≤ aa
    ·rw [if_pos c5] at H
     have ak := Z35 c5
     clear c5
     by_cases c6 : aa < (l0.length : Int)
     ·rw [if_pos c6] at H
      have al := Z35 c6
      clear c6
      replace H := YB H
      obtain ⟨am, A7, H⟩ := H
      replace H := YC H
      obtain ⟨rfl, H⟩ | ⟨rfl, H⟩ := H
      ·have H' := Ya H
       clear H
       have ab : 0 ≤ (aa : Int) := Z27 Q5
       have ac : aa < (l0.length : Int) := Z27 Q5
       obtain ⟨af, ae, ad⟩ := Kd.at_int HR0.1 aa ab ac
       cases ae
       replace ab := eq_true ab
       replace ac := eq_true ac
       go_wp2_with (first | ((with_reducible refine gate_callee (f := 42) rfl ?_); refine Yz 18 Tryz.func42 #[.int .i64 (rd l0 aa), .int .i64 a1, .int .i64 a2] ?_; (with_reducible refine (impl_within.calls (rd l0 aa) a1 a2 true _ A7.1).mono ?_); rintro e w' ⟨rfl, ⟨nd, rfl⟩⟩; refine ⟨_, rfl, ?_⟩))
       go_roundg k1
       case measure => have := HK1.1; omega
       case rel => exact ⟨(wrap64 (aa + 1)), Q17, H', ⟨Q35⟩, Q16⟩
      ·obtain rfl := Option.some.inj H
       have ab : 0 ≤ (aa : Int) := Z27 Q5
       have ac : aa < (l0.length : Int) := Z27 Q5
       obtain ⟨af, ae, ad⟩ := Kd.at_int HR0.1 aa ab ac
       cases ae
       replace ab := eq_true ab
       replace ac := eq_true ac
       go_wp2_with (first | ((with_reducible refine gate_callee (f := 42) rfl ?_); refine Yz 18 Tryz.func42 #[.int .i64 (rd l0 aa), .int .i64 a1, .int .i64 a2] ?_; (with_reducible refine (impl_within.calls (rd l0 aa) a1 a2 false _ A7.1).mono ?_); rintro e w' ⟨rfl, ⟨nd, rfl⟩⟩; refine ⟨_, rfl, ?_⟩))
       go_ret
       exact ⟨Q24, Q16⟩
     ·rw [if_neg c6] at H
      exact absurd H (by simp)
    ·rw [if_neg c5] at H
     exact absurd H (by simp)
   ·rw [if_neg c4] at H
    have ag := Z34 c4
    clear c4
    obtain rfl := Option.some.inj H
    go_wp2
    go_ret
    exact ⟨Q24, Q16⟩
def impl_areBases.f (k : Nat) (l0 : List Int) : Option (Bool) := if (l0.length : Int) ≤ 12 then ((impl_allWithin.f k l0 2 12).bind fun aa => (if aa = true then ((impl_size.f k l0).bind fun ab => (some (decide (ab ≤ 1000000)))) else (some false))) else (some false)
theorem impl_areBases.calls (k : Nat) (A0 : Option Addr) (c0 : Nat) (l0 : List Int) (r : Bool) (w : World) (af : Kd.C (Kd.int .i64) w A0 l0.length l0) (ag : l0.length ≤ c0) (h : impl_areBases.f k l0 = some r) :
  Calls Tryz.prog 86 #[.slice A0 l0.length c0] w fun e w' => e = .returned (.bool r) ∧ Below w.heap.size w w' := by
 have HR0 := Ya af
 have ac := Ya ag
 clear af ag
 have HB := Ya (Below.refl w.heap.size w)
 have H : (if (l0.length : Int) ≤ 12 then ((impl_allWithin.f k l0 2 12).bind fun ab => (if ab = true then ((impl_size.f k l0).bind fun aa => (some (decide (aa ≤ 1000000)))) else (some false))) else (some false)) = some r := h
 clear h
 by_cases c2 : (l0.length : Int) ≤ 12
 ·rw [if_pos c2] at H
  have ad := Z35 c2
  have ae : decide (l0.length ≤ 12) = true := Z35 (by omega)
  clear c2
  replace H := YB H
  obtain ⟨ab, A3, H⟩ := H
  replace H := YC H
  obtain ⟨rfl, H⟩ | ⟨rfl, H⟩ := H
  ·replace H := YB H
   obtain ⟨aa, A5, H⟩ := H
   obtain rfl := Option.some.inj H
   go_enter Tryz.func86, Tryz.ntmps86
   go_wp2_with (first | (go_at_call 97; (with_reducible refine (impl_allWithin.calls k _ _ l0 2 12 true _ (Yc HR0.1) ac.1 A3.1).mono ?_); rintro e w' ⟨rfl, ⟨nd, rfl⟩⟩) | (go_at_call 60; (with_reducible refine (impl_size.calls k _ _ l0 aa _ (Yc HR0.1) ac.1 A5.1).mono ?_); rintro e w6 ⟨rfl, hb⟩; replace HB := Yh hb; (try clear hb)))
   go_ret
   exact ⟨Q2, Q12⟩
  ·obtain rfl := Option.some.inj H
   go_enter Tryz.func86, Tryz.ntmps86
   go_wp2_with (first | (go_at_call 97; (with_reducible refine (impl_allWithin.calls k _ _ l0 2 12 false _ (Yc HR0.1) ac.1 A3.1).mono ?_); rintro e w' ⟨rfl, ⟨nd, rfl⟩⟩))
   go_ret
   exact ⟨Q2, Q12⟩
 ·rw [if_neg c2] at H
  have ad := Z34 c2
  have ae : decide (l0.length ≤ 12) = false := Z34 (by omega)
  clear c2
  obtain rfl := Option.some.inj H
  go_enter Tryz.func86, Tryz.ntmps86
  go_wp2
  go_ret
  exact ⟨Q2, Q12⟩
def impl_areFocusBases.f (k : Nat) (l0 : List Int) : Option (Bool) := (impl_areBases.f k l0).bind fun aa => (if aa = true then ((impl_size.f k l0).bind fun ab => (some (decide (ab ≤ 5040)))) else (some false))
theorem impl_areFocusBases.calls (k : Nat) (A0 : Option Addr) (c0 : Nat) (l0 : List Int) (r : Bool) (w : World) (ad : Kd.C (Kd.int .i64) w A0 l0.length l0) (ae : l0.length ≤ c0) (h : impl_areFocusBases.f k l0 = some r) :
  Calls Tryz.prog 62 #[.slice A0 l0.length c0] w fun e w' => e = .returned (.bool r) ∧ Below w.heap.size w w' := by
 have HR0 := Ya ad
 have ac := Ya ae
 clear ad ae
 have HB := Ya (Below.refl w.heap.size w)
 have H : ((impl_areBases.f k l0).bind fun ab => (if ab = true then ((impl_size.f k l0).bind fun aa => (some (decide (aa ≤ 5040)))) else (some false))) = some r := h
 clear h
 replace H := YB H
 obtain ⟨ab, A2, H⟩ := H
 replace H := YC H
 obtain ⟨rfl, H⟩ | ⟨rfl, H⟩ := H
 ·replace H := YB H
  obtain ⟨aa, A4, H⟩ := H
  obtain rfl := Option.some.inj H
  go_enter Tryz.func62, Tryz.ntmps62
  go_wp2_with (first | ((with_reducible refine gate_callee (f := 86) rfl ?_); refine Yz 4 Tryz.func86 #[.slice A0 l0.length c0] ?_; (with_reducible refine (impl_areBases.calls k _ _ l0 true _ (Yc HR0.1) ac.1 A2.1).mono ?_); rintro e w5 ⟨rfl, hb⟩; refine ⟨_, rfl, ?_⟩; replace HB := Yh hb; (try clear hb)) | (go_at_call 60; (with_reducible refine (impl_size.calls k _ _ l0 aa _ (Yc (Z19 HR0.1 HB.1)) ac.1 A4.1).mono ?_); rintro e w6 ⟨rfl, hb⟩; replace HB := Yh hb; (try clear hb)))
  go_ret
  exact ⟨Q2, Q12⟩
 ·obtain rfl := Option.some.inj H
  go_enter Tryz.func62, Tryz.ntmps62
  go_wp2_with (first | ((with_reducible refine gate_callee (f := 86) rfl ?_); refine Yz 4 Tryz.func86 #[.slice A0 l0.length c0] ?_; (with_reducible refine (impl_areBases.calls k _ _ l0 false _ (Yc HR0.1) ac.1 A2.1).mono ?_); rintro e w7 ⟨rfl, hb⟩; refine ⟨_, rfl, ?_⟩; replace HB := Yh hb; (try clear hb)))
  go_ret
  exact ⟨Q2, Q12⟩
def impl_areDigits.l0 : Nat → List Int → List Int → List Int → Int → Int → Option (Bool)
 | 0, _, _, _, _, _ => none
 | k + 1, x0, x1, x7, x8, x9 => if x9 < x8 then (if 0 ≤ x9 then (if x9 < (x7.length : Int) then (if x9 ≥ (x0.length : Int) then (some false) else (if x9 < (x0.length : Int) then ((impl_within.f (rd x7 x9) 0 (wrap64 ((rd x0 x9) - 1))).bind fun aa => (if aa = true then (impl_areDigits.l0 k x0 x1 x7 x8 (wrap64 (x9 + 1))) else (some false))) else (none))) else (none)) else (none)) else (some ((x1.length : Int) == (x0.length : Int)))
def impl_areDigits.f (k : Nat) (l0 : List Int) (l1 : List Int) : Option (Bool) := impl_areDigits.l0 k l0 l1 l1 (l1.length : Int) 0
theorem impl_areDigits.calls (k : Nat) (A0 : Option Addr) (c0 : Nat) (l0 : List Int) (A1 : Option Addr) (c1 : Nat) (l1 : List Int) (r : Bool) (w : World) (ao : Kd.C (Kd.int .i64) w A0 l0.length l0) (ap : l0.length ≤ c0) (aq : Kd.C (Kd.int .i64) w A1 l1.length l1) (ar : l1.length ≤ c1) (h : impl_areDigits.f k l0 l1 = some r) :
  Calls Tryz.prog 63 #[.slice A0 l0.length c0, .slice A1 l1.length c1] w fun e w' => e = .returned (.bool r) ∧ Drawn0 w w' := by
 have HR0 := Ya ao
 have ay := Ya ap
 clear ao ap
 have al := Ya aq
 have az := Ya ar
 clear aq ar
 have H : (impl_areDigits.l0 k l0 l1 l1 (l1.length : Int) 0) = some r := h
 clear h
 have H' := Ya H
 clear H
 go_enter Tryz.func63, Tryz.ntmps63
 go_wp2
 go_loopg [9] k (fun kq v9 w' => ∃ (aa : Int), v9 = .int .i64 aa ∧ Aside0 (impl_areDigits.l0 kq l0 l1 l1 (l1.length : Int) aa = some r) ∧ Aside0 (kq ≤ k) ∧ Drawn0 w w')
 case atStart => exact ⟨(0), Q17, H', ⟨Nat.le_refl _⟩, Q16⟩
 case round =>
  clear H'
  try clear c1
  obtain ⟨aa, rfl, HA, HK1, ⟨m1, rfl⟩⟩ := hrel
  cases gk with
  | zero => exact absurd HA.1 (by simp [impl_areDigits.l0])
  | succ k1 =>
   have H := HA.1
   clear HA
   simp only [impl_areDigits.l0] at H
   by_cases c3 : aa < (l1.length : Int)
   ·rw [if_pos c3] at H
    have am := Z35 c3
    clear c3
    by_cases c4 : 0 ≤ aa
    ·rw [if_pos c4] at H
     have au := Z35 c4
     clear c4
     by_cases c5 : aa < (l1.length : Int)
     ·rw [if_pos c5] at H
      have av := Z35 c5
      clear c5
      by_cases c6 : aa ≥ (l0.length : Int)
      ·rw [if_pos c6] at H
       have an : decide ((l0.length : Int) ≤ aa) = true := Z35 c6
       clear c6
       obtain rfl := Option.some.inj H
       have ab : 0 ≤ (aa : Int) := Z27 Q5
       have ac : aa < (l1.length : Int) := Z27 Q5
       obtain ⟨ai, ag, af⟩ := Kd.at_int al.1 aa ab ac
       cases ag
       replace ab := eq_true ab
       replace ac := eq_true ac
       go_wp2
       go_ret
       exact ⟨Q24, Q16⟩
      ·rw [if_neg c6] at H
       have an : decide ((l0.length : Int) ≤ aa) = false := Z34 c6
       clear c6
       by_cases c7 : aa < (l0.length : Int)
       ·rw [if_pos c7] at H
        have aw := Z35 c7
        clear c7
        replace H := YB H
        obtain ⟨ax, A8, H⟩ := H
        replace H := YC H
        obtain ⟨rfl, H⟩ | ⟨rfl, H⟩ := H
        ·have H' := Ya H
         clear H
         have ab : 0 ≤ (aa : Int) := Z27 Q5
         have ac : aa < (l1.length : Int) := Z27 Q5
         obtain ⟨ai, ag, af⟩ := Kd.at_int al.1 aa ab ac
         cases ag
         replace ab := eq_true ab
         replace ac := eq_true ac
         have ad : 0 ≤ (aa : Int) := Z27 Q5
         have ae : aa < (l0.length : Int) := Z27 Q5
         obtain ⟨ak, aj, ah⟩ := Kd.at_int HR0.1 aa ad ae
         cases aj
         replace ad := eq_true ad
         replace ae := eq_true ae
         go_wp2_with (first | (go_at_call 42; (with_reducible refine (impl_within.calls (rd l1 aa) 0 (wrap64 ((rd l0 aa) - 1)) true _ A8.1).mono ?_); rintro e w' ⟨rfl, ⟨nd, rfl⟩⟩))
         go_roundg k1
         case measure => have := HK1.1; omega
         case rel => exact ⟨(wrap64 (aa + 1)), Q17, H', ⟨Q35⟩, Q16⟩
        ·obtain rfl := Option.some.inj H
         have ab : 0 ≤ (aa : Int) := Z27 Q5
         have ac : aa < (l1.length : Int) := Z27 Q5
         obtain ⟨ai, ag, af⟩ := Kd.at_int al.1 aa ab ac
         cases ag
         replace ab := eq_true ab
         replace ac := eq_true ac
         have ad : 0 ≤ (aa : Int) := Z27 Q5
         have ae : aa < (l0.length : Int) := Z27 Q5
         obtain ⟨ak, aj, ah⟩ := Kd.at_int HR0.1 aa ad ae
         cases aj
         replace ad := eq_true ad
         replace ae := eq_true ae
         go_wp2_with (first | (go_at_call 42; (with_reducible refine (impl_within.calls (rd l1 aa) 0 (wrap64 ((rd l0 aa) - 1)) false _ A8.1).mono ?_); rintro e w' ⟨rfl, ⟨nd, rfl⟩⟩))
         go_ret
         exact ⟨Q24, Q16⟩
       ·rw [if_neg c7] at H
        exact absurd H (by simp)
     ·rw [if_neg c5] at H
      exact absurd H (by simp)
    ·rw [if_neg c4] at H
     exact absurd H (by simp)
   ·rw [if_neg c3] at H
    have am := Z34 c3
    clear c3
    obtain rfl := Option.some.inj H
    go_wp2
    go_ret
    exact ⟨Q24, Q16⟩
def slices_Equal_int_int.l0 : Nat → List Int → List Int → Int → Int → Option (Bool)
 | 0, _, _, _, _ => none
 | k + 1, x0, x1, ab, aa => if aa < ab then (if 0 ≤ aa then (if aa < (x0.length : Int) then (if aa < (x1.length : Int) then (if (rd x0 aa) = (rd x1 aa) then (slices_Equal_int_int.l0 k x0 x1 ab (wrap64 (aa + 1))) else (some false)) else (none)) else (none)) else (none)) else (some true)
def slices_Equal_int_int.f (k : Nat) (l0 : List Int) (l1 : List Int) : Option (Bool) := if (l0.length : Int) = (l1.length : Int) then (slices_Equal_int_int.l0 k l0 l1 (l0.length : Int) 0) else (some false)
theorem slices_Equal_int_int.calls (k : Nat) (A0 : Option Addr) (c0 : Nat) (l0 : List Int) (A1 : Option Addr) (c1 : Nat) (l1 : List Int) (r : Bool) (w : World) (ar : Kd.C (Kd.int .i64) w A0 l0.length l0) (au : l0.length ≤ c0) (av : Kd.C (Kd.int .i64) w A1 l1.length l1) (aw : l1.length ≤ c1) (h : slices_Equal_int_int.f k l0 l1 = some r) :
  Calls Tryz.prog 35 #[.slice A0 l0.length c0, .slice A1 l1.length c1] w fun e w' => e = .returned (.bool r) ∧ Drawn0 w w' := by
 have HR0 := Ya ar
 have aC := Ya au
 clear ar au
 have ax := Ya av
 have aD := Ya aw
 clear av aw
 have H : (if (l0.length : Int) = (l1.length : Int) then (slices_Equal_int_int.l0 k l0 l1 (l0.length : Int) 0) else (some false)) = some r := h
 clear h
 by_cases c3 : (l0.length : Int) = (l1.length : Int)
 ·rw [if_pos c3] at H
  have aj : ((l0.length : Int) == (l1.length : Int)) = true := beq_iff_eq.mpr c3
  have ak : ((l0.length : Int) != (l1.length : Int)) = false := bne_eq_false_iff_eq.mpr c3
  have al : (l0.length == l1.length) = true := by first | simpa using c3 | (simp at c3 ⊢; omega)
  clear c3
  have H' := Ya H
  clear H
  go_enter Tryz.func35, Tryz.ntmps35
  go_wp2
  repeat (go_quiet (fail); try go_wp2)
  go_loopg [13] k (fun kq ay w' => ∃ (aa : Int), ay = .int .i64 aa ∧ Aside0 (slices_Equal_int_int.l0 kq l0 l1 (l0.length : Int) aa = some r) ∧ Aside0 (kq ≤ k) ∧ Drawn0 w w')
  case atStart => exact ⟨(0), Q17, H', ⟨Nat.le_refl _⟩, Q16⟩
  case round =>
   clear H'
   try clear c1
   try clear c3
   try clear aj
   try clear ak
   try clear al
   obtain ⟨aa, rfl, HA, HK1, ⟨m1, rfl⟩⟩ := hrel
   cases gk with
   | zero => exact absurd HA.1 (by simp [slices_Equal_int_int.l0])
   | succ k1 =>
    have H := HA.1
    clear HA
    simp only [slices_Equal_int_int.l0] at H
    by_cases c4 : aa < (l0.length : Int)
    ·rw [if_pos c4] at H
     have ao := Z35 c4
     clear c4
     by_cases c5 : 0 ≤ aa
     ·rw [if_pos c5] at H
      have az := Z35 c5
      clear c5
      by_cases c6 : aa < (l0.length : Int)
      ·rw [if_pos c6] at H
       have aA := Z35 c6
       clear c6
       by_cases c7 : aa < (l1.length : Int)
       ·rw [if_pos c7] at H
        have aB := Z35 c7
        clear c7
        by_cases c8 : (rd l0 aa) = (rd l1 aa)
        ·rw [if_pos c8] at H
         have ap : ((rd l0 aa) == (rd l1 aa)) = true := beq_iff_eq.mpr c8
         have aq : ((rd l0 aa) != (rd l1 aa)) = false := bne_eq_false_iff_eq.mpr c8
         clear c8
         have H' := Ya H
         clear H
         have ab : 0 ≤ (aa : Int) := Z27 Q5
         have ac : aa < (l0.length : Int) := Z27 Q5
         obtain ⟨am, ah, af⟩ := Kd.at_int HR0.1 aa ab ac
         cases ah
         replace ab := eq_true ab
         replace ac := eq_true ac
         have ad : 0 ≤ (aa : Int) := Z27 Q5
         have ae : aa < (l1.length : Int) := Z27 Q5
         obtain ⟨an, ai, ag⟩ := Kd.at_int ax.1 aa ad ae
         cases ai
         replace ad := eq_true ad
         replace ae := eq_true ae
         go_wp2
         repeat (go_quiet (fail); try go_wp2)
         go_roundg k1
         case measure => have := HK1.1; omega
         case rel => exact ⟨(wrap64 (aa + 1)), Q17, H', ⟨Q35⟩, Q16⟩
        ·rw [if_neg c8] at H
         have ap : ((rd l0 aa) == (rd l1 aa)) = false := beq_eq_false_iff_ne.mpr c8
         have aq : ((rd l0 aa) != (rd l1 aa)) = true := bne_iff_ne.mpr c8
         obtain rfl := Option.some.inj H
         have ab : 0 ≤ (aa : Int) := Z27 Q5
         have ac : aa < (l0.length : Int) := Z27 Q5
         obtain ⟨am, ah, af⟩ := Kd.at_int HR0.1 aa ab ac
         cases ah
         replace ab := eq_true ab
         replace ac := eq_true ac
         have ad : 0 ≤ (aa : Int) := Z27 Q5
         have ae : aa < (l1.length : Int) := Z27 Q5
         obtain ⟨an, ai, ag⟩ := Kd.at_int ax.1 aa ad ae
         cases ai
         replace ad := eq_true ad
         replace ae := eq_true ae
         go_wp2
         repeat (go_quiet (fail); try go_wp2)
         go_ret
         exact ⟨Q24, Q16⟩
       ·rw [if_neg c7] at H
        exact absurd H (by simp)
      ·rw [if_neg c6] at H
       exact absurd H (by simp)
     ·rw [if_neg c5] at H
      exact absurd H (by simp)
    ·rw [if_neg c4] at H
     have ao := Z34 c4
     clear c4
     obtain rfl := Option.some.inj H
     go_wp2
     repeat (go_quiet (fail); try go_wp2)
     go_ret
     exact ⟨Q24, Q16⟩
 ·rw [if_neg c3] at H
  have aj : ((l0.length : Int) == (l1.length : Int)) = false := beq_eq_false_iff_ne.mpr c3
  have ak : ((l0.length : Int) != (l1.length : Int)) = true := bne_iff_ne.mpr c3
  have al : (l0.length == l1.length) = false := by first | simpa using c3 | (simp at c3 ⊢; omega)
  obtain rfl := Option.some.inj H
  go_enter Tryz.func35, Tryz.ntmps35
  go_wp2
  repeat (go_quiet (fail); try go_wp2)
  go_ret
  exact ⟨Q24, Q16⟩
def slices_Equal_bool_bool.l0 : Nat → List Bool → List Bool → Int → Int → Option (Bool)
 | 0, _, _, _, _ => none
 | k + 1, x0, x1, ab, aa => if aa < ab then (if 0 ≤ aa then (if aa < (x0.length : Int) then (if aa < (x1.length : Int) then (if ((rdOf false x0 aa) != (rdOf false x1 aa)) = true then (some false) else (slices_Equal_bool_bool.l0 k x0 x1 ab (wrap64 (aa + 1)))) else (none)) else (none)) else (none)) else (some true)
def slices_Equal_bool_bool.f (k : Nat) (l0 : List Bool) (l1 : List Bool) : Option (Bool) := if (l0.length : Int) = (l1.length : Int) then (slices_Equal_bool_bool.l0 k l0 l1 (l0.length : Int) 0) else (some false)
theorem slices_Equal_bool_bool.calls (k : Nat) (A0 : Option Addr) (c0 : Nat) (l0 : List Bool) (A1 : Option Addr) (c1 : Nat) (l1 : List Bool) (r : Bool) (w : World) (au : Kd.C Kd.bool w A0 l0.length l0) (av : l0.length ≤ c0) (aw : Kd.C Kd.bool w A1 l1.length l1) (ax : l1.length ≤ c1) (h : slices_Equal_bool_bool.f k l0 l1 = some r) :
  Calls Tryz.prog 87 #[.slice A0 l0.length c0, .slice A1 l1.length c1] w fun e w' => e = .returned (.bool r) ∧ Drawn0 w w' := by
 have HR0 := Ya au
 have aE := Ya av
 clear au av
 have ay := Ya aw
 have aF := Ya ax
 clear aw ax
 have H : (if (l0.length : Int) = (l1.length : Int) then (slices_Equal_bool_bool.l0 k l0 l1 (l0.length : Int) 0) else (some false)) = some r := h
 clear h
 by_cases c3 : (l0.length : Int) = (l1.length : Int)
 ·rw [if_pos c3] at H
  have aj : ((l0.length : Int) == (l1.length : Int)) = true := beq_iff_eq.mpr c3
  have ak : ((l0.length : Int) != (l1.length : Int)) = false := bne_eq_false_iff_eq.mpr c3
  have al : (l0.length == l1.length) = true := by first | simpa using c3 | (simp at c3 ⊢; omega)
  clear c3
  have H' := Ya H
  clear H
  go_enter Tryz.func87, Tryz.ntmps87
  go_wp2
  repeat (go_quiet (fail); try go_wp2)
  go_loopg [13] k (fun kq az w' => ∃ (aa : Int), az = .int .i64 aa ∧ Aside0 (slices_Equal_bool_bool.l0 kq l0 l1 (l0.length : Int) aa = some r) ∧ Aside0 (kq ≤ k) ∧ Drawn0 w w')
  case atStart => exact ⟨(0), Q17, H', ⟨Nat.le_refl _⟩, Q16⟩
  case round =>
   clear H'
   try clear c1
   try clear c3
   try clear aj
   try clear ak
   try clear al
   obtain ⟨aa, rfl, HA, HK1, ⟨m1, rfl⟩⟩ := hrel
   cases gk with
   | zero => exact absurd HA.1 (by simp [slices_Equal_bool_bool.l0])
   | succ k1 =>
    have H := HA.1
    clear HA
    simp only [slices_Equal_bool_bool.l0] at H
    by_cases c4 : aa < (l0.length : Int)
    ·rw [if_pos c4] at H
     have ao := Z35 c4
     clear c4
     by_cases c5 : 0 ≤ aa
     ·rw [if_pos c5] at H
      have aA := Z35 c5
      clear c5
      by_cases c6 : aa < (l0.length : Int)
      ·rw [if_pos c6] at H
       have aB := Z35 c6
       clear c6
       by_cases c7 : aa < (l1.length : Int)
       ·rw [if_pos c7] at H
        have aC := Z35 c7
        clear c7
        by_cases c8 : ((rdOf false l0 aa) != (rdOf false l1 aa)) = true
        ·rw [if_pos c8] at H
         have ap : ((rdOf false l0 aa) != (rdOf false l1 aa)) = true := c8
         (try (have aq : decide ((rdOf false l0 aa) = (rdOf false l1 aa)) = false := by simpa using c8))
         (try (have ar : ((rdOf false l0 aa) == (rdOf false l1 aa)) = false := by simpa using c8))
         (try (have aD : ¬ ((rdOf false l0 aa) = (rdOf false l1 aa)) := by simpa using c8))
         clear c8
         obtain rfl := Option.some.inj H
         have ab : 0 ≤ (aa : Int) := Z27 Q5
         have ac : aa < (l0.length : Int) := Z27 Q5
         obtain ⟨am, ah, af⟩ := Kd.at_bool HR0.1 aa ab ac
         cases ah
         replace ab := eq_true ab
         replace ac := eq_true ac
         have ad : 0 ≤ (aa : Int) := Z27 Q5
         have ae : aa < (l1.length : Int) := Z27 Q5
         obtain ⟨an, ai, ag⟩ := Kd.at_bool ay.1 aa ad ae
         cases ai
         replace ad := eq_true ad
         replace ae := eq_true ae
         go_wp2
         repeat (go_quiet (fail); try go_wp2)
         go_ret
         exact ⟨Q24, Q16⟩
        ·rw [if_neg c8] at H
         have ap : ((rdOf false l0 aa) != (rdOf false l1 aa)) = false := by simpa using c8
         (try (have aq : decide ((rdOf false l0 aa) = (rdOf false l1 aa)) = true := by simpa using c8))
         (try (have ar : ((rdOf false l0 aa) == (rdOf false l1 aa)) = true := by simpa using c8))
         clear c8
         have H' := Ya H
         clear H
         have ab : 0 ≤ (aa : Int) := Z27 Q5
         have ac : aa < (l0.length : Int) := Z27 Q5
         obtain ⟨am, ah, af⟩ := Kd.at_bool HR0.1 aa ab ac
         cases ah
         replace ab := eq_true ab
         replace ac := eq_true ac
         have ad : 0 ≤ (aa : Int) := Z27 Q5
         have ae : aa < (l1.length : Int) := Z27 Q5
         obtain ⟨an, ai, ag⟩ := Kd.at_bool ay.1 aa ad ae
         cases ai
         replace ad := eq_true ad
         replace ae := eq_true ae
         go_wp2
         repeat (go_quiet (fail); try go_wp2)
         go_roundg k1
         case measure => have := HK1.1; omega
         case rel => exact ⟨(wrap64 (aa + 1)), Q17, H', ⟨Q35⟩, Q16⟩
       ·rw [if_neg c7] at H
        exact absurd H (by simp)
      ·rw [if_neg c6] at H
       exact absurd H (by simp)
     ·rw [if_neg c5] at H
      exact absurd H (by simp)
    ·rw [if_neg c4] at H
     have ao := Z34 c4
     clear c4
     obtain rfl := Option.some.inj H
     go_wp2
     repeat (go_quiet (fail); try go_wp2)
     go_ret
     exact ⟨Q24, Q16⟩
 ·rw [if_neg c3] at H
  have aj : ((l0.length : Int) == (l1.length : Int)) = false := beq_eq_false_iff_ne.mpr c3
  have ak : ((l0.length : Int) != (l1.length : Int)) = true := bne_iff_ne.mpr c3
  have al : (l0.length == l1.length) = false := by first | simpa using c3 | (simp at c3 ⊢; omega)
  obtain rfl := Option.some.inj H
  go_enter Tryz.func87, Tryz.ntmps87
  go_wp2
  repeat (go_quiet (fail); try go_wp2)
  go_ret
  exact ⟨Q24, Q16⟩
def impl_Focus_same.f (k : Nat) (aa : List Int) (ab : List Int) (ac : List Bool) (ad : List Int) (ae : List Int) (af : List Int) (ag : List Bool) (ah : List Int) : Option (Bool) := (slices_Equal_int_int.f k aa ae).bind fun ai => (if ai = true then ((slices_Equal_int_int.f k ab af).bind fun aj => (if aj = true then ((slices_Equal_bool_bool.f k ac ag).bind fun ak => (if ak = true then ((slices_Equal_int_int.f k ad ah).bind fun al => (some al)) else (some false))) else (some false))) else (some false))
theorem impl_Focus_same.calls (k : Nat) (ao : Option Addr) (ap : Nat) (ad : List Int) (ay : Option Addr) (az : Nat) (ah : List Int) (aA : Option Addr) (aB : Nat) (aj : List Bool) (aC : Option Addr) (aD : Nat) (al : List Int) (aq : Option Addr) (ar : Nat) (ae : List Int) (aE : Option Addr) (aF : Nat) (ai : List Int) (aG : Option Addr) (aH : Nat) (ak : List Bool) (aI : Option Addr) (aJ : Nat) (am : List Int) (r : Bool) (w : World) (aS : Kd.C (Kd.int .i64) w ao ad.length ad) (aT : ad.length ≤ ap) (aU : Kd.C (Kd.int .i64) w ay ah.length ah) (aV : ah.length ≤ az) (aW : Kd.C Kd.bool w aA aj.length aj) (aX : aj.length ≤ aB) (aY : Kd.C (Kd.int .i64) w aC al.length al) (aZ : al.length ≤ aD) (a0 : Kd.C (Kd.int .i64) w aq ae.length ae) (a1 : ae.length ≤ ar) (a2 : Kd.C (Kd.int .i64) w aE ai.length ai) (a3 : ai.length ≤ aF) (a4 : Kd.C Kd.bool w aG ak.length ak) (a5 : ak.length ≤ aH) (a6 : Kd.C (Kd.int .i64) w aI am.length am) (a7 : am.length ≤ aJ) (h : impl_Focus_same.f k ad ah aj al ae ai ak am = some r) :
  Calls Tryz.prog 64 #[.agg #[.slice ao ad.length ap, .slice ay ah.length az, .slice aA aj.length aB, .slice aC al.length aD], .agg #[.slice aq ae.length ar, .slice aE ai.length aF, .slice aG ak.length aH, .slice aI am.length aJ]] w fun e w' => e = .returned (.bool r) ∧ Below w.heap.size w w' := by
 have hu27 := Tryz.underlying27
 have au := Ya aS
 have av := Ya aT
 clear aS aT
 have aK := Ya aU
 have aL := Ya aV
 clear aU aV
 have a8 := Ya aW
 have a9 := Ya aX
 clear aW aX
 have bd := Ya aY
 have be := Ya aZ
 clear aY aZ
 have aw := Ya a0
 have ax := Ya a1
 clear a0 a1
 have aM := Ya a2
 have aN := Ya a3
 clear a2 a3
 have ba := Ya a4
 have bb := Ya a5
 clear a4 a5
 have bf := Ya a6
 have bg := Ya a7
 clear a6 a7
 have HB := Ya (Below.refl w.heap.size w)
 have H : ((slices_Equal_int_int.f k ad ae).bind fun bh => (if bh = true then ((slices_Equal_int_int.f k ah ai).bind fun bi => (if bi = true then ((slices_Equal_bool_bool.f k aj ak).bind fun bj => (if bj = true then ((slices_Equal_int_int.f k al am).bind fun bc => (some bc)) else (some false))) else (some false))) else (some false))) = some r := h
 clear h
 replace H := YB H
 obtain ⟨bh, A3, H⟩ := H
 replace H := YC H
 obtain ⟨rfl, H⟩ | ⟨rfl, H⟩ := H
 ·replace H := YB H
  obtain ⟨bi, A5, H⟩ := H
  replace H := YC H
  obtain ⟨rfl, H⟩ | ⟨rfl, H⟩ := H
  ·replace H := YB H
   obtain ⟨bj, A7, H⟩ := H
   replace H := YC H
   obtain ⟨rfl, H⟩ | ⟨rfl, H⟩ := H
   ·replace H := YB H
    obtain ⟨bc, A9, H⟩ := H
    obtain rfl := Option.some.inj H
    go_enter Tryz.func64, Tryz.ntmps64
    go_wp2_with (first | ((with_reducible refine gate_dst (N := 2) rfl ?_); refine Yx 2 #[.slice ao ad.length ap, .slice ay ah.length az, .slice aA aj.length aB, .slice aC al.length aD] 27 ?_; intro aO hg bD hbox hb; have aa := Ya hbox; have aP := Yg hg; replace HB := Yh hb; clear hb hbox hg) | ((with_reducible refine gate_dst (N := 3) rfl ?_); refine Yx 3 #[.slice aq ae.length ar, .slice aE ai.length aF, .slice aG ak.length aH, .slice aI am.length aJ] 27 ?_; intro aQ hg bE hbox hb; have an := Ya hbox; have aR := Yg hg; replace HB := Yh hb; have ab := Yn aa hg; have ac := Ym aa hg; replace aa := Yb aa hb; clear hb hbox hg; have bk := ab.1; have bl := ac.1; have bu := Y4 aa.1; have bv := Y4 an.1) | ((with_reducible refine gate_callee (f := 35) rfl ?_); refine Yz 9 Tryz.func35 #[.slice ao ad.length ap, .slice aq ae.length ar] ?_; (with_reducible refine (slices_Equal_int_int.calls k _ _ ad _ _ ae true _ (Yc (Z19 au.1 HB.1)) av.1 (Yc (Z19 aw.1 HB.1)) ax.1 A3.1).mono ?_); rintro e w' ⟨rfl, ⟨nd, rfl⟩⟩; refine ⟨_, rfl, ?_⟩) | (go_at_call 35; (with_reducible refine (slices_Equal_int_int.calls k _ _ ah _ _ ai true _ ?af aL.1 ?ag aN.1 A5.1).mono ?_); (case af => exact Yc (Z19 aK.1 Q0)); (case ag => exact Yc (Z19 aM.1 Q0)); rintro e w' ⟨rfl, ⟨nd, rfl⟩⟩) | (go_at_call 87; (with_reducible refine (slices_Equal_bool_bool.calls k _ _ aj _ _ ak true _ ?af a9.1 ?ag bb.1 A7.1).mono ?_); (case af => exact Yc (Z19 a8.1 Q0)); (case ag => exact Yc (Z19 ba.1 Q0)); rintro e w' ⟨rfl, ⟨nd, rfl⟩⟩) | (go_at_call 35; (with_reducible refine (slices_Equal_int_int.calls k _ _ al _ _ am bc _ ?af be.1 ?ag bg.1 A9.1).mono ?_); (case af => exact Yc (Z19 bd.1 Q0)); (case ag => exact Yc (Z19 bf.1 Q0)); rintro e w' ⟨rfl, ⟨nd, rfl⟩⟩))
    go_ret
    exact ⟨Q2, Q12⟩
   ·obtain rfl := Option.some.inj H
    go_enter Tryz.func64, Tryz.ntmps64
    go_wp2_with (first | ((with_reducible refine gate_dst (N := 2) rfl ?_); refine Yx 2 #[.slice ao ad.length ap, .slice ay ah.length az, .slice aA aj.length aB, .slice aC al.length aD] 27 ?_; intro aO hg bF hbox hb; have aa := Ya hbox; have aP := Yg hg; replace HB := Yh hb; clear hb hbox hg) | ((with_reducible refine gate_dst (N := 3) rfl ?_); refine Yx 3 #[.slice aq ae.length ar, .slice aE ai.length aF, .slice aG ak.length aH, .slice aI am.length aJ] 27 ?_; intro aQ hg bG hbox hb; have an := Ya hbox; have aR := Yg hg; replace HB := Yh hb; have ab := Yn aa hg; have ac := Ym aa hg; replace aa := Yb aa hb; clear hb hbox hg; have bm := ab.1; have bn := ac.1; have bw := Y4 aa.1; have bx := Y4 an.1) | ((with_reducible refine gate_callee (f := 35) rfl ?_); refine Yz 9 Tryz.func35 #[.slice ao ad.length ap, .slice aq ae.length ar] ?_; (with_reducible refine (slices_Equal_int_int.calls k _ _ ad _ _ ae true _ (Yc (Z19 au.1 HB.1)) av.1 (Yc (Z19 aw.1 HB.1)) ax.1 A3.1).mono ?_); rintro e w' ⟨rfl, ⟨nd, rfl⟩⟩; refine ⟨_, rfl, ?_⟩) | (go_at_call 35; (with_reducible refine (slices_Equal_int_int.calls k _ _ ah _ _ ai true _ ?af aL.1 ?ag aN.1 A5.1).mono ?_); (case af => exact Yc (Z19 aK.1 Q0)); (case ag => exact Yc (Z19 aM.1 Q0)); rintro e w' ⟨rfl, ⟨nd, rfl⟩⟩) | (go_at_call 87; (with_reducible refine (slices_Equal_bool_bool.calls k _ _ aj _ _ ak false _ ?af a9.1 ?ag bb.1 A7.1).mono ?_); (case af => exact Yc (Z19 a8.1 Q0)); (case ag => exact Yc (Z19 ba.1 Q0)); rintro e w' ⟨rfl, ⟨nd, rfl⟩⟩))
    go_ret
    exact ⟨Q2, Q12⟩
  ·obtain rfl := Option.some.inj H
   go_enter Tryz.func64, Tryz.ntmps64
   go_wp2_with (first | ((with_reducible refine gate_dst (N := 2) rfl ?_); refine Yx 2 #[.slice ao ad.length ap, .slice ay ah.length az, .slice aA aj.length aB, .slice aC al.length aD] 27 ?_; intro aO hg bH hbox hb; have aa := Ya hbox; have aP := Yg hg; replace HB := Yh hb; clear hb hbox hg) | ((with_reducible refine gate_dst (N := 3) rfl ?_); refine Yx 3 #[.slice aq ae.length ar, .slice aE ai.length aF, .slice aG ak.length aH, .slice aI am.length aJ] 27 ?_; intro aQ hg bI hbox hb; have an := Ya hbox; have aR := Yg hg; replace HB := Yh hb; have ab := Yn aa hg; have ac := Ym aa hg; replace aa := Yb aa hb; clear hb hbox hg; have bo := ab.1; have bp := ac.1; have bz := Y4 aa.1; have bA := Y4 an.1) | ((with_reducible refine gate_callee (f := 35) rfl ?_); refine Yz 9 Tryz.func35 #[.slice ao ad.length ap, .slice aq ae.length ar] ?_; (with_reducible refine (slices_Equal_int_int.calls k _ _ ad _ _ ae true _ (Yc (Z19 au.1 HB.1)) av.1 (Yc (Z19 aw.1 HB.1)) ax.1 A3.1).mono ?_); rintro e w' ⟨rfl, ⟨nd, rfl⟩⟩; refine ⟨_, rfl, ?_⟩) | (go_at_call 35; (with_reducible refine (slices_Equal_int_int.calls k _ _ ah _ _ ai false _ ?af aL.1 ?ag aN.1 A5.1).mono ?_); (case af => exact Yc (Z19 aK.1 Q0)); (case ag => exact Yc (Z19 aM.1 Q0)); rintro e w' ⟨rfl, ⟨nd, rfl⟩⟩))
   go_ret
   exact ⟨Q2, Q12⟩
 ·obtain rfl := Option.some.inj H
  go_enter Tryz.func64, Tryz.ntmps64
  go_wp2_with (first | ((with_reducible refine gate_dst (N := 2) rfl ?_); refine Yx 2 #[.slice ao ad.length ap, .slice ay ah.length az, .slice aA aj.length aB, .slice aC al.length aD] 27 ?_; intro aO hg bJ hbox hb; have aa := Ya hbox; have aP := Yg hg; replace HB := Yh hb; clear hb hbox hg) | ((with_reducible refine gate_dst (N := 3) rfl ?_); refine Yx 3 #[.slice aq ae.length ar, .slice aE ai.length aF, .slice aG ak.length aH, .slice aI am.length aJ] 27 ?_; intro aQ hg bK hbox hb; have an := Ya hbox; have aR := Yg hg; replace HB := Yh hb; have ab := Yn aa hg; have ac := Ym aa hg; replace aa := Yb aa hb; clear hb hbox hg; have bq := ab.1; have br := ac.1; have bB := Y4 aa.1; have bC := Y4 an.1) | ((with_reducible refine gate_callee (f := 35) rfl ?_); refine Yz 9 Tryz.func35 #[.slice ao ad.length ap, .slice aq ae.length ar] ?_; (with_reducible refine (slices_Equal_int_int.calls k _ _ ad _ _ ae false _ (Yc (Z19 au.1 HB.1)) av.1 (Yc (Z19 aw.1 HB.1)) ax.1 A3.1).mono ?_); rintro e w' ⟨rfl, ⟨nd, rfl⟩⟩; refine ⟨_, rfl, ?_⟩))
  go_ret
  exact ⟨Q2, Q12⟩
open Go.Proofs.YtapbbmicfkbafaaGreat.FoW in
theorem impl_Focus_step.callsG (CS : Array Value) (T : TypeId) (hT : T ≠ 3 ∧ T ≠ 4) (w0 : World) (g g0 c0 g1 c1 g2 c2 g3 c3 : Nat) (b d : List Int) (u : List Bool) (p d' : List Int) (u' : List Bool) (p' : List Int) (r : Int) (w : World)
  (aj : CS[0]? = some (.slice (some ⟨g0, 0, none⟩) b.length c0)) (ak : CS[1]? = some (.slice (some ⟨g1, 0, none⟩) d.length c1)) (al : CS[2]? = some (.slice (some ⟨g2, 0, none⟩) u.length c2)) (am : CS[3]? = some (.slice (some ⟨g3, 0, none⟩) p.length c3))
  (hb : w.heap[g]? = some (.cells CS T (0, 0))) (hF : FoR w w0.heap.size g0 c0 g1 c1 g2 c2 g3 c3 b d u p) (hW : Below w0.heap.size w0 w) (h : stepF b d u p = some (d', u', p', r)) :
  Calls Tryz.prog 51 #[.pointer (some ⟨g, 0, none⟩)] w fun e w' => e = .returned (.int .i64 r) ∧ w'.heap[g]? = w.heap[g]? ∧ FoR w' w0.heap.size g0 c0 g1 c1 g2 c2 g3 c3 b d' u' p' ∧ Kept w w' (Wr g1 g2 g3) ∧ Below w0.heap.size w0 w' := by
 have hne := FoR.apart hF hb hT.1 hT.2
 have BK := Ya hb
 have aa := Ya aj
 have ab := Ya ak
 have ah := Ya al
 have ac := Ya am
 clear aj ak al am
 have an := Ya hb
 have HF := Ya hF
 have HK := Ya (Kept.refl w (Wr g1 g2 g3))
 have HW := Ya hW
 unfold stepF at h
 simp only at h
 by_cases hc : 0 ≤ rd p 0 ∧ rd p 0 < b.length ∧ b.length ≤ 1000 ∧ d.length = b.length ∧ u.length = b.length ∧ p.length = b.length + 1 ∧ -1000 ≤ rd d ((b.length : Int) - 1 - rd p 0) ∧ rd d ((b.length : Int) - 1 - rd p 0) ≤ 1000 ∧ -1000 ≤ rd b ((b.length : Int) - 1 - rd p 0) ∧ rd b ((b.length : Int) - 1 - rd p 0) ≤ 1000
 rotate_left
 ·rw [if_neg hc] at h; cases h
 rw [if_pos hc] at h
 obtain ⟨J, hJ⟩ : ∃ J, rd p 0 = J := ⟨_, rfl⟩
 rw [hJ] at h hc
 obtain ⟨I, hI⟩ : ∃ I, (b.length : Int) - 1 - J = I := ⟨_, rfl⟩
 rw [hI] at h hc
 obtain ⟨j0, j1, m0, l1, l2, l3, x0, x1, y0, y1⟩ := hc
 have HL := Ya (show (0 ≤ I ∧ I < b.length) ∧ I < d.length ∧ I < u.length ∧ J + 1 < p.length ∧ J < p.length ∧ 0 < p.length ∧ 0 ≤ J from ⟨⟨by omega, by omega⟩, by omega, by omega, by omega, by omega, by omega, by omega⟩)
 have HX := Ya (show (-1000 ≤ rd d I ∧ rd d I ≤ 1000) ∧ -1000 ≤ rd b I ∧ rd b I ≤ 1000 from ⟨⟨x0, x1⟩, y0, y1⟩)
 have k1 : wrap64 ((b.length : Int) - 1) = (b.length : Int) - 1 := by unfold wrap64; omega
 have k2 : wrap64 (J + 1) = J + 1 := by unfold wrap64; omega
 have k1' : IntKind.i64.wrap ((b.length : Int) - 1) = (b.length : Int) - 1 := (i64_w _).trans k1
 have k2' : IntKind.i64.wrap (J + 1) = J + 1 := (i64_w _).trans k2
 have k3 : wrap64 ((b.length : Int) - 1 - J) = I := by rw [← hI]; unfold wrap64; omega
 have k3' : IntKind.i64.wrap ((b.length : Int) - 1 - J) = I := (i64_w _).trans k3
 have b1 : (J == (b.length : Int)) = false := beq_eq_false_iff_ne.mpr (by omega)
 have b2 : (0 ≤ I) = True := eq_true (by omega)
 have b3 : (I < (u.length : Int)) = True := eq_true (by omega)
 have b4 : (I < (d.length : Int)) = True := eq_true (by omega)
 have b5 : (I < (b.length : Int)) = True := eq_true (by omega)
 have b6 : (0 ≤ J) = True := eq_true (by omega)
 have b7 : (J < (p.length : Int)) = True := eq_true (by omega)
 have b8 : (J + 1 < (p.length : Int)) = True := eq_true (by omega)
 have b9 : (0 ≤ J + 1) = True := eq_true (by omega)
 have ap : (0 < p.length) = True := eq_true (by omega)
 have aq : ((0 : Int) < (p.length : Int)) = True := eq_true (by omega)
 have HJ := Ya hJ
 obtain ⟨X, hX⟩ : ∃ X, (if rdOf false u I = true then rd d I + 1 else rd d I - 1) = X := ⟨_, rfl⟩
 rw [hX] at h
 have HH := Ya h
 have HXX := Ya hX
 clear hF hb hW h hJ hI hX j0 j1 m0 l1 l2 l3 x0 x1 y0 y1
 go_enter Tryz.func51, Tryz.ntmps51
 go_wp2_with fail
 replace BK := Ya (Z23 BK.1)
 replace HF := Ya (FoR.drew HF.1)
 replace HK := Ya (Kept.drew HK.1)
 replace HW := Ya (Z4 HW.1)
 refine start_ (n := 13) (S := fun w' => w'.cell? ⟨g, 0, none⟩ = some (.slice (some ⟨g0, 0, none⟩) b.length c0) ∧ w'.cell? ⟨g, 3, none⟩ = some (.slice (some ⟨g3, 0, none⟩) p.length c3) ∧ w'.cell? ⟨g3, 0, none⟩ = some (.int .i64 J)) (ds := []) (YA 13 0) (by kernel_rfl) rfl rfl ⟨(Z20 BK.1 0).trans aa.1, (Z20 BK.1 3).trans ac.1, (by rw [← HJ.1]; exact (FoR.at3 HF.1 0 (by decide) Q22).1)⟩ (fun hHeld => ?_)
 generalize World.drew _ = w1 at BK HF HK HW hHeld ⊢
 refine Yq 0 (some 6) (YA 13 1) rfl ?_
 refine Yq 1 (some 7) (YA 13 3) rfl ?_
 refine Yq 2 (some 8) (YA 13 7) rfl ?_
 refine Yq 5 (some 11) (YA 13 39) rfl ?_
 refine Yq 6 (some 12) (YA 13 103) rfl ?_
 refine Yq 7 (some 13) (YA 13 231) rfl ?_
 refine Ys 3 (some 9) (YA 13 239) rfl hHeld Q21 ?_
 refine Yq 4 (some 10) (YA 13 255) rfl ?_
 refine Yq 11 (some 3) (YA 13 2303) rfl ?_
 refine Ys 8 (some 14) (YA 13 2559) rfl hHeld Q21 ?_
 refine Yq 9 (some 15) (YA 13 3071) rfl ?_
 refine Ys 10 (some 16) (YA 13 4095) rfl hHeld Q21 ?_
 refine Yq 12 (some 4) (YA 13 8191) rfl ?_
 refine done_ (by kernel_rfl) ?_
 have ad := (Z20 BK.1 0).trans aa.1
 have ae := (Z20 BK.1 1).trans ab.1
 have af := (Z20 BK.1 2).trans ah.1
 have ag := (Z20 BK.1 3).trans ac.1
 have hx := (FoR.at3 HF.1 0 (by decide) Q22).1
 have hz : World.frozen? _ ⟨g3, 0, none⟩ = false := (FoR.at3 HF.1 0 (by decide) Q22).2
 rw [show (0 : Int).toNat = 0 from rfl] at hx
 go_upto_region 6 with fail
 clear hx hz ad ae af ag
 replace BK := Ya (show (World.setCell w1 ⟨g3, 0, none⟩ (.int .i64 0)).heap[g]? = _ from blk_far (p := ⟨g3, 0, none⟩) BK.1 hne.2.2.2 (.int .i64 0))
 replace HK := Ya (Kept.setCell HK.1 (p := ⟨g3, 0, none⟩) (.inl (.inr (.inr rfl))) (.int .i64 0))
 replace HW := Ya (show Below w0.heap.size w0 (World.setCell w1 ⟨g3, 0, none⟩ (.int .i64 0)) from Z6 HW.1 (FoR.ge HF.1).2.2.2)
 replace HF := Ya (show FoR (World.setCell w1 ⟨g3, 0, none⟩ (.int .i64 0)) w0.heap.size g0 c0 g1 c1 g2 c2 g3 c3 b d u (p.set 0 0) from FoR.put3 HF.1 0 0)
 generalize World.setCell w1 ⟨g3, 0, none⟩ (.int .i64 0) = w2 at BK HF HK HW ⊢
 have ad := (Z20 BK.1 0).trans aa.1
 have ae := (Z20 BK.1 1).trans ab.1
 have af := (Z20 BK.1 2).trans ah.1
 have ag := (Z20 BK.1 3).trans ac.1
 have ai := (FoR.at2 HF.1 I Q22 Q22).1
 go_upto_if 35 with fail
 go_cut [] (fun wc => Aside0 (wc.heap[g]? = some (.cells CS T (0, 0))) ∧ Aside0 (FoR wc w0.heap.size g0 c0 g1 c1 g2 c2 g3 c3 b (d.set I.toNat X) u (p.set 0 0)) ∧ Aside0 (Kept w wc (Wr g1 g2 g3)) ∧ Aside0 (Below w0.heap.size w0 wc))
 case first =>
  have ar := (FoR.at1 HF.1 I Q22 Q22).1
  have au := (FoR.at1 HF.1 I Q22 Q22).2
  have n0_ := Ya (blk_far (p := ⟨g1, I.toNat, none⟩) BK.1 hne.2.1 (.int .i64 X))
  have n1_ := Ya (FoR.put1 HF.1 I X)
  have n2_ := Ya (Kept.setCell HK.1 (p := ⟨g1, I.toNat, none⟩) (.inl (.inl rfl)) (.int .i64 X))
  have n3_ := Ya (Z6 (j := I.toNat) (v := .int .i64 X) HW.1 (FoR.ge HF.1).2.1)
  cases hU : rdOf false u I
  ·have hv : rd d I - 1 = X := by have := HXX.1; rw [hU] at this; simpa using this
   have hw : wrap64 (rd d I - 1) = X := by rw [← hv]; have := HX.1; unfold wrap64; omega
   have hw' : IntKind.i64.wrap (rd d I - 1) = X := (i64_w _).trans hw
   clear hv
   rw [hU] at ai
   go_wp2
   go_meet
   case rel => exact ⟨n0_, n1_, n2_, n3_⟩
  ·have hv : rd d I + 1 = X := by have := HXX.1; rw [hU] at this; simpa using this
   have hw : wrap64 (rd d I + 1) = X := by rw [← hv]; have := HX.1; unfold wrap64; omega
   have hw' : IntKind.i64.wrap (rd d I + 1) = X := (i64_w _).trans hw
   clear hv
   rw [hU] at ai
   go_wp2
   go_meet
   case rel => exact ⟨n0_, n1_, n2_, n3_⟩
 case rest =>
  clear ai ad ae af ag BK HF HK HW
  obtain ⟨BK, HF, HK, HW⟩ := hcut
  have HRD := Ya (show rd (d.set I.toNat X) I = X from by
   have := HL.1
   unfold rd
   rw [List.getD_eq_getElem?_getD, List.getElem?_set_self (by omega)]; rfl)
  go_upto_region 9 with fail
  go_cut [79] (fun ao wc => ∃ t : Bool, ao = .bool t ∧ Aside0 (t = decide (X = 0 ∨ X = rd b I - 1)) ∧ Aside0 (wc.heap[g]? = some (.cells CS T (0, 0))) ∧ Aside0 (FoR wc w0.heap.size g0 c0 g1 c1 g2 c2 g3 c3 b (d.set I.toNat X) u (p.set 0 0)) ∧ Aside0 (Kept w wc (Wr g1 g2 g3)) ∧ Aside0 (Below w0.heap.size w0 wc))
  case first =>
   have hw : wrap64 (rd b I - 1) = rd b I - 1 := by have := HX.1; unfold wrap64; omega
   have hw' : IntKind.i64.wrap (rd b I - 1) = rd b I - 1 := (i64_w _).trans hw
   by_cases z : X = 0
   ·have zb : (X == 0) = true := beq_iff_eq.mpr z
    have HT := Ya (Z35 (p := X = 0 ∨ X = rd b I - 1) (Or.inl z))
    clear z
    go_wp2_with fail
    replace BK := Ya (Z23 BK.1)
    replace HF := Ya (FoR.drew HF.1)
    replace HK := Ya (Kept.drew HK.1)
    replace HW := Ya (Z4 HW.1)
    refine start_ (n := 26) (S := fun w' => w'.cell? ⟨g, 0, none⟩ = some (.slice (some ⟨g0, 0, none⟩) b.length c0) ∧ w'.cell? ⟨g, 1, none⟩ = some (.slice (some ⟨g1, 0, none⟩) d.length c1) ∧ w'.cell? ⟨g1, I.toNat, none⟩ = some (.int .i64 X) ∧ w'.cell? ⟨g0, I.toNat, none⟩ = some (.int .i64 (rd b I))) (ds := []) (YA 26 0) (by kernel_rfl) rfl rfl ⟨(Z20 BK.1 0).trans aa.1, (Z20 BK.1 1).trans ab.1, ((FoR.at1 HF.1 I Q22 Q46).1.trans (by rw [HRD.1])), (FoR.at0 HF.1 I Q22 Q22).1⟩ (fun hHeld => ?_)
    generalize World.drew _ = w3 at BK HF HK HW hHeld ⊢
    refine Yq 0 (some 54) (YA 26 1) rfl ?_
    refine Yq 1 (some 55) (YA 26 3) rfl ?_
    refine Yq 2 (some 56) (YA 26 7) rfl ?_
    refine Yq 4 (some 58) (YA 26 23) rfl ?_
    refine Ys 3 (some 57) (YA 26 31) rfl hHeld Q8 ?_
    refine Yq 5 (some 59) (YA 26 63) rfl ?_
    refine Ys 6 (some 60) (YA 26 127) rfl hHeld Q8 ?_
    refine Yq 7 (some 61) (YA 26 255) rfl ?_
    refine Yq 8 (some 62) (YA 26 511) rfl ?_
    refine Yu 9 (some 63) (YA 26 1023) rfl ?_
    refine Yu 10 (some 64) (YA 26 2047) rfl ?_
    refine Yu 11 (some 65) (YA 26 4095) rfl ?_
    refine Yu 12 (some 66) (YA 26 8191) rfl ?_
    refine Yu 13 (some 67) (YA 26 16383) rfl ?_
    refine Yu 14 (some 68) (YA 26 32767) rfl ?_
    refine Yu 15 (some 69) (YA 26 65535) rfl ?_
    refine Yu 16 (some 70) (YA 26 131071) rfl ?_
    refine Yu 17 (some 71) (YA 26 262143) rfl ?_
    refine Yu 18 (some 72) (YA 26 524287) rfl ?_
    refine Yu 19 (some 73) (YA 26 1048575) rfl ?_
    refine Yu 20 (some 74) (YA 26 2097151) rfl ?_
    refine Yu 21 (some 75) (YA 26 4194303) rfl ?_
    refine Yu 22 (some 76) (YA 26 8388607) rfl ?_
    refine Yu 23 (some 77) (YA 26 16777215) rfl ?_
    refine Yu 24 (some 78) (YA 26 33554431) rfl ?_
    refine Yq 25 (some 79) (YA 26 67108863) rfl ?_
    refine done_ (by kernel_rfl) ?_
    go_step
    go_step
    go_meet
    case rel => exact ⟨true, rfl, ⟨HT.1.symm⟩, BK, HF, HK, HW⟩
   ·have zb : (X == 0) = false := beq_eq_false_iff_ne.mpr z
    have HT := Ya (show (X == rd b I - 1) = decide (X = 0 ∨ X = rd b I - 1) from by rw [Bool.eq_iff_iff]; simp [z])
    clear z
    go_wp2_with fail
    replace BK := Ya (Z23 BK.1)
    replace HF := Ya (FoR.drew HF.1)
    replace HK := Ya (Kept.drew HK.1)
    replace HW := Ya (Z4 HW.1)
    refine start_ (n := 26) (S := fun w' => w'.cell? ⟨g, 0, none⟩ = some (.slice (some ⟨g0, 0, none⟩) b.length c0) ∧ w'.cell? ⟨g, 1, none⟩ = some (.slice (some ⟨g1, 0, none⟩) d.length c1) ∧ w'.cell? ⟨g1, I.toNat, none⟩ = some (.int .i64 X) ∧ w'.cell? ⟨g0, I.toNat, none⟩ = some (.int .i64 (rd b I))) (ds := []) (YA 26 0) (by kernel_rfl) rfl rfl ⟨(Z20 BK.1 0).trans aa.1, (Z20 BK.1 1).trans ab.1, ((FoR.at1 HF.1 I Q22 Q46).1.trans (by rw [HRD.1])), (FoR.at0 HF.1 I Q22 Q22).1⟩ (fun hHeld => ?_)
    generalize World.drew _ = w3 at BK HF HK HW hHeld ⊢
    refine Yq 0 (some 54) (YA 26 1) rfl ?_
    refine Yq 1 (some 55) (YA 26 3) rfl ?_
    refine Yq 2 (some 56) (YA 26 7) rfl ?_
    refine Yq 4 (some 58) (YA 26 23) rfl ?_
    refine Ys 3 (some 57) (YA 26 31) rfl hHeld Q8 ?_
    refine Yq 5 (some 59) (YA 26 63) rfl ?_
    refine Ys 6 (some 60) (YA 26 127) rfl hHeld Q8 ?_
    refine Yq 7 (some 61) (YA 26 255) rfl ?_
    refine Yq 8 (some 62) (YA 26 511) rfl ?_
    refine Yq 9 (some 63) (YA 26 1023) rfl ?_
    refine Yq 10 (some 64) (YA 26 2047) rfl ?_
    refine Yq 11 (some 65) (YA 26 4095) rfl ?_
    refine Yq 13 (some 67) (YA 26 12287) rfl ?_
    refine Yq 16 (some 70) (YA 26 77823) rfl ?_
    refine Yq 17 (some 71) (YA 26 208895) rfl ?_
    refine Yq 18 (some 72) (YA 26 471039) rfl ?_
    refine Yq 20 (some 74) (YA 26 1519615) rfl ?_
    refine Ys 12 (some 66) (YA 26 1523711) rfl hHeld Q8 ?_
    refine Yq 14 (some 68) (YA 26 1540095) rfl ?_
    refine Ys 15 (some 69) (YA 26 1572863) rfl hHeld Q8 ?_
    refine Ys 19 (some 73) (YA 26 2097151) rfl hHeld Q8 ?_
    refine Yq 21 (some 75) (YA 26 4194303) rfl ?_
    refine Ys 22 (some 76) (YA 26 8388607) rfl hHeld Q8 ?_
    refine Yq 23 (some 77) (YA 26 16777215) rfl ?_
    refine Yq 24 (some 78) (YA 26 33554431) rfl ?_
    refine Yq 25 (some 79) (YA 26 67108863) rfl ?_
    refine done_ (by kernel_rfl) ?_
    go_step
    go_step
    go_meet
    case rel => exact ⟨_, rfl, HT, BK, HF, HK, HW⟩
  case rest =>
   clear BK HF HK HW
   obtain ⟨t, rfl, HT, BK, HF, HK, HW⟩ := hcut
   cases t
   ·have h := HH.1
    rw [if_neg (fun e => by have h_ := HT.1; rw [Z35 e] at h_; cases h_)] at h
    simp only [Option.some.injEq, Prod.mk.injEq] at h
    obtain ⟨rfl, rfl, rfl, rfl⟩ := h
    go_wp2
    go_ret
    exact ⟨rfl, BK.1.trans an.1.symm, HF.1, HK.1, HW.1⟩
   ·have h := HH.1
    rw [if_pos (Z27 HT.1.symm)] at h
    simp only [Option.some.injEq, Prod.mk.injEq] at h
    obtain ⟨rfl, rfl, rfl, rfl⟩ := h
    go_wp2_with fail
    replace BK := Ya (Z23 BK.1)
    replace HF := Ya (FoR.drew HF.1)
    replace HK := Ya (Kept.drew HK.1)
    replace HW := Ya (Z4 HW.1)
    refine start_ (n := 15) (S := fun w' => w'.cell? ⟨g, 2, none⟩ = some (.slice (some ⟨g2, 0, none⟩) u.length c2) ∧ w'.cell? ⟨g2, I.toNat, none⟩ = some (.bool (rdOf false u I))) (ds := [14]) (YA 15 0) (by kernel_rfl) rfl rfl ⟨(Z20 BK.1 2).trans ah.1, (FoR.at2 HF.1 I Q22 Q22).1⟩ (fun hHeld => ?_)
    generalize World.drew _ = w4 at BK HF HK HW hHeld ⊢
    have hxs := (FoR.at2 HF.1 I Q22 Q22).1
    have hzs := (FoR.at2 HF.1 I Q22 Q22).2
    refine Yq 0 (some 80) (YA 15 1) rfl ?_
    refine Yq 1 (some 81) (YA 15 3) rfl ?_
    refine Yq 2 (some 82) (YA 15 7) rfl ?_
    refine Yq 4 (some 84) (YA 15 23) rfl ?_
    refine Yq 5 (some 85) (YA 15 55) rfl ?_
    refine Yq 6 (some 86) (YA 15 119) rfl ?_
    refine Yq 7 (some 87) (YA 15 247) rfl ?_
    refine Yq 9 (some 89) (YA 15 759) rfl ?_
    refine Ys 3 (some 83) (YA 15 767) rfl hHeld Q26 ?_
    refine Ys 8 (some 88) (YA 15 1023) rfl hHeld Q26 ?_
    refine Yq 10 (some 90) (YA 15 2047) rfl ?_
    refine Ys 11 (some 91) (YA 15 4095) rfl hHeld Q26 ?_
    refine Yq 12 (some 92) (YA 15 8191) rfl ?_
    refine Yq 13 (some 93) (YA 15 16383) rfl ?_
    refine last_ (i := 14) (N := none) (YA 15 32767) rfl rfl (by kernel_rfl) (by decide) (fun K hK => ?_)
    refine YNc ?_
    refine hK.out _ _ ?_
    clear hK K
    refine done_ (by kernel_rfl) ?_
    clear hxs hzs
    replace BK := Ya (show (World.setCell w4 ⟨g2, I.toNat, none⟩ (.bool (!rdOf false u I))).heap[g]? = _ from blk_far (p := ⟨g2, I.toNat, none⟩) BK.1 hne.2.2.1 (.bool (!rdOf false u I)))
    replace HK := Ya (Kept.setCell HK.1 (p := ⟨g2, I.toNat, none⟩) (.inl (.inr (.inl rfl))) (.bool (!rdOf false u I)))
    replace HW := Ya (show Below w0.heap.size w0 (World.setCell w4 ⟨g2, I.toNat, none⟩ (.bool (!rdOf false u I))) from Z6 HW.1 (FoR.ge HF.1).2.2.1)
    replace HF := Ya (show FoR (World.setCell w4 ⟨g2, I.toNat, none⟩ (.bool (!rdOf false u I))) w0.heap.size g0 c0 g1 c1 g2 c2 g3 c3 b (d.set I.toNat X) (u.set I.toNat (!rdOf false u I)) (p.set 0 0) from FoR.put2 HF.1 I _)
    generalize World.setCell w4 ⟨g2, I.toNat, none⟩ (.bool (!rdOf false u I)) = w5 at BK HF HK HW ⊢
    go_wp2_with fail
    replace BK := Ya (Z23 BK.1)
    replace HF := Ya (FoR.drew HF.1)
    replace HK := Ya (Kept.drew HK.1)
    replace HW := Ya (Z4 HW.1)
    refine start_ (n := 15) (S := fun w' => w'.cell? ⟨g, 3, none⟩ = some (.slice (some ⟨g3, 0, none⟩) p.length c3) ∧ w'.cell? ⟨g3, (J + 1).toNat, none⟩ = some (.int .i64 (rd (p.set 0 0) (J + 1)))) (ds := [14]) (YA 15 0) (by kernel_rfl) rfl rfl ⟨(Z20 BK.1 3).trans ac.1, (FoR.at3 HF.1 (J + 1) Q22 Q46).1⟩ (fun hHeld => ?_)
    generalize World.drew _ = w6 at BK HF HK HW hHeld ⊢
    have hxs := (FoR.at3 HF.1 J Q22 Q46).1
    have hzs := (FoR.at3 HF.1 J Q22 Q46).2
    refine Yq 0 (some 94) (YA 15 1) rfl ?_
    refine Yq 1 (some 95) (YA 15 3) rfl ?_
    refine Yq 2 (some 96) (YA 15 7) rfl ?_
    refine Yq 4 (some 98) (YA 15 23) rfl ?_
    refine Yq 5 (some 99) (YA 15 55) rfl ?_
    refine Yq 6 (some 100) (YA 15 119) rfl ?_
    refine Yq 7 (some 101) (YA 15 247) rfl ?_
    refine Yq 9 (some 103) (YA 15 759) rfl ?_
    refine Yq 10 (some 104) (YA 15 1783) rfl ?_
    refine Ys 3 (some 97) (YA 15 1791) rfl hHeld Q26 ?_
    refine Ys 8 (some 102) (YA 15 2047) rfl hHeld Q26 ?_
    refine Yq 11 (some 105) (YA 15 4095) rfl ?_
    refine Ys 12 (some 106) (YA 15 8191) rfl hHeld Q26 ?_
    refine Yq 13 (some 107) (YA 15 16383) rfl ?_
    refine last_ (i := 14) (N := none) (YA 15 32767) rfl rfl (by kernel_rfl) (by decide) (fun K hK => ?_)
    refine YNc ?_
    refine hK.out _ _ ?_
    clear hK K
    refine done_ (by kernel_rfl) ?_
    clear hxs hzs
    replace BK := Ya (show (World.setCell w6 ⟨g3, J.toNat, none⟩ (.int .i64 (rd (p.set 0 0) (J + 1)))).heap[g]? = _ from blk_far (p := ⟨g3, J.toNat, none⟩) BK.1 hne.2.2.2 (.int .i64 (rd (p.set 0 0) (J + 1))))
    replace HK := Ya (Kept.setCell HK.1 (p := ⟨g3, J.toNat, none⟩) (.inl (.inr (.inr rfl))) (.int .i64 (rd (p.set 0 0) (J + 1))))
    replace HW := Ya (show Below w0.heap.size w0 (World.setCell w6 ⟨g3, J.toNat, none⟩ (.int .i64 (rd (p.set 0 0) (J + 1)))) from Z6 HW.1 (FoR.ge HF.1).2.2.2)
    replace HF := Ya (show FoR (World.setCell w6 ⟨g3, J.toNat, none⟩ (.int .i64 (rd (p.set 0 0) (J + 1)))) w0.heap.size g0 c0 g1 c1 g2 c2 g3 c3 b (d.set I.toNat X) (u.set I.toNat (!rdOf false u I)) ((p.set 0 0).set J.toNat (rd (p.set 0 0) (J + 1))) from FoR.put3 HF.1 J _)
    generalize World.setCell w6 ⟨g3, J.toNat, none⟩ (.int .i64 (rd (p.set 0 0) (J + 1))) = w7 at BK HF HK HW ⊢
    have ad := (Z20 BK.1 0).trans aa.1
    have ae := (Z20 BK.1 1).trans ab.1
    have af := (Z20 BK.1 2).trans ah.1
    have ag := (Z20 BK.1 3).trans ac.1
    have hxs := (FoR.at3 HF.1 (J + 1) Q22 Q56).1
    have hzs := (FoR.at3 HF.1 (J + 1) Q22 Q56).2
    go_upto_region 13 with fail
    clear ad ae af ag
    clear hxs hzs
    replace BK := Ya (show (World.setCell w7 ⟨g3, (J + 1).toNat, none⟩ (.int .i64 (J + 1))).heap[g]? = _ from blk_far (p := ⟨g3, (J + 1).toNat, none⟩) BK.1 hne.2.2.2 (.int .i64 (J + 1)))
    replace HK := Ya (Kept.setCell HK.1 (p := ⟨g3, (J + 1).toNat, none⟩) (.inl (.inr (.inr rfl))) (.int .i64 (J + 1)))
    replace HW := Ya (show Below w0.heap.size w0 (World.setCell w7 ⟨g3, (J + 1).toNat, none⟩ (.int .i64 (J + 1))) from Z6 HW.1 (FoR.ge HF.1).2.2.2)
    replace HF := Ya (show FoR (World.setCell w7 ⟨g3, (J + 1).toNat, none⟩ (.int .i64 (J + 1))) w0.heap.size g0 c0 g1 c1 g2 c2 g3 c3 b (d.set I.toNat X) (u.set I.toNat (!rdOf false u I)) (((p.set 0 0).set J.toNat (rd (p.set 0 0) (J + 1))).set (J + 1).toNat (J + 1)) from FoR.put3 HF.1 (J + 1) _)
    generalize World.setCell w7 ⟨g3, (J + 1).toNat, none⟩ (.int .i64 (J + 1)) = w8 at BK HF HK HW ⊢
    go_wp2
    go_ret
    exact ⟨rfl, BK.1.trans an.1.symm, HF.1, HK.1, HW.1⟩
open Go.Proofs.YtapbbmicfkbafaaGreat.FoW in
theorem impl_Focus_step.calls (w0 : World) (g g0 c0 g1 c1 g2 c2 g3 c3 : Nat) (b d : List Int) (u : List Bool) (p d' : List Int) (u' : List Bool) (p' : List Int) (r : Int) (w : World)
  (hb : w.heap[g]? = some (.cells #[.slice (some ⟨g0, 0, none⟩) b.length c0, .slice (some ⟨g1, 0, none⟩) d.length c1, .slice (some ⟨g2, 0, none⟩) u.length c2, .slice (some ⟨g3, 0, none⟩) p.length c3] 27 (0, 0))) (hF : FoR w w0.heap.size g0 c0 g1 c1 g2 c2 g3 c3 b d u p) (hW : Below w0.heap.size w0 w) (h : stepF b d u p = some (d', u', p', r)) :
  Calls Tryz.prog 51 #[.pointer (some ⟨g, 0, none⟩)] w fun e w' => e = .returned (.int .i64 r) ∧ w'.heap[g]? = w.heap[g]? ∧ FoR w' w0.heap.size g0 c0 g1 c1 g2 c2 g3 c3 b d' u' p' ∧ Kept w w' (Wr g1 g2 g3) ∧ Below w0.heap.size w0 w' :=
 impl_Focus_step.callsG _ _ (by decide) w0 g g0 c0 g1 c1 g2 c2 g3 c3 b d u p d' u' p' r w rfl rfl rfl rfl hb hF hW h
theorem impl_Focus_step.callsEnd (CS : Array Value) (T : TypeId) (g g3 n c0 lp c3 : Nat) (A0 : Option Addr) (w : World)
  (aa : CS[0]? = some (.slice A0 n c0)) (ab : CS[3]? = some (.slice (some ⟨g3, 0, none⟩) lp c3)) (hl : 0 < lp) (hm : n ≤ 1000)
  (hb : w.heap[g]? = some (.cells CS T (0, 0))) (hp : w.cell? ⟨g3, 0, none⟩ = some (.int .i64 (n : Int))) :
  Calls Tryz.prog 51 #[.pointer (some ⟨g, 0, none⟩)] w fun e w' => e = .returned (.int .i64 (-1)) ∧ Below w.heap.size w w' := by
 have BK := Ya hb
 have HP := Ya hp
 have HW := Ya (Below.refl w.heap.size w)
 have ac : (0 < lp) = True := eq_true hl
 have ad : ((0 : Int) < (lp : Int)) = True := eq_true (by omega)
 clear hb hp
 go_enter Tryz.func51, Tryz.ntmps51
 go_wp2_with fail
 replace BK := Ya (Z23 BK.1)
 replace HP := Ya (show w.drew.cell? ⟨g3, 0, none⟩ = some (.int .i64 (n : Int)) from HP.1)
 replace HW := Ya (Z4 HW.1)
 refine start_ (n := 13) (S := fun w' => w'.cell? ⟨g, 0, none⟩ = some (.slice A0 n c0) ∧ w'.cell? ⟨g, 3, none⟩ = some (.slice (some ⟨g3, 0, none⟩) lp c3) ∧ w'.cell? ⟨g3, 0, none⟩ = some (.int .i64 (n : Int))) (ds := []) (YA 13 0) (by kernel_rfl) rfl rfl ⟨(Z20 BK.1 0).trans aa, (Z20 BK.1 3).trans ab, HP.1⟩ (fun hHeld => ?_)
 generalize World.drew _ = w1 at BK HP HW hHeld ⊢
 refine Yq 0 (some 6) (YA 13 1) rfl ?_
 refine Yq 1 (some 7) (YA 13 3) rfl ?_
 refine Yq 2 (some 8) (YA 13 7) rfl ?_
 refine Yq 5 (some 11) (YA 13 39) rfl ?_
 refine Yq 6 (some 12) (YA 13 103) rfl ?_
 refine Yq 7 (some 13) (YA 13 231) rfl ?_
 refine Ys 3 (some 9) (YA 13 239) rfl hHeld Q21 ?_
 refine Yq 4 (some 10) (YA 13 255) rfl ?_
 refine Yq 11 (some 3) (YA 13 2303) rfl ?_
 refine Ys 8 (some 14) (YA 13 2559) rfl hHeld Q21 ?_
 refine Yq 9 (some 15) (YA 13 3071) rfl ?_
 refine Ys 10 (some 16) (YA 13 4095) rfl hHeld Q21 ?_
 refine Yq 12 (some 4) (YA 13 8191) rfl ?_
 refine done_ (by kernel_rfl) ?_
 go_wp2
 go_ret
 exact ⟨rfl, HW.1⟩
end Go.Proofs.YtapbbmicfkbafaaGreat.MFnSwappers
