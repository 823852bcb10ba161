import Derived.Test.YtapbbmicfkbafaaGreatMFnSwappersx0
import Derived.Test.YtapbbmicfkbafaaGreatMFnSwappersx1
namespace Go.Proofs.YtapbbmicfkbafaaGreat.MFnSwappers
open Go.RowKit Go.Proofs.YtapbbmicfkbafaaGreatW.PrintWords Go.Proofs.YtapbbmicfkbafaaGreatW.PrintLast Go.Proofs.YtapbbmicfkbafaaGreatW.PrintMore
attribute [local go_sem] max2_int min2_int max_two min_two max_three min_three max_four min_four   
set_option linter.unusedVariables false
set_option maxHeartbeats 16000000
set_option maxRecDepth 100000
set_option linter.unusedSimpArgs false
def spec_foStart.f (k : Nat) (l : List Int) : Option (List Int × List Int × List Bool × List Int) := if l.length ≤ 1000000 then ((spec_l1Own.f l).bind fun b => (spec_raUpTo.f k (wrap64 ((l.length : Int) + 1))).bind fun p => some (b, List.replicate (l.length : Int).toNat 0, List.replicate l.length true, p)) else none
open Go.Proofs.YtapbbmicfkbafaaGreat.FoW
theorem LY4 {W : World} {g t : Nat} {v0 v1 v2 v3 : Value} (h : W.heap[g]? = some (.cells #[v0, v1, v2, v3] t (0, 0))) : (W.cell? ⟨g, 0, none⟩ = some v0 ∧ W.cell? ⟨g, 1, none⟩ = some v1 ∧ W.cell? ⟨g, 2, none⟩ = some v2 ∧ W.cell? ⟨g, 3, none⟩ = some v3) ∧ W.frozen? ⟨g, 0, none⟩ = false ∧ W.frozen? ⟨g, 1, none⟩ = false ∧ W.frozen? ⟨g, 2, none⟩ = false ∧ W.frozen? ⟨g, 3, none⟩ = false := ⟨⟨(Z20 h 0).trans rfl, (Z20 h 1).trans rfl, (Z20 h 2).trans rfl, (Z20 h 3).trans rfl⟩, Z21 h 0, Z21 h 1, Z21 h 2, Z21 h 3⟩
structure FOp (w W : World) (gb : Nat) (c0 c1 c2 c3 : Prop) (v0 v1 v2 : Value) (g : Nat) (l0 l1 l2 : List Int) : Prop where mk ::
 m : Below w.heap.size w W
 n : W.heap[gb]? = some (.cells YN4 27 (0, 0))
 q : w.heap.size ≤ gb
 r0 : c0 → (Kd.int .i64).R 3 W w.heap.size (fun _ => True) v0 l0
 r1 : c1 → (Kd.int .i64).R 3 W w.heap.size (fun _ => True) v1 l1
 r2 : c2 → (Kd.int .i64).R 3 W w.heap.size (fun _ => True) v2 l2
 g4 : c3 → W.heap[g]? = some (.cells YN4 27 (0, 0)) ∧ w.heap.size ≤ g ∧ gb ≠ g
 d01 : c0 → c1 → ∀ k, v0.ownBlock = some k → v1.ownBlock ≠ some k
 d02 : c0 → c2 → ∀ k, v0.ownBlock = some k → v2.ownBlock ≠ some k
 d12 : c1 → c2 → ∀ k, v1.ownBlock = some k → v2.ownBlock ≠ some k
structure FOq (w W : World) (gb g : Nat) (v0 v1 v2 v3 : Value) (b d : List Int) (u : List Bool) (p : List Int) : Prop where mk ::
 m : Below w.heap.size w W
 n : W.heap[gb]? = some (.cells YN4 27 (0, 0))
 n2 : W.heap[g]? = some (.cells #[v0, v1, v2, v3] 27 (0, 0))
 q : w.heap.size ≤ gb
 q2 : w.heap.size ≤ g
 nn : gb ≠ g
 v : FoV W w.heap.size v0 v1 v2 v3 b d u p
section
variable {w W w1 : World} {gb g g' : Nat} {c0 c1 c2 c3 : Prop} {v0 v1 v2 v3 x : Value} {l0 l1 l2 b d p : List Int} {u u' : List Bool} {ok : Nat → Prop}
theorem FOp.below (h : FOp w W gb c0 c1 c2 c3 v0 v1 v2 g l0 l1 l2) (hb : Below W.heap.size W w1) : FOp w w1 gb c0 c1 c2 c3 v0 v1 v2 g l0 l1 l2 :=
 ⟨Z8 h.m hb, Z25 h.n hb, h.q, fun c => Z13 (h.r0 c) hb, fun c => Z13 (h.r1 c) hb, fun c => Z13 (h.r2 c) hb, fun c => ⟨Z25 (h.g4 c).1 hb, (h.g4 c).2⟩, h.d01, h.d02, h.d12⟩
theorem FOp.drew (h : FOp w W gb c0 c1 c2 c3 v0 v1 v2 g l0 l1 l2) : FOp w W.drew gb c0 c1 c2 c3 v0 v1 v2 g l0 l1 l2 := h.below (Z4 (Below.refl _ _))
theorem FOp.drewN (h : FOp w W gb c0 c1 c2 c3 v0 v1 v2 g l0 l1 l2) (n : Nat) : FOp w (W.drewN n) gb c0 c1 c2 c3 v0 v1 v2 g l0 l1 l2 := h.below (Z3 (Below.refl _ _) n)
theorem FOp.add0 (h : FOp w W gb False c1 c2 c3 v0 v1 v2 g l0 l1 l2) (ho : (Kd.int .i64).R 3 w1 W.heap.size ok x l0) (hb : Below W.heap.size W w1) : FOp w w1 gb True c1 c2 c3 x v1 v2 g l0 l1 l2 :=
 have z := h.below hb
 have m : ∀ k, x.ownBlock = some k → W.heap.size ≤ k := fun k hk => Kd.R_base ho k hk
 ⟨z.m, z.n, z.q, fun _ => Z12 (Kd.R_lower ho (Z7 h.m)) (fun _ _ => trivial), z.r1, z.r2, z.g4, fun _ c k e e' => Nat.not_lt.2 (m k e) (Z14 (h.r1 c) k e'), fun _ c k e e' => Nat.not_lt.2 (m k e) (Z14 (h.r2 c) k e'), z.d12⟩
theorem FOp.add1 (h : FOp w W gb c0 False c2 c3 v0 v1 v2 g l0 l1 l2) (ho : (Kd.int .i64).R 3 w1 W.heap.size ok x l1) (hb : Below W.heap.size W w1) : FOp w w1 gb c0 True c2 c3 v0 x v2 g l0 l1 l2 :=
 have z := h.below hb
 have m : ∀ k, x.ownBlock = some k → W.heap.size ≤ k := fun k hk => Kd.R_base ho k hk
 ⟨z.m, z.n, z.q, z.r0, fun _ => Z12 (Kd.R_lower ho (Z7 h.m)) (fun _ _ => trivial), z.r2, z.g4, fun c _ k e e' => Nat.not_lt.2 (m k e') (Z14 (h.r0 c) k e), z.d02, fun _ c k e e' => Nat.not_lt.2 (m k e) (Z14 (h.r2 c) k e')⟩
theorem FOp.add2 (h : FOp w W gb c0 c1 False c3 v0 v1 v2 g l0 l1 l2) (ho : (Kd.int .i64).R 3 w1 W.heap.size ok x l2) (hb : Below W.heap.size W w1) : FOp w w1 gb c0 c1 True c3 v0 v1 x g l0 l1 l2 :=
 have z := h.below hb
 have m : ∀ k, x.ownBlock = some k → W.heap.size ≤ k := fun k hk => Kd.R_base ho k hk
 ⟨z.m, z.n, z.q, z.r0, z.r1, fun _ => Z12 (Kd.R_lower ho (Z7 h.m)) (fun _ _ => trivial), z.g4, z.d01, fun c _ k e e' => Nat.not_lt.2 (m k e') (Z14 (h.r0 c) k e), fun c _ k e e' => Nat.not_lt.2 (m k e') (Z14 (h.r1 c) k e)⟩
theorem FOp.add3 (h : FOp w W gb c0 c1 c2 False v0 v1 v2 g l0 l1 l2) (hg : g' = W.heap.size) (ho : w1.heap[g']? = some (.cells YN4 27 (0, 0))) (hb : Below W.heap.size W w1) : FOp w w1 gb c0 c1 c2 True v0 v1 v2 g' l0 l1 l2 :=
 have z := h.below hb
 ⟨z.m, z.n, z.q, z.r0, z.r1, z.r2, fun _ => ⟨ho, by rw [hg]; exact Z7 h.m, by rw [hg]; exact Nat.ne_of_lt (blk_lt h.n)⟩, z.d01, z.d02, z.d12⟩
theorem FOp.full (h : FOp w W gb True True True True v0 v1 v2 g l0 l1 l2) : FOq w (set4 W g v0 v1 (.slice none 0 0) v2) gb g v0 v1 (.slice none 0 0) v2 l0 l1 [] l2 :=
 have hg := h.g4 trivial
 have v : FoV W w.heap.size v0 v1 (.slice none 0 0) v2 l0 l1 [] l2 := ⟨Kd.R_reok rfl (h.r0 trivial) (fun k hk => ⟨fun e => h.d01 trivial trivial k hk e.symm, fun e => h.d02 trivial trivial k hk e.symm⟩), Kd.R_reok rfl (h.r1 trivial) (fun k hk => ⟨fun e => h.d01 trivial trivial k e.symm hk, fun e => h.d12 trivial trivial k hk e.symm⟩), Kd.R_nil _ _ _ _ _, Kd.R_reok rfl (h.r2 trivial) (fun k hk => ⟨fun e => h.d02 trivial trivial k e.symm hk, fun e => h.d12 trivial trivial k e.symm hk⟩)⟩
 ⟨set4_below h.m hg.2.1 _ _ _ _, (set4_far _ g _ _ _ _ gb hg.2.2).trans h.n, set4_at hg.1 _ _ _ _, h.q, hg.2.1, hg.2.2, FoV.set4 v hg.1 (by decide) (by decide) _ _ _ _⟩
theorem FOq.app (h : FOq w W gb g v0 v1 v2 v3 b d u p) (ho : Kd.bool.R 4 w1 w.heap.size ok x u') (hb : Below w.heap.size W w1) (hg : W.grownBy w1 v2.ownBlock) :
  w1.heap[g]? = some (.cells #[v0, v1, v2, v3] 27 (0, 0)) ∧ FOq w (w1.setCell ⟨g, 2, none⟩ x) gb g v0 v1 x v3 b d u' p := by
 have n1 := blk_grown h.n hg (Kd.R_ne h.v.r2 h.n (by decide))
 have n2 := blk_grown h.n2 hg (Kd.R_ne h.v.r2 h.n2 (by decide))
 have v : FoV w1 w.heap.size v0 v1 x v3 b d u' p := ⟨Kd.R_over' h.v.r0 (Kd.R_typed h.v.r2) (by decide) hg, Kd.R_over' h.v.r1 (Kd.R_typed h.v.r2) (by decide) hg, Z12 ho (fun _ _ => trivial), Kd.R_over' h.v.r3 (Kd.R_typed h.v.r2) (by decide) hg⟩
 exact ⟨n2, Z6 (Below.trans h.m hb) h.q2, blk_far n1 h.nn x, Z26 n2 2 x rfl, h.q, h.q2, h.nn, v.map (fun k hk => Below.heap_setCell _ _ _ _ (v.apart n2 (by decide) (by decide) k hk))⟩
theorem FOq.fin (h : FOq w W gb g v0 v1 v2 v3 b d u p) (x0 x1 x2 x3 : Value) : FoV (set4 W gb x0 x1 x2 x3) w.heap.size v0 v1 v2 v3 b d u p ∧ Below w.heap.size w (set4 W gb x0 x1 x2 x3) :=
 ⟨FoV.set4 h.v h.n (by decide) (by decide) x0 x1 x2 x3, set4_below h.m h.q _ _ _ _⟩
end
open Go.Proofs.YtapbbmicfkbafaaGreat.FoW in
theorem spec_foStart.calls (k : Nat) (A0 : Option Addr) (c0 : Nat) (l0 : List Int) (r1 : List Int) (r2 : List Int) (r3 : List Bool) (r4 : List Int) (w : World) (ab : Kd.C (Kd.int .i64) w A0 l0.length l0) (ac : l0.length ≤ c0) (h : spec_foStart.f k l0 = some (r1, r2, r3, r4)) :
  Calls Tryz.prog 74 #[.slice A0 l0.length c0] w fun e w' => ∃ v0_ v1_ v2_ v3_ : Value, e = .returned (.agg #[v0_, v1_, v2_, v3_]) ∧ Kd.R (Kd.int .i64) 3 w' w.heap.size (fun k_ => some k_ ≠ (v1_ : Value).ownBlock ∧ some k_ ≠ (v3_ : Value).ownBlock) v0_ r1 ∧ Kd.R (Kd.int .i64) 3 w' w.heap.size (fun k_ => some k_ ≠ (v0_ : Value).ownBlock ∧ some k_ ≠ (v3_ : Value).ownBlock) v1_ r2 ∧ Kd.R Kd.bool 4 w' w.heap.size (fun _ => True) v2_ r3 ∧ Kd.R (Kd.int .i64) 3 w' w.heap.size (fun k_ => some k_ ≠ (v0_ : Value).ownBlock ∧ some k_ ≠ (v1_ : Value).ownBlock) v3_ r4 ∧ Below w.heap.size w w' := by
 have hu := Tryz.underlying27
 unfold spec_foStart.f at h
 by_cases hl : l0.length ≤ 1000000
 rotate_left
 ·rw [if_neg hl] at h; cases h
 rw [if_pos hl] at h
 obtain ⟨b, h1, h⟩ := Z33.mp h
 obtain ⟨p, h2, h⟩ := Z33.mp h
 simp only [Option.some.injEq, Prod.mk.injEq] at h
 obtain ⟨rfl, rfl, rfl, rfl⟩ := h
 have A1 := Ya h1
 have A2 := Ya h2
 have HR0 := Ya ab
 have aa := Ya ac
 have b1 : (0 ≤ (l0.length : Int)) = True := eq_true (by omega)
 have b2 : decide (0 ≤ (l0.length : Int)) = true := Z35 (by omega)
 have b3 : ((l0.length : Int).toNat ≤ 35184372088832) = True := eq_true (by omega)
 have b4 : decide ((l0.length : Int).toNat ≤ 35184372088832) = true := Z35 (by omega)
 clear h1 h2 ab ac
 obtain ⟨z, hz⟩ : ∃ z : List Int, z = List.replicate (l0.length : Int).toNat 0 := ⟨_, rfl⟩
 rw [← hz]
 have Nz := Ya hz
 clear hz
 go_enter Tryz.func74, Tryz.ntmps74
 go_upto_region 1 with (first | ((with_reducible refine gate_dst (N := 2) rfl ?_); refine Yx 2 YN4 27 ?_; intro gb hg w2 hbox hb; have HS := Ya (FOp.mk (c0 := False) (c1 := False) (c2 := False) (c3 := False) (v0 := .bool true) (v1 := .bool true) (v2 := .bool true) (g := 0) (l0 := b) (l1 := z) (l2 := p) hb hbox (by rw [hg]; exact Nat.le_refl _) (fun c => c.elim) (fun c => c.elim) (fun c => c.elim) (fun c => c.elim) (fun c => c.elim) (fun c => c.elim) (fun c => c.elim)); clear hb hbox hg))
 obtain ⟨v0, v1, v2, g, HS⟩ : ∃ v0 v1 v2 g, Aside0 (FOp w _ gb False False False False v0 v1 v2 g b z p) := ⟨_, _, _, _, ⟨FOp.drew HS.1⟩⟩
 refine start_ (n := 12) (S := fun w' => True) (ds := [11]) (YA 12 0) (by kernel_rfl) rfl rfl trivial (fun hHeld => ?_)
 generalize World.drew _ = w4 at HS hHeld ⊢
 refine Yq 0 (some 4) (YA 12 1) rfl ?_
 refine Yq 2 (some 6) (YA 12 5) rfl ?_
 refine Yq 3 (some 7) (YA 12 13) rfl ?_
 refine Yq 5 (some 9) (YA 12 45) rfl ?_
 refine Yq 6 (some 10) (YA 12 109) rfl ?_
 refine Yq 7 (some 11) (YA 12 237) rfl ?_
 refine join_ (σ := Value × Value × Value × Nat) 1 (YA 12 2047) (fun s_ => [(5, s_.1), (8, s_.2.1), (12, s_.2.2.1), (3, .pointer (some ⟨s_.2.2.2, 0, none⟩)), (13, .agg #[s_.1, s_.2.1, .slice none 0 0, s_.2.2.1])]) (fun s_ w' => FOp w w' gb True True True True s_.1 s_.2.1 s_.2.2.1 s_.2.2.2 b z p) ?_ ?_
 rotate_left
 ·intro hJ1_4_8_10
  refine join_ (σ := Value × Value × Value × Nat) 2 (YA 12 1023) (fun s_ => [(5, s_.1), (8, s_.2.1), (12, s_.2.2.1), (13, .agg #[s_.1, s_.2.1, .slice none 0 0, s_.2.2.1])]) (fun s_ w' => FOp w w' gb True True True False s_.1 s_.2.1 s_.2.2.1 s_.2.2.2 b z p) ?_ ?_
  rotate_left
  ·intro hJ1_4_8
   refine join_ (σ := Value × Value × Value × Nat) 3 (YA 12 1279) (fun s_ => [(5, s_.1), (8, s_.2.1), (3, .pointer (some ⟨s_.2.2.2, 0, none⟩))]) (fun s_ w' => FOp w w' gb True True False True s_.1 s_.2.1 s_.2.2.1 s_.2.2.2 b z p) ?_ ?_
   rotate_left
   ·intro hJ1_4_10
    refine join_ (σ := Value × Value × Value × Nat) 3 (YA 12 1519) (fun s_ => [(5, s_.1), (12, s_.2.2.1), (3, .pointer (some ⟨s_.2.2.2, 0, none⟩))]) (fun s_ w' => FOp w w' gb True False True True s_.1 s_.2.1 s_.2.2.1 s_.2.2.2 b z p) ?_ ?_
    rotate_left
    ·intro hJ1_8_10
     refine join_ (σ := Value × Value × Value × Nat) 4 (YA 12 255) (fun s_ => [(5, s_.1), (8, s_.2.1)]) (fun s_ w' => FOp w w' gb True True False False s_.1 s_.2.1 s_.2.2.1 s_.2.2.2 b z p) ?_ ?_
     rotate_left
     ·intro hJ1_4
      refine join_ (σ := Value × Value × Value × Nat) 4 (YA 12 495) (fun s_ => [(5, s_.1), (12, s_.2.2.1)]) (fun s_ w' => FOp w w' gb True False True False s_.1 s_.2.1 s_.2.2.1 s_.2.2.2 b z p) ?_ ?_
      rotate_left
      ·intro hJ1_8
       refine join_ (σ := Value × Value × Value × Nat) 4 (YA 12 1263) (fun s_ => [(5, s_.1), (3, .pointer (some ⟨s_.2.2.2, 0, none⟩))]) (fun s_ w' => FOp w w' gb True False False True s_.1 s_.2.1 s_.2.2.1 s_.2.2.2 b z p) ?_ ?_
       rotate_left
       ·intro hJ1_10
        refine join_ (σ := Value × Value × Value × Nat) 4 (YA 12 1277) (fun s_ => [(8, s_.2.1), (3, .pointer (some ⟨s_.2.2.2, 0, none⟩))]) (fun s_ w' => FOp w w' gb False True False True s_.1 s_.2.1 s_.2.2.1 s_.2.2.2 b z p) ?_ ?_
        rotate_left
        ·intro hJ4_10
         refine join_ (σ := Value × Value × Value × Nat) 5 (YA 12 239) (fun s_ => [(5, s_.1)]) (fun s_ w' => FOp w w' gb True False False False s_.1 s_.2.1 s_.2.2.1 s_.2.2.2 b z p) ?_ ?_
         rotate_left
         ·intro hJ1
          refine join_ (σ := Value × Value × Value × Nat) 5 (YA 12 253) (fun s_ => [(8, s_.2.1)]) (fun s_ w' => FOp w w' gb False True False False s_.1 s_.2.1 s_.2.2.1 s_.2.2.2 b z p) ?_ ?_
          rotate_left
          ·intro hJ4
           refine join_ (σ := Value × Value × Value × Nat) 5 (YA 12 1261) (fun s_ => [(3, .pointer (some ⟨s_.2.2.2, 0, none⟩))]) (fun s_ w' => FOp w w' gb False False False True s_.1 s_.2.1 s_.2.2.1 s_.2.2.2 b z p) ?_ ?_
           rotate_left
           ·intro hJ10
            refine three_ (i := 1) (j := 4) (k := 10) (Ni := some 5) (Nj := some 8) (Nk := some 3) (YA 12 239) (YA 12 253) (YA 12 1261) rfl rfl rfl rfl rfl rfl (by kernel_rfl) (by decide) (by decide) (by decide) (fun K hK => ?_) (fun K hK => ?_) (fun K hK => ?_)
            ·skip
             refine goes_ Tryz.func85 (by kernel_rfl) rfl #[.slice A0 l0.length c0] (by rfl) rfl rfl Q29 ?_
             with_reducible refine (spec_l1Own.calls _ _ l0 b _ (Z19 HR0.1 (FOp.m Q10)) aa.1 A1.1).mono ?_
             rintro e w3 ⟨v0, rfl, ho, hb⟩
             refine ⟨_, rfl, ?_⟩
             replace HS := Ya (FOp.add0 Q10 ho hb)
             clear ho hb
             refine hK.out _ _ trivial (fun hHeld => ?_)
             clear hK K
             refine YNa 5 ?_
             exact norm_ Q9 (hJ1 (v0, v1, v2, g) _ HS.1)
            ·skip
             refine Kd.R_make_step (Kd.int .i64) _ 3 (by rfl) (N := 8) rfl 24 _ _ rfl (l0.length : Int) rfl rfl Tryz.underlying24 (.int .i64 0) 8 info3 rfl (by decide) (by omega) 0 (ok := fun _ => True) (okp := fun _ => True) rfl (fun _ hk => hk) trivial (by omega) (by omega) (Below.refl _ _) (Nat.le_refl _) ?_
             intro v1 w3 ho hb hg_ hnew_
             clear hg_ hnew_
             rw [← Nz.1] at ho
             replace HS := Ya (FOp.add1 Q10 ho hb)
             clear ho hb
             refine hK.out _ _ trivial (fun hHeld => ?_)
             clear hK K
             refine YNa 8 ?_
             exact norm_ Q9 (hJ4 (v0, v1, v2, g) _ HS.1)
            ·skip
             refine Yy 3 YN4 27 ?_
             intro g hg w3 hbox hb
             replace HS := Ya (FOp.add3 Q10 hg hbox hb)
             clear hg hbox hb
             refine hK.out _ _ trivial (fun hHeld => ?_)
             clear hK K
             refine YNa 3 ?_
             exact norm_ Q9 (hJ10 (v0, v1, v2, g) _ HS.1)
           ·skip
            rintro ⟨v0, v1, v2, g⟩ wn_ hs_
            dsimp only at hs_
            (try clear HS)
            have HS := Ya hs_
            clear hs_
            have hHeld := trivial
            refine YNb ?_
            refine two_ (i := 1) (j := 4) (Ni := some 5) (Nj := some 8) (YA 12 1263) (YA 12 1277) rfl rfl rfl rfl (by kernel_rfl) (by decide) (by decide) (fun K hK => ?_) (fun K hK => ?_)
            ·skip
             refine goes_ Tryz.func85 (by kernel_rfl) rfl #[.slice A0 l0.length c0] (by rfl) rfl rfl Q29 ?_
             with_reducible refine (spec_l1Own.calls _ _ l0 b _ (Z19 HR0.1 (FOp.m Q10)) aa.1 A1.1).mono ?_
             rintro e w3 ⟨v0, rfl, ho, hb⟩
             refine ⟨_, rfl, ?_⟩
             replace HS := Ya (FOp.add0 Q10 ho hb)
             clear ho hb
             refine hK.out _ _ trivial (fun hHeld => ?_)
             clear hK K
             refine YNa 5 ?_
             exact norm_ Q9 (hJ1_10 (v0, v1, v2, g) _ HS.1)
            ·skip
             refine Kd.R_make_step (Kd.int .i64) _ 3 (by rfl) (N := 8) rfl 24 _ _ rfl (l0.length : Int) rfl rfl Tryz.underlying24 (.int .i64 0) 8 info3 rfl (by decide) (by omega) 0 (ok := fun _ => True) (okp := fun _ => True) rfl (fun _ hk => hk) trivial (by omega) (by omega) (Below.refl _ _) (Nat.le_refl _) ?_
             intro v1 w3 ho hb hg_ hnew_
             clear hg_ hnew_
             rw [← Nz.1] at ho
             replace HS := Ya (FOp.add1 Q10 ho hb)
             clear ho hb
             refine hK.out _ _ trivial (fun hHeld => ?_)
             clear hK K
             refine YNa 8 ?_
             exact norm_ Q9 (hJ4_10 (v0, v1, v2, g) _ HS.1)
          ·skip
           rintro ⟨v0, v1, v2, g⟩ wn_ hs_
           dsimp only at hs_
           (try clear HS)
           have HS := Ya hs_
           clear hs_
           have hHeld := trivial
           refine YNb ?_
           refine two_ (i := 1) (j := 10) (Ni := some 5) (Nj := some 3) (YA 12 255) (YA 12 1277) rfl rfl rfl rfl (by kernel_rfl) (by decide) (by decide) (fun K hK => ?_) (fun K hK => ?_)
           ·skip
            refine goes_ Tryz.func85 (by kernel_rfl) rfl #[.slice A0 l0.length c0] (by rfl) rfl rfl Q29 ?_
            with_reducible refine (spec_l1Own.calls _ _ l0 b _ (Z19 HR0.1 (FOp.m Q10)) aa.1 A1.1).mono ?_
            rintro e w3 ⟨v0, rfl, ho, hb⟩
            refine ⟨_, rfl, ?_⟩
            replace HS := Ya (FOp.add0 Q10 ho hb)
            clear ho hb
            refine hK.out _ _ trivial (fun hHeld => ?_)
            clear hK K
            refine YNa 5 ?_
            exact norm_ Q9 (hJ1_4 (v0, v1, v2, g) _ HS.1)
           ·skip
            refine Yy 3 YN4 27 ?_
            intro g hg w3 hbox hb
            replace HS := Ya (FOp.add3 Q10 hg hbox hb)
            clear hg hbox hb
            refine hK.out _ _ trivial (fun hHeld => ?_)
            clear hK K
            refine YNa 3 ?_
            exact norm_ Q9 (hJ4_10 (v0, v1, v2, g) _ HS.1)
         ·skip
          rintro ⟨v0, v1, v2, g⟩ wn_ hs_
          dsimp only at hs_
          (try clear HS)
          have HS := Ya hs_
          clear hs_
          have hHeld := trivial
          refine YNb ?_
          refine three_ (i := 4) (j := 8) (k := 10) (Ni := some 8) (Nj := some 12) (Nk := some 3) (YA 12 255) (YA 12 495) (YA 12 1263) rfl rfl rfl rfl rfl rfl (by kernel_rfl) (by decide) (by decide) (by decide) (fun K hK => ?_) (fun K hK => ?_) (fun K hK => ?_)
          ·skip
           refine Kd.R_make_step (Kd.int .i64) _ 3 (by rfl) (N := 8) rfl 24 _ _ rfl (l0.length : Int) rfl rfl Tryz.underlying24 (.int .i64 0) 8 info3 rfl (by decide) (by omega) 0 (ok := fun _ => True) (okp := fun _ => True) rfl (fun _ hk => hk) trivial (by omega) (by omega) (Below.refl _ _) (Nat.le_refl _) ?_
           intro v1 w3 ho hb hg_ hnew_
           clear hg_ hnew_
           rw [← Nz.1] at ho
           replace HS := Ya (FOp.add1 Q10 ho hb)
           clear ho hb
           refine hK.out _ _ trivial (fun hHeld => ?_)
           clear hK K
           refine YNa 8 ?_
           exact norm_ Q9 (hJ1_4 (v0, v1, v2, g) _ HS.1)
          ·skip
           refine goes_ Tryz.func75 (by kernel_rfl) rfl #[.int .i64 (wrap64 ((l0.length : Int) + 1))] (by rfl) rfl rfl Q29 ?_
           with_reducible refine (spec_raUpTo.calls k _ p _ A2.1).mono ?_
           rintro e w3 ⟨v2, rfl, ho, hb⟩
           refine ⟨_, rfl, ?_⟩
           replace HS := Ya (FOp.add2 Q10 ho hb)
           clear ho hb
           refine hK.out _ _ trivial (fun hHeld => ?_)
           clear hK K
           refine YNa 12 ?_
           exact norm_ Q9 (hJ1_8 (v0, v1, v2, g) _ HS.1)
          ·skip
           refine Yy 3 YN4 27 ?_
           intro g hg w3 hbox hb
           replace HS := Ya (FOp.add3 Q10 hg hbox hb)
           clear hg hbox hb
           refine hK.out _ _ trivial (fun hHeld => ?_)
           clear hK K
           refine YNa 3 ?_
           exact norm_ Q9 (hJ1_10 (v0, v1, v2, g) _ HS.1)
        ·skip
         rintro ⟨v0, v1, v2, g⟩ wn_ hs_
         dsimp only at hs_
         (try clear HS)
         have HS := Ya hs_
         clear hs_
         have hHeld := trivial
         refine YNb ?_
         refine one_ (i := 1) (N := some 5) (YA 12 1279) rfl rfl (by kernel_rfl) (by decide) (fun K hK => ?_)
         refine goes_ Tryz.func85 (by kernel_rfl) rfl #[.slice A0 l0.length c0] (by rfl) rfl rfl Q29 ?_
         with_reducible refine (spec_l1Own.calls _ _ l0 b _ (Z19 HR0.1 (FOp.m Q10)) aa.1 A1.1).mono ?_
         rintro e w3 ⟨v0, rfl, ho, hb⟩
         refine ⟨_, rfl, ?_⟩
         replace HS := Ya (FOp.add0 Q10 ho hb)
         clear ho hb
         refine hK.out _ _ trivial (fun hHeld => ?_)
         clear hK K
         refine YNa 5 ?_
         exact norm_ Q9 (hJ1_4_10 (v0, v1, v2, g) _ HS.1)
       ·skip
        rintro ⟨v0, v1, v2, g⟩ wn_ hs_
        dsimp only at hs_
        (try clear HS)
        have HS := Ya hs_
        clear hs_
        have hHeld := trivial
        refine YNb ?_
        refine two_ (i := 4) (j := 8) (Ni := some 8) (Nj := some 12) (YA 12 1279) (YA 12 1519) rfl rfl rfl rfl (by kernel_rfl) (by decide) (by decide) (fun K hK => ?_) (fun K hK => ?_)
        ·skip
         refine Kd.R_make_step (Kd.int .i64) _ 3 (by rfl) (N := 8) rfl 24 _ _ rfl (l0.length : Int) rfl rfl Tryz.underlying24 (.int .i64 0) 8 info3 rfl (by decide) (by omega) 0 (ok := fun _ => True) (okp := fun _ => True) rfl (fun _ hk => hk) trivial (by omega) (by omega) (Below.refl _ _) (Nat.le_refl _) ?_
         intro v1 w3 ho hb hg_ hnew_
         clear hg_ hnew_
         rw [← Nz.1] at ho
         replace HS := Ya (FOp.add1 Q10 ho hb)
         clear ho hb
         refine hK.out _ _ trivial (fun hHeld => ?_)
         clear hK K
         refine YNa 8 ?_
         exact norm_ Q9 (hJ1_4_10 (v0, v1, v2, g) _ HS.1)
        ·skip
         refine goes_ Tryz.func75 (by kernel_rfl) rfl #[.int .i64 (wrap64 ((l0.length : Int) + 1))] (by rfl) rfl rfl Q29 ?_
         with_reducible refine (spec_raUpTo.calls k _ p _ A2.1).mono ?_
         rintro e w3 ⟨v2, rfl, ho, hb⟩
         refine ⟨_, rfl, ?_⟩
         replace HS := Ya (FOp.add2 Q10 ho hb)
         clear ho hb
         refine hK.out _ _ trivial (fun hHeld => ?_)
         clear hK K
         refine YNa 12 ?_
         exact norm_ Q9 (hJ1_8_10 (v0, v1, v2, g) _ HS.1)
      ·skip
       rintro ⟨v0, v1, v2, g⟩ wn_ hs_
       dsimp only at hs_
       (try clear HS)
       have HS := Ya hs_
       clear hs_
       have hHeld := trivial
       refine YNb ?_
       refine two_ (i := 4) (j := 10) (Ni := some 8) (Nj := some 3) (YA 12 511) (YA 12 1519) rfl rfl rfl rfl (by kernel_rfl) (by decide) (by decide) (fun K hK => ?_) (fun K hK => ?_)
       ·skip
        refine Kd.R_make_step (Kd.int .i64) _ 3 (by rfl) (N := 8) rfl 24 _ _ rfl (l0.length : Int) rfl rfl Tryz.underlying24 (.int .i64 0) 8 info3 rfl (by decide) (by omega) 0 (ok := fun _ => True) (okp := fun _ => True) rfl (fun _ hk => hk) trivial (by omega) (by omega) (Below.refl _ _) (Nat.le_refl _) ?_
        intro v1 w3 ho hb hg_ hnew_
        clear hg_ hnew_
        rw [← Nz.1] at ho
        replace HS := Ya (FOp.add1 Q10 ho hb)
        clear ho hb
        refine hK.out _ _ trivial (fun hHeld => ?_)
        clear hK K
        refine YNa 8 ?_
        obtain ⟨B0, d0, q0⟩ := Z15 (HS.1.r0 trivial)
        obtain ⟨B1, d1, q1⟩ := Z15 (HS.1.r1 trivial)
        obtain ⟨B3, d3, q3⟩ := Z15 (HS.1.r2 trivial)
        rw [q0, q1, q3]
        refine Yq 9 (some 13) (YA 12 1023) rfl ?_
        rw [← q0, ← q1, ← q3]
        exact norm_ Q9 (hJ1_4_8 (v0, v1, v2, g) _ HS.1)
       ·skip
        refine Yy 3 YN4 27 ?_
        intro g hg w3 hbox hb
        replace HS := Ya (FOp.add3 Q10 hg hbox hb)
        clear hg hbox hb
        refine hK.out _ _ trivial (fun hHeld => ?_)
        clear hK K
        refine YNa 3 ?_
        exact norm_ Q9 (hJ1_8_10 (v0, v1, v2, g) _ HS.1)
     ·skip
      rintro ⟨v0, v1, v2, g⟩ wn_ hs_
      dsimp only at hs_
      (try clear HS)
      have HS := Ya hs_
      clear hs_
      have hHeld := trivial
      refine YNb ?_
      refine two_ (i := 8) (j := 10) (Ni := some 12) (Nj := some 3) (YA 12 511) (YA 12 1279) rfl rfl rfl rfl (by kernel_rfl) (by decide) (by decide) (fun K hK => ?_) (fun K hK => ?_)
      ·skip
       refine goes_ Tryz.func75 (by kernel_rfl) rfl #[.int .i64 (wrap64 ((l0.length : Int) + 1))] (by rfl) rfl rfl Q29 ?_
       with_reducible refine (spec_raUpTo.calls k _ p _ A2.1).mono ?_
       rintro e w3 ⟨v2, rfl, ho, hb⟩
       refine ⟨_, rfl, ?_⟩
       replace HS := Ya (FOp.add2 Q10 ho hb)
       clear ho hb
       refine hK.out _ _ trivial (fun hHeld => ?_)
       clear hK K
       refine YNa 12 ?_
       obtain ⟨B0, d0, q0⟩ := Z15 (HS.1.r0 trivial)
       obtain ⟨B1, d1, q1⟩ := Z15 (HS.1.r1 trivial)
       obtain ⟨B3, d3, q3⟩ := Z15 (HS.1.r2 trivial)
       rw [q0, q1, q3]
       refine Yq 9 (some 13) (YA 12 1023) rfl ?_
       rw [← q0, ← q1, ← q3]
       exact norm_ Q9 (hJ1_4_8 (v0, v1, v2, g) _ HS.1)
      ·skip
       refine Yy 3 YN4 27 ?_
       intro g hg w3 hbox hb
       replace HS := Ya (FOp.add3 Q10 hg hbox hb)
       clear hg hbox hb
       refine hK.out _ _ trivial (fun hHeld => ?_)
       clear hK K
       refine YNa 3 ?_
       exact norm_ Q9 (hJ1_4_10 (v0, v1, v2, g) _ HS.1)
    ·skip
     rintro ⟨v0, v1, v2, g⟩ wn_ hs_
     dsimp only at hs_
     (try clear HS)
     have HS := Ya hs_
     clear hs_
     have hHeld := trivial
     refine YNb ?_
     refine one_ (i := 4) (N := some 8) (YA 12 1535) rfl rfl (by kernel_rfl) (by decide) (fun K hK => ?_)
     refine Kd.R_make_step (Kd.int .i64) _ 3 (by rfl) (N := 8) rfl 24 _ _ rfl (l0.length : Int) rfl rfl Tryz.underlying24 (.int .i64 0) 8 info3 rfl (by decide) (by omega) 0 (ok := fun _ => True) (okp := fun _ => True) rfl (fun _ hk => hk) trivial (by omega) (by omega) (Below.refl _ _) (Nat.le_refl _) ?_
     intro v1 w3 ho hb hg_ hnew_
     clear hg_ hnew_
     rw [← Nz.1] at ho
     replace HS := Ya (FOp.add1 Q10 ho hb)
     clear ho hb
     refine hK.out _ _ trivial (fun hHeld => ?_)
     clear hK K
     refine YNa 8 ?_
     obtain ⟨B0, d0, q0⟩ := Z15 (HS.1.r0 trivial)
     obtain ⟨B1, d1, q1⟩ := Z15 (HS.1.r1 trivial)
     obtain ⟨B3, d3, q3⟩ := Z15 (HS.1.r2 trivial)
     rw [q0, q1, q3]
     refine Yq 9 (some 13) (YA 12 2047) rfl ?_
     rw [← q0, ← q1, ← q3]
     exact norm_ Q9 (hJ1_4_8_10 (v0, v1, v2, g) _ HS.1)
   ·skip
    rintro ⟨v0, v1, v2, g⟩ wn_ hs_
    dsimp only at hs_
    (try clear HS)
    have HS := Ya hs_
    clear hs_
    have hHeld := trivial
    refine YNb ?_
    refine one_ (i := 8) (N := some 12) (YA 12 1535) rfl rfl (by kernel_rfl) (by decide) (fun K hK => ?_)
    refine goes_ Tryz.func75 (by kernel_rfl) rfl #[.int .i64 (wrap64 ((l0.length : Int) + 1))] (by rfl) rfl rfl Q29 ?_
    with_reducible refine (spec_raUpTo.calls k _ p _ A2.1).mono ?_
    rintro e w3 ⟨v2, rfl, ho, hb⟩
    refine ⟨_, rfl, ?_⟩
    replace HS := Ya (FOp.add2 Q10 ho hb)
    clear ho hb
    refine hK.out _ _ trivial (fun hHeld => ?_)
    clear hK K
    refine YNa 12 ?_
    obtain ⟨B0, d0, q0⟩ := Z15 (HS.1.r0 trivial)
    obtain ⟨B1, d1, q1⟩ := Z15 (HS.1.r1 trivial)
    obtain ⟨B3, d3, q3⟩ := Z15 (HS.1.r2 trivial)
    rw [q0, q1, q3]
    refine Yq 9 (some 13) (YA 12 2047) rfl ?_
    rw [← q0, ← q1, ← q3]
    exact norm_ Q9 (hJ1_4_8_10 (v0, v1, v2, g) _ HS.1)
  ·skip
   rintro ⟨v0, v1, v2, g⟩ wn_ hs_
   dsimp only at hs_
   (try clear HS)
   have HS := Ya hs_
   clear hs_
   have hHeld := trivial
   refine YNb ?_
   refine one_ (i := 10) (N := some 3) (YA 12 2047) rfl rfl (by kernel_rfl) (by decide) (fun K hK => ?_)
   refine Yy 3 YN4 27 ?_
   intro g hg w3 hbox hb
   replace HS := Ya (FOp.add3 Q10 hg hbox hb)
   clear hg hbox hb
   refine hK.out _ _ trivial (fun hHeld => ?_)
   clear hK K
   refine YNa 3 ?_
   exact norm_ Q9 (hJ1_4_8_10 (v0, v1, v2, g) _ HS.1)
 rintro ⟨v0, v1, v2, g⟩ wn_ hs_
 dsimp only at hs_
 (try clear HS)
 have HS := Ya hs_
 clear hs_
 have hHeld := trivial
 refine YNb ?_
 obtain ⟨B0, d0, q0⟩ := Z15 (HS.1.r0 trivial)
 obtain ⟨B1, d1, q1⟩ := Z15 (HS.1.r1 trivial)
 obtain ⟨B3, d3, q3⟩ := Z15 (HS.1.r2 trivial)
 subst q0 q1 q3
 obtain ⟨⟨hcg0, hcg1, hcg2, hcg3⟩, hfg0, hfg1, hfg2, hfg3⟩ := LY4 ((HS.1.g4 trivial).1)
 have hn1 := (HS.1.g4 trivial).2.2
 have hn2 := hn1.symm
 refine last_ (i := 11) (N := none) (YA 12 4095) rfl rfl (by kernel_rfl) (by decide) (fun K hK => ?_)
 refine YNc ?_
 refine hK.out _ _ ?_
 clear hK K
 refine done_ (by kernel_rfl) ?_
 clear hcg0 hfg0 hcg1 hfg1 hcg2 hfg2 hcg3 hfg3
 have HQ := FOp.full HS.1
 unfold set4 at HQ
 go_wp2
 go_loopg [16] l0.length (fun kq ad w' => ∃ (i : Nat) (v2 : Value), ad = .int .i64 (i : Int) ∧ Aside0 (i + kq = l0.length) ∧ Aside0 (FOq w w' gb g (.slice B0 b.length d0) (.slice B1 z.length d1) v2 (.slice B3 p.length d3) b z (List.replicate i true) p))
 case atStart => exact ⟨0, .slice none 0 0, Q70, ⟨Nat.zero_add _⟩, ⟨HQ⟩⟩
 case round =>
  clear HS HQ
  obtain ⟨i, v2, rfl, HN, HQ⟩ := hrel
  obtain ⟨B2, d2, q2⟩ := Z15 HQ.1.v.r2
  rw [List.length_replicate] at q2
  subst q2
  have hn1 := HQ.1.nn
  have hn2 := hn1.symm
  obtain ⟨⟨hcg0, hcg1, hcg2, hcg3⟩, hfg0, hfg1, hfg2, hfg3⟩ := LY4 HQ.1.n2
  cases gk with
  | zero =>
   obtain rfl : i = l0.length := by have := HN.1; omega
   have c1 : decide ((l0.length : Int) < (l0.length : Int)) = false := Z34 (by omega)
   obtain ⟨⟨hch0, hch1, hch2, hch3⟩, hfh0, hfh1, hfh2, hfh3⟩ := LY4 HQ.1.n
   go_wp2
   refine bodyPost_ret (results_cell_row rfl _ _ gb 27 #[.slice B0 b.length d0, .slice B1 z.length d1, .slice B2 l0.length d2, .slice B3 p.length d3] (0, 0) _ rfl Q65 hu rfl (by kernel_rfl)) rfl ?_
   obtain ⟨hv, hb⟩ := FOq.fin HQ.1 (.slice B0 b.length d0) (.slice B1 z.length d1) (.slice B2 l0.length d2) (.slice B3 p.length d3)
   unfold set4 at hv hb
   exact ⟨_, _, _, _, rfl, hv.r0, hv.r1, hv.r2, hv.r3, hb⟩
  | succ k1 =>
   have hi := HN.1
   have c1 : decide ((i : Int) < (l0.length : Int)) = true := Z35 (by omega)
   go_wp2_with (first | ((with_reducible refine gate_builtin (b := .append) (xs := #[.tmp 19, .tmp 20]) rfl ?_); at_builtin; refine Kd.R_append Kd.bool w.heap.size rfl (.tmp 19) (.tmp 20) 25 4 (.bool false) 1 rfl Tryz.underlying25 info4 rfl (by decide) (by omega) (.slice B2 i d2) (List.replicate i true) true [.bool true] (fun _ => True) (fun _ => False) rfl rfl ?aP (fun _ hk => hk.elim) ?aF ?aO (Below.refl _ _) ?aS ?aL ?_; (case aP => exact rfl); (case aF => exact (fun _ _ => trivial)); (case aO => exact HQ.1.v.r2); (case aS => exact (Z7 HQ.1.m)); (case aL => rw [List.length_replicate]; omega); intro v6 w6 ho hb hg hat; rw [← List.replicate_succ'] at ho; obtain ⟨A6, e6, q6⟩ := Z15 ho; subst q6; rw [List.length_replicate] at *; obtain ⟨hn, hs_⟩ := FOq.app HQ.1 ho hb hg; have HX := Ya hs_; have Hn := Ya hn; clear ho hb hg hat hn hs_ HQ; obtain ⟨⟨hck0, hck1, hck2, hck3⟩, hfk0, hfk1, hfk2, hfk3⟩ := LY4 Hn.1))
   go_roundg k1
   case measure => omega
   case rel => exact ⟨i + 1, _, by first | rfl | (rw [show wrap64 ((i : Int) + 1) = ((i + 1 : Nat) : Int) from by unfold wrap64; omega]), ⟨by omega⟩, HX⟩
def spec_foSwapper.l0 : Nat → Int → List Int → Int → Option (List Int × List Int × List Bool × List Int × List Int × List Int)
 | 0, _, _, _ => none
 | k + 1, x0, x3, x4 => if x4 ≤ x0 then (if x3.length < 17592186044416 then (spec_foSwapper.l0 k x0 (x3 ++ [x4]) (wrap64 (x4 + 1))) else (none)) else ((spec_foStart.f k x3).bind fun aa => ((spec_raUpTo.f k x0).bind fun ab => ((spec_raUpTo.f k x0).bind fun ac => (some (aa.1, aa.2.1, aa.2.2.1, aa.2.2.2, ab, ac)))))
def spec_foSwapper.f (k : Nat) (a0 : Int) : Option (List Int × List Int × List Bool × List Int × List Int × List Int) := spec_foSwapper.l0 k a0 ([] : List Int) 2
theorem spec_foSwapper.calls (k : Nat) (a0 : Int) (r1 : List Int) (r2 : List Int) (r3 : List Bool) (r4 : List Int) (r5 : List Int) (r6 : List Int) (w : World) (h : spec_foSwapper.f k a0 = some (r1, r2, r3, r4, r5, r6)) :
  Calls Tryz.prog 49 #[.int .i64 a0] w fun e w' => ∃ v0_ v1_ v2_ v3_ v4_ v5_ : Value, e = .returned (.agg #[v0_, v1_, v2_, v3_, v4_, v5_]) ∧ Kd.R (Kd.int .i64) 3 w' w.heap.size (fun k_ => some k_ ≠ (v1_ : Value).ownBlock ∧ some k_ ≠ (v3_ : Value).ownBlock ∧ some k_ ≠ (v4_ : Value).ownBlock ∧ some k_ ≠ (v5_ : Value).ownBlock) v0_ r1 ∧ Kd.R (Kd.int .i64) 3 w' w.heap.size (fun k_ => some k_ ≠ (v0_ : Value).ownBlock ∧ some k_ ≠ (v3_ : Value).ownBlock ∧ some k_ ≠ (v4_ : Value).ownBlock ∧ some k_ ≠ (v5_ : Value).ownBlock) v1_ r2 ∧ Kd.R Kd.bool 4 w' w.heap.size (fun _ => True) v2_ r3 ∧ Kd.R (Kd.int .i64) 3 w' w.heap.size (fun k_ => some k_ ≠ (v0_ : Value).ownBlock ∧ some k_ ≠ (v1_ : Value).ownBlock ∧ some k_ ≠ (v4_ : Value).ownBlock ∧ some k_ ≠ (v5_ : Value).ownBlock) v3_ r4 ∧ Kd.R (Kd.int .i64) 3 w' w.heap.size (fun k_ => some k_ ≠ (v0_ : Value).ownBlock ∧ some k_ ≠ (v1_ : Value).ownBlock ∧ some k_ ≠ (v3_ : Value).ownBlock ∧ some k_ ≠ (v5_ : Value).ownBlock) v4_ r5 ∧ Kd.R (Kd.int .i64) 3 w' w.heap.size (fun k_ => some k_ ≠ (v0_ : Value).ownBlock ∧ some k_ ≠ (v1_ : Value).ownBlock ∧ some k_ ≠ (v3_ : Value).ownBlock ∧ some k_ ≠ (v4_ : Value).ownBlock) v5_ r6 ∧ Below w.heap.size w w' := by
 have hu29 := Tryz.underlying29
 have HB := Ya (Below.refl w.heap.size w)
 have H : (spec_foSwapper.l0 k a0 ([] : List Int) 2) = some (r1, r2, r3, r4, r5, r6) := h
 clear h
 have H' := Ya H
 clear H
 go_enter Tryz.func49, Tryz.ntmps49
 go_wp2_with (first | ((with_reducible refine gate_dst (N := 2) rfl ?_); refine Yx 2 #[.slice none 0 0, .slice none 0 0, .slice none 0 0, .slice none 0 0, .slice none 0 0, .slice none 0 0] 29 ?_; intro ak hg w2 hbox hb; have aa := Ya hbox; have aR := Yg hg; replace HB := Yh hb; clear hb hbox hg))
 go_loopg [3, 4] k (fun kq v3 v4 w' => ∃ (ah : List Int) (af : Int), v4 = .int .i64 af ∧ Aside0 (spec_foSwapper.l0 kq a0 ah af = some (r1, r2, r3, r4, r5, r6)) ∧ Aside0 (kq ≤ k) ∧ Aside0 (Kd.R (Kd.int .i64) 3 w' w.heap.size (fun _ => True) v3 ah) ∧ Aside0 (w'.heap[ak]? = some (.cells #[(.slice none 0 0), (.slice none 0 0), (.slice none 0 0), (.slice none 0 0), (.slice none 0 0), (.slice none 0 0)] 29 (0, 0))) ∧ Aside0 (Below w.heap.size w w'))
 case atStart => exact ⟨(([] : List Int)), (2), Q17, H', ⟨Nat.le_refl _⟩, ⟨Q3⟩, ⟨by (with_reducible repeat (first | refine Z22 ?_ _ | refine Z23 ?_ | refine Z24 ?_ _)); exact aa.1⟩, ⟨Q12⟩⟩
 case round =>
  clear H'
  obtain ⟨ah, af, rfl, HA, HK1, HO_3, aa, HB⟩ := hrel
  cases gk with
  | zero => exact absurd HA.1 (by simp [spec_foSwapper.l0])
  | succ k1 =>
   have H := HA.1
   clear HA
   simp only [spec_foSwapper.l0] at H
   by_cases c3 : af ≤ a0
   ·rw [if_pos c3] at H
    have ax := Z35 c3
    clear c3
    by_cases c4 : ah.length < 17592186044416
    ·rw [if_pos c4] at H
     have LMc4 := Ya c4
     clear c4
     obtain ⟨am, ai⟩ : ∃ y_ : List Int, y_ = (ah ++ [af]) := ⟨_, rfl⟩
     replace H : (spec_foSwapper.l0 k1 a0 am (wrap64 (af + 1))) = some (r1, r2, r3, r4, r5, r6) := by first | (rw [ai]; with_reducible exact H) | (have H2_ := (Option.bind_some _ _).symm.trans H; rw [ai]; with_reducible exact H2_) | (have H2_ := (Option.bind_some _ _).symm.trans H; with_reducible exact H2_) | with_reducible exact H | (rw [ai]; exact H) | exact H
     have an := Ya ai
     clear ai
     have H' := Ya H
     clear H
     go_wp2_with (first | ((with_reducible refine gate_builtin (b := .append) (xs := #[.tmp 10, .tmp 12]) rfl ?_); at_builtin; refine Kd.R_append (Kd.int .i64) (w0 := w) w.heap.size rfl (.tmp 10) (.tmp 12) 24 3 (.int .i64 0) 8 rfl Tryz.underlying24 info3 rfl (by decide) (by omega) u3 ah af [.int .i64 af] (fun _ => True) (fun _ => False) rfl rfl ?aP (fun _ hk => hk.elim) ?aF ?aO ?aB ?aS ?aL ?_; (case aP => exact rfl); (case aB => exact Q0); (case aF => exact (fun _ _ => trivial)); (case aO => exact (Yr HO_3.1)); (case aS => exact (Z7 Q0)); (case aL => have := LMc4.1; omega); intro aU w5 ho hb hg hat; rw [← an.1] at ho; replace aa := Ya (blk_grown (g := ak) (o := .cells #[.slice none 0 0, .slice none 0 0, .slice none 0 0, .slice none 0 0, .slice none 0 0, .slice none 0 0] 29 (0, 0)) (Yk aa.1) hg (Kd.R_ne HO_3.1 aa.1 (by decide))); replace HB := Ya hb; have ao := Ya ho; clear HO_3; clear ho hb hg hat))
     go_roundg k1
     case measure => have := HK1.1; omega
     case rel => exact ⟨(am), (wrap64 (af + 1)), Q17, H', ⟨Q35⟩, ⟨by (with_reducible repeat (first | apply Z9 | apply Z10 | apply Z11)); exact ao.1⟩, ⟨by (with_reducible repeat (first | refine Z22 ?_ _ | refine Z23 ?_ | refine Z24 ?_ _)); exact aa.1⟩, ⟨Q12⟩⟩
    ·rw [if_neg c4] at H
     exact absurd H (by simp)
   ·rw [if_neg c3] at H
    have ax := Z34 c3
    clear c3
    replace H := YB H
    obtain ⟨⟨ap, aq, ar, au⟩, A6, H⟩ := H
    dsimp only at H
    replace H := YB H
    obtain ⟨av, A7, H⟩ := H
    replace H := YB H
    obtain ⟨aw, A8, H⟩ := H
    simp only [Option.some.injEq, Prod.mk.injEq] at H
    obtain ⟨rfl, rfl, rfl, rfl, rfl, rfl⟩ := H
    obtain ⟨aV, aW, rfl⟩ := Z15 HO_3.1
    go_wp2_with (first | ((with_reducible refine gate_callee (f := 74) rfl ?_); refine Yz 15 Tryz.func74 #[.slice aV ah.length aW] ?_; (with_reducible refine (spec_foStart.calls k1 _ _ ah ap aq ar au _ (YX HO_3) (YL HO_3) A6.1).mono ?_); rintro e a5 ⟨aX, aY, aZ, a1, rfl, ag, ay, aT, az, hb⟩; refine ⟨_, rfl, ?_⟩; have ab := Yl (YW ag HO_3); have ac := Yl (YW ay HO_3); have ae := Yl aT; have ad := Yl (YW az HO_3); replace HO_3 := YM (YT (YT (YT (YO HO_3 hb) ag) ay) az); replace aa := Yb aa hb; replace HB := Yh hb; (try clear hb ag ay aT az)) | ((with_reducible refine gate_callee (f := 75) rfl ?_); refine Yz 17 Tryz.func75 #[.int .i64 a0] ?_; (with_reducible refine (spec_raUpTo.calls k1 a0 av _ A7.1).mono ?_); rintro e a6 ⟨a2, rfl, ag, hb⟩; refine ⟨_, rfl, ?_⟩; replace ae := Yw ae hb; have aj := Yl (YW (YW (YW (YW ag HO_3) ab) ac) ad); replace HO_3 := YE HO_3 ag hb; replace ab := YE ab ag hb; replace ac := YE ac ag hb; replace ad := YE ad ag hb; replace aa := Yb aa hb; replace HB := Yh hb; (try clear hb ag)) | ((with_reducible refine gate_callee (f := 75) rfl ?_); refine Yz 19 Tryz.func75 #[.int .i64 a0] ?_; (with_reducible refine (spec_raUpTo.calls k1 a0 aw _ A8.1).mono ?_); rintro e a7 ⟨a3, rfl, ag, hb⟩; refine ⟨_, rfl, ?_⟩; replace ae := Yw ae hb; have al := Yl (YW (YW (YW (YW (YW ag HO_3) ab) ac) ad) aj); replace HO_3 := YE HO_3 ag hb; replace ab := YE ab ag hb; replace ac := YE ac ag hb; replace ad := YE ad ag hb; replace aj := YE aj ag hb; replace aa := Yb aa hb; replace HB := Yh hb; (try clear hb ag); obtain ⟨aA, aC, rfl⟩ := Z15 al.1; obtain ⟨aD, aE, rfl⟩ := Z15 aj.1; obtain ⟨aG, aH, rfl⟩ := Z15 ad.1; obtain ⟨aI, aJ, rfl⟩ := Z15 ae.1; obtain ⟨aK, aM, rfl⟩ := Z15 ac.1; obtain ⟨aN, aQ, rfl⟩ := Z15 ab.1; have a4 := Y6 aa.1))
    refine bodyPost_ret (results_cell_row rfl _ _ ak 29 #[.slice aN ap.length aQ, .slice aK aq.length aM, .slice aI ar.length aJ, .slice aG au.length aH, .slice aD av.length aE, .slice aA aw.length aC] (0, 0) _ rfl (Yk (Yv6 aa.1)) Tryz.underlying29 rfl (by kernel_rfl)) rfl ?_
    exact ⟨_, _, _, _, _, _, Q2, Yj (Yf6 ab.1 aa.1) (fun _ hk => ⟨hk.1.1.1.1.1, ⟨hk.1.1.1.1.2, ⟨hk.1.1.2, hk.1.2⟩⟩⟩), Yj (Yf6 ac.1 aa.1) (fun _ hk => ⟨hk.1.1.1.1.1, ⟨hk.1.1.1.1.2, ⟨hk.1.1.2, hk.1.2⟩⟩⟩), Yj (Yf6 ae.1 aa.1) (fun _ hk => trivial), Yj (Yf6 ad.1 aa.1) (fun _ hk => ⟨hk.1.1.1.1.1, ⟨hk.1.1.1.1.2, ⟨hk.1.1.2, hk.1.2⟩⟩⟩), Yj (Yf6 aj.1 aa.1) (fun _ hk => ⟨hk.1.1.1.1.2, ⟨hk.1.1.1.2, ⟨hk.1.1.2, hk.1.2⟩⟩⟩), Yj (Yf6 al.1 aa.1) (fun _ hk => ⟨hk.1.1.1.1.2, ⟨hk.1.1.1.2, ⟨hk.1.1.2, hk.1.2⟩⟩⟩), Q12⟩
def spec_foSwapperAt.l0 : Nat → Int → List Int → List Int → List Bool → List Int → List Int → List Int → Option (List Int × List Int × List Bool × List Int × List Int × List Int × Bool)
 | 0, _, _, _, _, _, _, _ => none
 | k + 1, x1, ab, ac, ad, ae, af, ag => if x1 > 0 then ((spec_foSwap.f k ab ac ad ae af ag).bind fun aa => (if aa.2.2.2.2.2.2 < 0 then (some (([] : List Int), ([] : List Int), ([] : List Bool), ([] : List Int), ([] : List Int), ([] : List Int), false)) else (spec_foSwapperAt.l0 k (wrap64 (x1 - 1)) aa.1 aa.2.1 aa.2.2.1 aa.2.2.2.1 aa.2.2.2.2.1 aa.2.2.2.2.2.1))) else (some (ab, ac, ad, ae, af, ag, true))
def spec_foSwapperAt.f (k : Nat) (a0 : Int) (a1 : Int) : Option (List Int × List Int × List Bool × List Int × List Int × List Int × Bool) := (spec_foSwapper.f k a0).bind fun aa => (spec_foSwapperAt.l0 k a1 aa.1 aa.2.1 aa.2.2.1 aa.2.2.2.1 aa.2.2.2.2.1 aa.2.2.2.2.2)
theorem spec_foSwapperAt.calls (k : Nat) (a0 : Int) (a1 : Int) (r1 : List Int) (r2 : List Int) (r3 : List Bool) (r4 : List Int) (r5 : List Int) (r6 : List Int) (r7 : Bool) (w : World) (h : spec_foSwapperAt.f k a0 a1 = some (r1, r2, r3, r4, r5, r6, r7)) :
  Calls Tryz.prog 46 #[.int .i64 a0, .int .i64 a1] w fun e w' => ∃ v0_ v1_ v2_ v3_ v4_ v5_ : Value, e = .returned (.tuple #[.agg #[v0_, v1_, v2_, v3_, v4_, v5_], .bool r7]) ∧ Kd.R (Kd.int .i64) 3 w' w.heap.size (fun k_ => some k_ ≠ (v1_ : Value).ownBlock ∧ some k_ ≠ (v3_ : Value).ownBlock ∧ some k_ ≠ (v4_ : Value).ownBlock ∧ some k_ ≠ (v5_ : Value).ownBlock) v0_ r1 ∧ Kd.R (Kd.int .i64) 3 w' w.heap.size (fun k_ => some k_ ≠ (v0_ : Value).ownBlock ∧ some k_ ≠ (v3_ : Value).ownBlock ∧ some k_ ≠ (v4_ : Value).ownBlock ∧ some k_ ≠ (v5_ : Value).ownBlock) v1_ r2 ∧ Kd.R Kd.bool 4 w' w.heap.size (fun _ => True) v2_ r3 ∧ Kd.R (Kd.int .i64) 3 w' w.heap.size (fun k_ => some k_ ≠ (v0_ : Value).ownBlock ∧ some k_ ≠ (v1_ : Value).ownBlock ∧ some k_ ≠ (v4_ : Value).ownBlock ∧ some k_ ≠ (v5_ : Value).ownBlock) v3_ r4 ∧ Kd.R (Kd.int .i64) 3 w' w.heap.size (fun k_ => some k_ ≠ (v0_ : Value).ownBlock ∧ some k_ ≠ (v1_ : Value).ownBlock ∧ some k_ ≠ (v3_ : Value).ownBlock ∧ some k_ ≠ (v5_ : Value).ownBlock) v4_ r5 ∧ Kd.R (Kd.int .i64) 3 w' w.heap.size (fun k_ => some k_ ≠ (v0_ : Value).ownBlock ∧ some k_ ≠ (v1_ : Value).ownBlock ∧ some k_ ≠ (v3_ : Value).ownBlock ∧ some k_ ≠ (v4_ : Value).ownBlock) v5_ r6 ∧ Below w.heap.size w w' := by
 have hu29 := Tryz.underlying29
 have HB := Ya (Below.refl w.heap.size w)
 have H : ((spec_foSwapper.f k a0).bind fun aI => (spec_foSwapperAt.l0 k a1 aI.1 aI.2.1 aI.2.2.1 aI.2.2.2.1 aI.2.2.2.2.1 aI.2.2.2.2.2)) = some (r1, r2, r3, r4, r5, r6, r7) := h
 clear h
 replace H := YB H
 obtain ⟨⟨aQ, aS, a5, bb, bl, bv⟩, A3, H⟩ := H
 dsimp only at H
 have H' := Ya H
 clear H
 go_enter Tryz.func46, Tryz.ntmps46
 go_wp2_with (first | ((with_reducible refine gate_dst (N := 4) rfl ?_); refine Yx 4 YN6 29 ?_; intro bc hg w4 hbox hb; have ak := Ya hbox; have cI := Yg hg; replace HB := Yh hb; clear hb hbox hg) | ((with_reducible refine gate_callee (f := 49) rfl ?_); refine Yz 10 Tryz.func49 #[.int .i64 a0] ?_; (with_reducible refine (spec_foSwapper.calls k a0 aQ aS a5 bb bl bv _ A3.1).mono ?_); rintro e w5 ⟨cZ, da, db, dc, dd, de, rfl, aL, aM, bk, aN, aO, aP, hb⟩; refine ⟨_, rfl, ?_⟩; have aX := Yl aL; have aY := Yl aM; have aZ := Yl bk; have a2 := Yl aN; have a3 := Yl aO; have a4 := Yl aP; replace ak := Yb ak hb; replace HB := Yh hb; (try clear hb aL aM bk aN aO aP)) | ((with_reducible refine gate_dst (N := 6) rfl ?_); refine Yx 6 YN6 29 ?_; intro bV hg w6 hbox hb; replace aX := Yw aX hb; replace aY := Yw aY hb; replace aZ := Yw aZ hb; replace a2 := Yw a2 hb; replace a3 := Yw a3 hb; replace a4 := Yw a4 hb; have ai := Ya hbox; have cJ := Yg hg; replace HB := Yh hb; have ag := Yn ak hg; have ay := Ym ak hg; replace ak := Yb ak hb; clear hb hbox hg; obtain ⟨bR, bS, rfl⟩ := Z15 aX.1; have df := ay.1; have dg := ag.1; obtain ⟨bw, bx, bz, bA, bB, bC, bD, bE, bF, bG, bH, bI⟩ := Y6 ai.1; obtain ⟨bd, be, rfl⟩ := Z15 aY.1; obtain ⟨bm, bn, rfl⟩ := Z15 aZ.1; obtain ⟨bJ, bK, rfl⟩ := Z15 a2.1; obtain ⟨bW, bX, rfl⟩ := Z15 a3.1; obtain ⟨b6, b7, rfl⟩ := Z15 a4.1))
 go_loopg [1] k (fun kq v1 w' => ∃ (aT : Int) (ap : List Int) (an : List Int) (am : List Bool) (al : List Int) (aj : List Int) (ah : List Int) (ar : Value) (au : Value) (aJ : Value) (av : Value) (aw : Value) (ax : Value), v1 = .int .i64 aT ∧ Aside0 (spec_foSwapperAt.l0 kq aT ap an am al aj ah = some (r1, r2, r3, r4, r5, r6, r7)) ∧ Aside0 (kq ≤ k) ∧ Aside0 (Kd.R (Kd.int .i64) 3 w' w.heap.size (fun k_ => some k_ ≠ (au : Value).ownBlock ∧ some k_ ≠ (av : Value).ownBlock ∧ some k_ ≠ (aw : Value).ownBlock ∧ some k_ ≠ (ax : Value).ownBlock) ar ap) ∧ Aside0 (Kd.R (Kd.int .i64) 3 w' w.heap.size (fun k_ => some k_ ≠ (ar : Value).ownBlock ∧ some k_ ≠ (av : Value).ownBlock ∧ some k_ ≠ (aw : Value).ownBlock ∧ some k_ ≠ (ax : Value).ownBlock) au an) ∧ Aside0 (Kd.R Kd.bool 4 w' w.heap.size (fun _ => True) aJ am) ∧ Aside0 (Kd.R (Kd.int .i64) 3 w' w.heap.size (fun k_ => some k_ ≠ (ar : Value).ownBlock ∧ some k_ ≠ (au : Value).ownBlock ∧ some k_ ≠ (aw : Value).ownBlock ∧ some k_ ≠ (ax : Value).ownBlock) av al) ∧ Aside0 (Kd.R (Kd.int .i64) 3 w' w.heap.size (fun k_ => some k_ ≠ (ar : Value).ownBlock ∧ some k_ ≠ (au : Value).ownBlock ∧ some k_ ≠ (av : Value).ownBlock ∧ some k_ ≠ (ax : Value).ownBlock) aw aj) ∧ Aside0 (Kd.R (Kd.int .i64) 3 w' w.heap.size (fun k_ => some k_ ≠ (ar : Value).ownBlock ∧ some k_ ≠ (au : Value).ownBlock ∧ some k_ ≠ (av : Value).ownBlock ∧ some k_ ≠ (aw : Value).ownBlock) ax ah) ∧ Aside0 (w'.heap[bc]? = some (.cells #[(.slice none 0 0), (.slice none 0 0), (.slice none 0 0), (.slice none 0 0), (.slice none 0 0), (.slice none 0 0)] 29 (0, 0))) ∧ Aside0 (w'.heap[bV]? = some (.cells #[ar, au, aJ, av, aw, ax] 29 (0, 0))) ∧ Aside0 (Below w.heap.size w w'))
 case atStart => exact ⟨(a1), (aQ), (aS), (a5), (bb), (bl), (bv), (.slice bR aQ.length bS), (.slice bd aS.length be), (.slice bm a5.length bn), (.slice bJ bb.length bK), (.slice bW bl.length bX), (.slice b6 bv.length b7), Q17, H', ⟨Nat.le_refl _⟩, ⟨Yj (Yf6 aX.1 ai.1) (fun _ hk => ⟨hk.1.1, ⟨hk.1.2.1, ⟨hk.1.2.2.1, hk.1.2.2.2⟩⟩⟩)⟩, ⟨Yj (Yf6 aY.1 ai.1) (fun _ hk => ⟨hk.1.1, ⟨hk.1.2.1, ⟨hk.1.2.2.1, hk.1.2.2.2⟩⟩⟩)⟩, ⟨Yj (Yf6 aZ.1 ai.1) (fun _ hk => trivial)⟩, ⟨Yj (Yf6 a2.1 ai.1) (fun _ hk => ⟨hk.1.1, ⟨hk.1.2.1, ⟨hk.1.2.2.1, hk.1.2.2.2⟩⟩⟩)⟩, ⟨Yj (Yf6 a3.1 ai.1) (fun _ hk => ⟨hk.1.1, ⟨hk.1.2.1, ⟨hk.1.2.2.1, hk.1.2.2.2⟩⟩⟩)⟩, ⟨Yj (Yf6 a4.1 ai.1) (fun _ hk => ⟨hk.1.1, ⟨hk.1.2.1, ⟨hk.1.2.2.1, hk.1.2.2.2⟩⟩⟩)⟩, ⟨by (with_reducible repeat (first | refine Z22 ?_ _ | refine Z23 ?_ | refine Z24 ?_ _)); refine blk_far ?_ ag.1 _; (with_reducible repeat (first | refine Z22 ?_ _ | refine Z23 ?_ | refine Z24 ?_ _)); refine blk_far ?_ ag.1 _; (with_reducible repeat (first | refine Z22 ?_ _ | refine Z23 ?_ | refine Z24 ?_ _)); refine blk_far ?_ ag.1 _; (with_reducible repeat (first | refine Z22 ?_ _ | refine Z23 ?_ | refine Z24 ?_ _)); refine blk_far ?_ ag.1 _; (with_reducible repeat (first | refine Z22 ?_ _ | refine Z23 ?_ | refine Z24 ?_ _)); refine blk_far ?_ ag.1 _; (with_reducible repeat (first | refine Z22 ?_ _ | refine Z23 ?_ | refine Z24 ?_ _)); refine blk_far ?_ ag.1 _; (with_reducible repeat (first | refine Z22 ?_ _ | refine Z23 ?_ | refine Z24 ?_ _)); exact ak.1⟩, ⟨by (with_reducible repeat (first | refine Z22 ?_ _ | refine Z23 ?_ | refine Z24 ?_ _)); refine Z26 (cs := #[.slice bR aQ.length bS, .slice bd aS.length be, .slice bm a5.length bn, .slice bJ bb.length bK, .slice bW bl.length bX, .slice none 0 0]) ?_ 5 _ rfl; (with_reducible repeat (first | refine Z22 ?_ _ | refine Z23 ?_ | refine Z24 ?_ _)); refine Z26 (cs := #[.slice bR aQ.length bS, .slice bd aS.length be, .slice bm a5.length bn, .slice bJ bb.length bK, .slice none 0 0, .slice none 0 0]) ?_ 4 _ rfl; (with_reducible repeat (first | refine Z22 ?_ _ | refine Z23 ?_ | refine Z24 ?_ _)); refine Z26 (cs := #[.slice bR aQ.length bS, .slice bd aS.length be, .slice bm a5.length bn, .slice none 0 0, .slice none 0 0, .slice none 0 0]) ?_ 3 _ rfl; (with_reducible repeat (first | refine Z22 ?_ _ | refine Z23 ?_ | refine Z24 ?_ _)); refine Z26 (cs := #[.slice bR aQ.length bS, .slice bd aS.length be, .slice none 0 0, .slice none 0 0, .slice none 0 0, .slice none 0 0]) ?_ 2 _ rfl; (with_reducible repeat (first | refine Z22 ?_ _ | refine Z23 ?_ | refine Z24 ?_ _)); refine Z26 (cs := #[.slice bR aQ.length bS, .slice none 0 0, .slice none 0 0, .slice none 0 0, .slice none 0 0, .slice none 0 0]) ?_ 1 _ rfl; (with_reducible repeat (first | refine Z22 ?_ _ | refine Z23 ?_ | refine Z24 ?_ _)); refine Z26 (cs := YN6) ?_ 0 _ rfl; (with_reducible repeat (first | refine Z22 ?_ _ | refine Z23 ?_ | refine Z24 ?_ _)); exact ai.1⟩, ⟨Q12⟩⟩
 case round =>
  clear H'
  try clear bw
  try clear bx
  try clear bz
  try clear bA
  try clear bB
  try clear bC
  try clear bD
  try clear bE
  try clear bF
  try clear bG
  try clear bH
  try clear bI
  obtain ⟨aT, ap, an, am, al, aj, ah, ar, au, aJ, av, aw, ax, rfl, HA, HK1, aa, ab, af, ac, ad, ae, ak, ai, HB⟩ := hrel
  cases gk with
  | zero => exact absurd HA.1 (by simp [spec_foSwapperAt.l0])
  | succ k1 =>
   have H := HA.1
   clear HA
   simp only [spec_foSwapperAt.l0] at H
   by_cases bT : aT > 0
   ·rw [if_pos bT] at H
    have bY : decide (0 < aT) = true := Z35 bT
    clear bT
    replace H := YB H
    obtain ⟨⟨aK, aR, aU, a6, bf, bo, bL⟩, cK, H⟩ := H
    dsimp only at H
    by_cases bU : bL < 0
    ·rw [if_pos bU] at H
     have bZ := Z35 bU
     clear bU
     simp only [Option.some.injEq, Prod.mk.injEq] at H
     obtain ⟨rfl, rfl, rfl, rfl, rfl, rfl, rfl⟩ := H
     have cL := ay.1
     have cM := ag.1
     have dh := Y6 ai.1
     obtain ⟨b8, b9, rfl⟩ := Z15 aa.1
     obtain ⟨ca, cb, rfl⟩ := Z15 ab.1
     obtain ⟨cc, cd, rfl⟩ := Z15 af.1
     obtain ⟨ce, cf, rfl⟩ := Z15 ac.1
     obtain ⟨cg, ch, rfl⟩ := Z15 ad.1
     obtain ⟨cj, ck, rfl⟩ := Z15 ae.1
     go_wp2_with (first | ((with_reducible refine gate_callee (f := 29) rfl ?_); refine Yz 17 Tryz.func29 #[.agg #[.slice b8 ap.length b9, .slice ca an.length cb, .slice cc am.length cd, .slice ce al.length cf, .slice cg aj.length ch, .slice cj ah.length ck]] ?_; (with_reducible refine (spec_foSwap.calls k1 _ _ ap _ _ an _ _ am _ _ al _ _ aj _ _ ah aK aR aU a6 bf bo bL _ (YX aa) (YL aa) (YX ab) (YL ab) (YX af) (YL af) (YX ac) (YL ac) (YX ad) (YL ad) (YX ae) (YL ae) cK.1).mono ?_); rintro e dD ⟨cl, cm, cp, cq, cr, ct, rfl, aL, aM, bk, aN, aO, aP, hb⟩; refine ⟨_, rfl, ?_⟩; have aC := Yl (YW (YW (YW (YW (YW aL aa) ab) ac) ad) ae); have aD := Yl (YW (YW (YW (YW (YW aM aa) ab) ac) ad) ae); have aE := Yl (YW bk af); replace af := YE af bk hb; have aF := Yl (YW (YW (YW (YW (YW aN aa) ab) ac) ad) ae); have aG := Yl (YW (YW (YW (YW (YW aO aa) ab) ac) ad) ae); have aH := Yl (YW (YW (YW (YW (YW aP aa) ab) ac) ad) ae); replace aa := YM (YT (YT (YT (YT (YT (YO aa hb) aL) aM) aN) aO) aP); replace ab := YM (YT (YT (YT (YT (YT (YO ab hb) aL) aM) aN) aO) aP); replace ac := YM (YT (YT (YT (YT (YT (YO ac hb) aL) aM) aN) aO) aP); replace ad := YM (YT (YT (YT (YT (YT (YO ad hb) aL) aM) aN) aO) aP); replace ae := YM (YT (YT (YT (YT (YT (YO ae hb) aL) aM) aN) aO) aP); replace ak := Yb ak hb; replace ai := Yb ai hb; replace HB := Yh hb; (try clear hb aL aM bk aN aO aP)) | ((with_reducible refine gate_dst (N := 7) rfl ?_); refine Yx 7 YN6 29 ?_; intro b0 hg dE hbox hb; replace aa := Yw aa hb; replace ab := Yw ab hb; replace af := Yw af hb; replace ac := Yw ac hb; replace ad := Yw ad hb; replace ae := Yw ae hb; replace aC := Yw aC hb; replace aD := Yw aD hb; replace aE := Yw aE hb; replace aF := Yw aF hb; replace aG := Yw aG hb; replace aH := Yw aH hb; have az := Ya hbox; have b1 := Yg hg; replace HB := Yh hb; have ao := Yn ak hg; have aA := Ym ak hg; replace ak := Yb ak hb; have aq := Yn ai hg; have aB := Ym ai hg; replace ai := Yb ai hb; clear hb hbox hg; obtain ⟨di, dj, rfl⟩ := Z15 aC.1; have cN := aA.1; have cO := ao.1; have cP := aB.1; have cQ := aq.1; have dk := Y6 az.1; obtain ⟨dl, dm, rfl⟩ := Z15 aD.1; obtain ⟨dn, dp, rfl⟩ := Z15 aE.1; obtain ⟨dq, dr, rfl⟩ := Z15 aF.1; obtain ⟨dt, du, rfl⟩ := Z15 aG.1; obtain ⟨dv, dw, rfl⟩ := Z15 aH.1; have dx := Y6 ak.1))
     refine bodyPost_ret (results_ct rfl _ _ bc 29 YN6 (0, 0) _ rfl (Yk (Yv6 (Yo6 ak.1 ao.1))) Tryz.underlying29 rfl (by kernel_rfl)) rfl ?_
     exact ⟨_, _, _, _, _, _, Q2, Q3, Q3, Q3, Q3, Q3, Q3, Q12⟩
    ·rw [if_neg bU] at H
     have bZ := Z34 bU
     clear bU
     have H' := Ya H
     clear H
     have cR := ay.1
     have cS := ag.1
     have dy := Y6 ai.1
     obtain ⟨b2, b3, rfl⟩ := Z15 aa.1
     obtain ⟨bN, bO, rfl⟩ := Z15 ab.1
     obtain ⟨bp, bq, rfl⟩ := Z15 af.1
     obtain ⟨bg, bh, rfl⟩ := Z15 ac.1
     obtain ⟨a7, a8, rfl⟩ := Z15 ad.1
     obtain ⟨aV, aW, rfl⟩ := Z15 ae.1
     go_wp2_with (first | ((with_reducible refine gate_callee (f := 29) rfl ?_); refine Yz 17 Tryz.func29 #[.agg #[.slice b2 ap.length b3, .slice bN an.length bO, .slice bp am.length bq, .slice bg al.length bh, .slice a7 aj.length a8, .slice aV ah.length aW]] ?_; (with_reducible refine (spec_foSwap.calls k1 _ _ ap _ _ an _ _ am _ _ al _ _ aj _ _ ah aK aR aU a6 bf bo bL _ (YX aa) (YL aa) (YX ab) (YL ab) (YX af) (YL af) (YX ac) (YL ac) (YX ad) (YL ad) (YX ae) (YL ae) cK.1).mono ?_); rintro e dF ⟨cl, cm, cp, cq, cr, ct, rfl, aL, aM, bk, aN, aO, aP, hb⟩; refine ⟨_, rfl, ?_⟩; have aC := Yl (YW (YW (YW (YW (YW aL aa) ab) ac) ad) ae); have aD := Yl (YW (YW (YW (YW (YW aM aa) ab) ac) ad) ae); have aE := Yl (YW bk af); replace af := YE af bk hb; have aF := Yl (YW (YW (YW (YW (YW aN aa) ab) ac) ad) ae); have aG := Yl (YW (YW (YW (YW (YW aO aa) ab) ac) ad) ae); have aH := Yl (YW (YW (YW (YW (YW aP aa) ab) ac) ad) ae); replace aa := YM (YT (YT (YT (YT (YT (YO aa hb) aL) aM) aN) aO) aP); replace ab := YM (YT (YT (YT (YT (YT (YO ab hb) aL) aM) aN) aO) aP); replace ac := YM (YT (YT (YT (YT (YT (YO ac hb) aL) aM) aN) aO) aP); replace ad := YM (YT (YT (YT (YT (YT (YO ad hb) aL) aM) aN) aO) aP); replace ae := YM (YT (YT (YT (YT (YT (YO ae hb) aL) aM) aN) aO) aP); replace ak := Yb ak hb; replace ai := Yb ai hb; replace HB := Yh hb; (try clear hb aL aM bk aN aO aP)) | ((with_reducible refine gate_dst (N := 7) rfl ?_); refine Yx 7 YN6 29 ?_; intro b0 hg dG hbox hb; replace aa := Yw aa hb; replace ab := Yw ab hb; replace af := Yw af hb; replace ac := Yw ac hb; replace ad := Yw ad hb; replace ae := Yw ae hb; replace aC := Yw aC hb; replace aD := Yw aD hb; replace aE := Yw aE hb; replace aF := Yw aF hb; replace aG := Yw aG hb; replace aH := Yw aH hb; have az := Ya hbox; have b1 := Yg hg; replace HB := Yh hb; have ao := Yn ak hg; have aA := Ym ak hg; replace ak := Yb ak hb; have aq := Yn ai hg; have aB := Ym ai hg; replace ai := Yb ai hb; clear hb hbox hg; obtain ⟨a9, ba, rfl⟩ := Z15 aC.1; have cT := aA.1; have cU := ao.1; have cV := aB.1; have cW := aq.1; have dz := Y6 az.1; obtain ⟨bi, bj, rfl⟩ := Z15 aD.1; obtain ⟨br, bu, rfl⟩ := Z15 aE.1; obtain ⟨bP, bQ, rfl⟩ := Z15 aF.1; obtain ⟨b4, b5, rfl⟩ := Z15 aG.1; obtain ⟨cu, cv, rfl⟩ := Z15 aH.1; have dA := Y6 ai.1))
     go_roundg k1
     case measure => have := HK1.1; omega
     case rel => exact ⟨(wrap64 (aT - 1)), (aK), (aR), (aU), (a6), (bf), (bo), (.slice a9 aK.length ba), (.slice bi aR.length bj), (.slice br aU.length bu), (.slice bP a6.length bQ), (.slice b4 bf.length b5), (.slice cu bo.length cv), Q17, H', ⟨Q35⟩, ⟨Yj (Yd6 aC.1 az.1 ai.1) (fun _ hk => ⟨hk.1.1.1.1.1.1.1.1, ⟨hk.1.1.1.1.1.1.1.2.1, ⟨hk.1.1.1.1.1.1.1.2.2.1, hk.1.1.1.1.1.1.1.2.2.2⟩⟩⟩)⟩, ⟨Yj (Yd6 aD.1 az.1 ai.1) (fun _ hk => ⟨hk.1.1.1.1.1.1.1.1, ⟨hk.1.1.1.1.1.1.1.2.1, ⟨hk.1.1.1.1.1.1.1.2.2.1, hk.1.1.1.1.1.1.1.2.2.2⟩⟩⟩)⟩, ⟨Yj (Yd6 aE.1 az.1 ai.1) (fun _ hk => trivial)⟩, ⟨Yj (Yd6 aF.1 az.1 ai.1) (fun _ hk => ⟨hk.1.1.1.1.1.1.1.1, ⟨hk.1.1.1.1.1.1.1.2.1, ⟨hk.1.1.1.1.1.1.1.2.2.1, hk.1.1.1.1.1.1.1.2.2.2⟩⟩⟩)⟩, ⟨Yj (Yd6 aG.1 az.1 ai.1) (fun _ hk => ⟨hk.1.1.1.1.1.1.1.1, ⟨hk.1.1.1.1.1.1.1.2.1, ⟨hk.1.1.1.1.1.1.1.2.2.1, hk.1.1.1.1.1.1.1.2.2.2⟩⟩⟩)⟩, ⟨Yj (Yd6 aH.1 az.1 ai.1) (fun _ hk => ⟨hk.1.1.1.1.1.1.1.1, ⟨hk.1.1.1.1.1.1.1.2.1, ⟨hk.1.1.1.1.1.1.1.2.2.1, hk.1.1.1.1.1.1.1.2.2.2⟩⟩⟩)⟩, ⟨by (with_reducible repeat (first | refine Z22 ?_ _ | refine Z23 ?_ | refine Z24 ?_ _)); refine blk_far ?_ ag.1 _; (with_reducible repeat (first | refine Z22 ?_ _ | refine Z23 ?_ | refine Z24 ?_ _)); refine blk_far ?_ ag.1 _; (with_reducible repeat (first | refine Z22 ?_ _ | refine Z23 ?_ | refine Z24 ?_ _)); refine blk_far ?_ ag.1 _; (with_reducible repeat (first | refine Z22 ?_ _ | refine Z23 ?_ | refine Z24 ?_ _)); refine blk_far ?_ ag.1 _; (with_reducible repeat (first | refine Z22 ?_ _ | refine Z23 ?_ | refine Z24 ?_ _)); refine blk_far ?_ ag.1 _; (with_reducible repeat (first | refine Z22 ?_ _ | refine Z23 ?_ | refine Z24 ?_ _)); refine blk_far ?_ ag.1 _; (with_reducible repeat (first | refine Z22 ?_ _ | refine Z23 ?_ | refine Z24 ?_ _)); refine blk_far ?_ ao.1 _; (with_reducible repeat (first | refine Z22 ?_ _ | refine Z23 ?_ | refine Z24 ?_ _)); refine blk_far ?_ ao.1 _; (with_reducible repeat (first | refine Z22 ?_ _ | refine Z23 ?_ | refine Z24 ?_ _)); refine blk_far ?_ ao.1 _; (with_reducible repeat (first | refine Z22 ?_ _ | refine Z23 ?_ | refine Z24 ?_ _)); refine blk_far ?_ ao.1 _; (with_reducible repeat (first | refine Z22 ?_ _ | refine Z23 ?_ | refine Z24 ?_ _)); refine blk_far ?_ ao.1 _; (with_reducible repeat (first | refine Z22 ?_ _ | refine Z23 ?_ | refine Z24 ?_ _)); refine blk_far ?_ ao.1 _; (with_reducible repeat (first | refine Z22 ?_ _ | refine Z23 ?_ | refine Z24 ?_ _)); exact ak.1⟩, ⟨by (with_reducible repeat (first | refine Z22 ?_ _ | refine Z23 ?_ | refine Z24 ?_ _)); refine Z26 (cs := #[.slice a9 aK.length ba, .slice bi aR.length bj, .slice br aU.length bu, .slice bP a6.length bQ, .slice b4 bf.length b5, .slice aV ah.length aW]) ?_ 5 _ rfl; (with_reducible repeat (first | refine Z22 ?_ _ | refine Z23 ?_ | refine Z24 ?_ _)); refine Z26 (cs := #[.slice a9 aK.length ba, .slice bi aR.length bj, .slice br aU.length bu, .slice bP a6.length bQ, .slice a7 aj.length a8, .slice aV ah.length aW]) ?_ 4 _ rfl; (with_reducible repeat (first | refine Z22 ?_ _ | refine Z23 ?_ | refine Z24 ?_ _)); refine Z26 (cs := #[.slice a9 aK.length ba, .slice bi aR.length bj, .slice br aU.length bu, .slice bg al.length bh, .slice a7 aj.length a8, .slice aV ah.length aW]) ?_ 3 _ rfl; (with_reducible repeat (first | refine Z22 ?_ _ | refine Z23 ?_ | refine Z24 ?_ _)); refine Z26 (cs := #[.slice a9 aK.length ba, .slice bi aR.length bj, .slice bp am.length bq, .slice bg al.length bh, .slice a7 aj.length a8, .slice aV ah.length aW]) ?_ 2 _ rfl; (with_reducible repeat (first | refine Z22 ?_ _ | refine Z23 ?_ | refine Z24 ?_ _)); refine Z26 (cs := #[.slice a9 aK.length ba, .slice bN an.length bO, .slice bp am.length bq, .slice bg al.length bh, .slice a7 aj.length a8, .slice aV ah.length aW]) ?_ 1 _ rfl; (with_reducible repeat (first | refine Z22 ?_ _ | refine Z23 ?_ | refine Z24 ?_ _)); refine Z26 (cs := #[.slice b2 ap.length b3, .slice bN an.length bO, .slice bp am.length bq, .slice bg al.length bh, .slice a7 aj.length a8, .slice aV ah.length aW]) ?_ 0 _ rfl; (with_reducible repeat (first | refine Z22 ?_ _ | refine Z23 ?_ | refine Z24 ?_ _)); refine blk_far ?_ aq.1 _; (with_reducible repeat (first | refine Z22 ?_ _ | refine Z23 ?_ | refine Z24 ?_ _)); refine blk_far ?_ aq.1 _; (with_reducible repeat (first | refine Z22 ?_ _ | refine Z23 ?_ | refine Z24 ?_ _)); refine blk_far ?_ aq.1 _; (with_reducible repeat (first | refine Z22 ?_ _ | refine Z23 ?_ | refine Z24 ?_ _)); refine blk_far ?_ aq.1 _; (with_reducible repeat (first | refine Z22 ?_ _ | refine Z23 ?_ | refine Z24 ?_ _)); refine blk_far ?_ aq.1 _; (with_reducible repeat (first | refine Z22 ?_ _ | refine Z23 ?_ | refine Z24 ?_ _)); refine blk_far ?_ aq.1 _; (with_reducible repeat (first | refine Z22 ?_ _ | refine Z23 ?_ | refine Z24 ?_ _)); exact ai.1⟩, ⟨Q12⟩⟩
   ·rw [if_neg bT] at H
    have bY : decide (0 < aT) = false := Z34 bT
    clear bT
    simp only [Option.some.injEq, Prod.mk.injEq] at H
    obtain ⟨rfl, rfl, rfl, rfl, rfl, rfl, rfl⟩ := H
    have cX := ay.1
    have cY := ag.1
    have dB := Y6 ai.1
    obtain ⟨cw, cx, rfl⟩ := Z15 aa.1
    have dC := Y6 ak.1
    obtain ⟨cy, cz, rfl⟩ := Z15 ab.1
    obtain ⟨cA, cB, rfl⟩ := Z15 af.1
    obtain ⟨cC, cD, rfl⟩ := Z15 ac.1
    obtain ⟨cE, cF, rfl⟩ := Z15 ad.1
    obtain ⟨cG, cH, rfl⟩ := Z15 ae.1
    go_wp2
    refine bodyPost_ret (results_ct rfl _ _ bc 29 #[.slice cw ap.length cx, .slice cy an.length cz, .slice cA am.length cB, .slice cC al.length cD, .slice cE aj.length cF, .slice cG ah.length cH] (0, 0) _ rfl (Yk (Yv6 ak.1)) Tryz.underlying29 rfl (by kernel_rfl)) rfl ?_
    exact ⟨_, _, _, _, _, _, Q2, Yj (Yf6 aa.1 ak.1) (fun _ hk => ⟨hk.1.1, ⟨hk.1.2.1, ⟨hk.1.2.2.1, hk.1.2.2.2⟩⟩⟩), Yj (Yf6 ab.1 ak.1) (fun _ hk => ⟨hk.1.1, ⟨hk.1.2.1, ⟨hk.1.2.2.1, hk.1.2.2.2⟩⟩⟩), Yj (Yf6 af.1 ak.1) (fun _ hk => trivial), Yj (Yf6 ac.1 ak.1) (fun _ hk => ⟨hk.1.1, ⟨hk.1.2.1, ⟨hk.1.2.2.1, hk.1.2.2.2⟩⟩⟩), Yj (Yf6 ad.1 ak.1) (fun _ hk => ⟨hk.1.1, ⟨hk.1.2.1, ⟨hk.1.2.2.1, hk.1.2.2.2⟩⟩⟩), Yj (Yf6 ae.1 ak.1) (fun _ hk => ⟨hk.1.1, ⟨hk.1.2.1, ⟨hk.1.2.2.1, hk.1.2.2.2⟩⟩⟩), Q12⟩
def spec_l1Cur_one.f (ab : List Int) (ac : Int) (ad : Int) (a1 : Int) : Option (Bool × Int × Int) := (spec_l1Cur_pick.f ab ac ad a1).bind fun aa => (some ((aa.1 == 0), aa.2.1, aa.2.2))
theorem spec_l1Cur_one.calls (g : Nat) (aa : List Int) (ac : Int) (ad : Int) (a1 : Int) (r1 : Bool) (r2 : Int) (r3 : Int) (w0 w : World) (hI : IsS66 w0 w g aa ac ad) (hB : Below w0.heap.size w0 w) (h : spec_l1Cur_one.f aa ac ad a1 = some (r1, r2, r3)) :
  Calls Tryz.prog 76 #[.pointer (some ⟨g, 0, none⟩), .int .i64 a1] w fun e w' => e = .returned (.bool r1) ∧ IsS66 w0 w' g aa r2 r3 ∧ Below w0.heap.size w0 w' ∧ KeepBut w w' g none := by
 have HI0 := Ya hI
 have HK := Ya (KeepBut.refl w g none)
 have HL := Ya hB.size
 clear hI
 have aj := Ya hB.size
 have HB := Ya hB
 clear hB
 have H : ((spec_l1Cur_pick.f aa ac ad a1).bind fun ab => (some ((ab.1 == 0), ab.2.1, ab.2.2))) = some (r1, r2, r3) := h
 clear h
 replace H := YB H
 obtain ⟨⟨ag, ah, ai⟩, A3, H⟩ := H
 dsimp only at H
 simp only [Option.some.injEq, Prod.mk.injEq] at H
 obtain ⟨rfl, rfl, rfl⟩ := H
 go_enter Tryz.func76, Tryz.ntmps76
 go_wp2_with (first | ((with_reducible refine gate_callee (f := 72) rfl ?_); refine Yz 7 Tryz.func72 #[.pointer (some ⟨g, 0, none⟩), .int .i64 a1] ?_; (with_reducible refine (spec_l1Cur_pick.calls g aa ac ad a1 ag ah ai w0 _ ?ae ?af A3.1).mono ?_); (case ae => exact Q1); (case af => exact Q6); rintro e w4 ⟨rfl, hi, hb, hk⟩; refine ⟨_, rfl, ?_⟩; replace HK := Ya (KeepBut.trans Q4 hk (.inl rfl)); replace HB := Ya hb; replace HI0 := Ya hi; (try clear hb hk hi)))
 go_ret
 exact ⟨Q2, Q13, Q15, Q14⟩
def spec_l1Least.f (a0 : Int) (a1 : Int) : Option (Int) := if a0 < a1 then (some a0) else (some a1)
theorem spec_l1Least.calls (a0 : Int) (a1 : Int) (r : Int) (w : World) (h : spec_l1Least.f a0 a1 = some r) :
  Calls Tryz.prog 94 #[.int .i64 a0, .int .i64 a1] w fun e w' => e = .returned (.int .i64 r) ∧ Drawn0 w w' := by
 have H : (if a0 < a1 then (some a0) else (some a1)) = some r := h
 clear h
 by_cases c3 : a0 < a1
 ·rw [if_pos c3] at H
  have aa := Z35 c3
  clear c3
  obtain rfl := Option.some.inj H
  go_enter Tryz.func94, Tryz.ntmps94
  go_wp2
  go_ret
  exact ⟨Q24, Q16⟩
 ·rw [if_neg c3] at H
  have aa := Z34 c3
  clear c3
  obtain rfl := Option.some.inj H
  go_enter Tryz.func94, Tryz.ntmps94
  go_wp2
  go_ret
  exact ⟨Q24, Q16⟩
mutual
def spec_l1Cur_order.l0 : Nat → Int → List Int → Int → List Int → Int → Int → Option (List Int × Int × Int)
 | 0, _, _, _, _, _, _ => none
 | k + 1, x1, x5, x6, ab, ac, ad => (spec_l1Least.f x1 20).bind fun ak => (if x6 < ak then ((spec_l1Cur_pick.f ab ac ad (wrap64 (x6 + 1))).bind fun aa => ((some (([] : List Int) : List Int)).bind fun af => (if 0 ≤ aa.1 then (if aa.1 ≤ (x5.length : Int) then ((some (x5.take (aa.1 : Int).toNat : List Int)).bind fun ag => (if af.length + ag.length < 17592186044416 then ((some (af ++ ag : List Int)).bind fun ah => (if ah.length < 17592186044416 then ((some (ah ++ [x6] : List Int)).bind fun ai => ((some (x5.drop (aa.1 : Int).toNat : List Int)).bind fun aj => (if ai.length + aj.length < 17592186044416 then (spec_l1Cur_order.l0 k x1 (ai ++ aj) (wrap64 (x6 + 1)) ab aa.2.1 aa.2.2) else (none)))) else (none))) else (none))) else (none)) else (none)))) else (if (x5.length : Int) > 0 then ((spec_l1Cur_one.f ab ac ad 25).bind fun ae => (spec_l1Cur_order.j1 k x5 ae.1 ab ae.2.1 ae.2.2)) else (spec_l1Cur_order.j1 k x5 false ab ac ad)))
def spec_l1Cur_order.j1 : Nat → List Int → Bool → List Int → Int → Int → Option (List Int × Int × Int)
 | 0, _, _, _, _, _ => none
 | k + 1, x5, af, ac, ad, ae => if af = true then ((spec_l1Cur_pick.f ac ad ae (x5.length : Int)).bind fun aa => ((spec_l1Cur_among.f ac aa.2.1 aa.2.2 (([(-1), 0, (x5.length : Int), 4611686018427387904] : List Int))).bind fun ab => (if 0 ≤ aa.1 then (if aa.1 < (x5.length : Int) then (some ((x5.set (aa.1 : Int).toNat ab.1), ab.2.1, ab.2.2)) else (none)) else (none)))) else (some (x5, ad, ae))
end
def spec_l1Cur_order.f (k : Nat) (aa : List Int) (ab : Int) (ac : Int) (a1 : Int) : Option (List Int × Int × Int) := spec_l1Cur_order.l0 k a1 ([] : List Int) 0 aa ab ac
theorem spec_l1Cur_order.calls (k : Nat) (g : Nat) (ac : List Int) (a3 : Int) (a4 : Int) (a1 : Int) (r1 : List Int) (r2 : Int) (r3 : Int) (w0 w : World) (hI : IsS66 w0 w g ac a3 a4) (hB : Below w0.heap.size w0 w) (h : spec_l1Cur_order.f k ac a3 a4 a1 = some (r1, r2, r3)) :
  Calls Tryz.prog 77 #[.pointer (some ⟨g, 0, none⟩), .int .i64 a1] w fun e w' => ∃ v0_ : Value, e = .returned (v0_) ∧ Kd.R (Kd.int .i64) 3 w' w.heap.size (fun _ => True) v0_ r1 ∧ IsS66 w0 w' g ac r2 r3 ∧ Below w0.heap.size w0 w' ∧ KeepBut w w' g none := by
 have HI0 := Ya hI
 have HK := Ya (KeepBut.refl w g none)
 have HL := Ya hB.size
 clear hI
 have cp := Ya hB.size
 have HB := Ya hB
 clear hB
 have H : (spec_l1Cur_order.l0 k a1 ([] : List Int) 0 ac a3 a4) = some (r1, r2, r3) := h
 clear h
 have H' := Ya H
 clear H
 go_enter Tryz.func77, Tryz.ntmps77
 go_wp2
 go_loopg [5, 6] k (fun kq v5 v6 w' => ∃ (aa : List Int) (ag : Int) (ae : Int) (af : Int), v6 = .int .i64 ag ∧ Aside0 (spec_l1Cur_order.l0 kq a1 aa ag ac ae af = some (r1, r2, r3)) ∧ Aside0 (kq ≤ k) ∧ Aside0 (Kd.R (Kd.int .i64) 3 w' w.heap.size (fun _ => True) v5 aa) ∧ Aside0 (IsS66 w0 w' g ac ae af) ∧ Aside0 (KeepBut w w' g none) ∧ Aside0 (Below w0.heap.size w0 w'))
 case atStart => exact ⟨(([] : List Int)), (0), (a3), (a4), Q17, H', ⟨Nat.le_refl _⟩, ⟨Q3⟩, ⟨Q13⟩, ⟨Q14⟩, ⟨Q15⟩⟩
 case round =>
  clear H'
  obtain ⟨aa, ag, ae, af, rfl, HA, HK1, HO_5, HI0, HK, HB⟩ := hrel
  cases gk with
  | zero => exact absurd HA.1 (by simp [spec_l1Cur_order.l0])
  | succ k1 =>
   have H := HA.1
   clear HA
   simp only [spec_l1Cur_order.l0] at H
   replace H := YB H
   obtain ⟨a9, A3, H⟩ := H
   by_cases c4 : ag < a9
   ·rw [if_pos c4] at H
    have bi := Z35 c4
    clear c4
    replace H := YB H
    obtain ⟨⟨ab, au, av⟩, A5, H⟩ := H
    dsimp only at H
    obtain ⟨aI, aw⟩ : ∃ y_ : List Int, y_ = (([] : List Int)) := ⟨_, rfl⟩
    replace H : (if 0 ≤ ab then (if ab ≤ (aa.length : Int) then ((some (aa.take (ab : Int).toNat : List Int)).bind fun aj => (if aI.length + aj.length < 17592186044416 then ((some (aI ++ aj : List Int)).bind fun ap => (if ap.length < 17592186044416 then ((some (ap ++ [ag] : List Int)).bind fun ak => ((some (aa.drop (ab : Int).toNat : List Int)).bind fun ad => (if ak.length + ad.length < 17592186044416 then (spec_l1Cur_order.l0 k1 a1 (ak ++ ad) (wrap64 (ag + 1)) ac au av) else (none)))) else (none))) else (none))) else (none)) else (none)) = some (r1, r2, r3) := by first | (rw [aw]; with_reducible exact H) | (have H2_ := (Option.bind_some _ _).symm.trans H; rw [aw]; with_reducible exact H2_) | (have H2_ := (Option.bind_some _ _).symm.trans H; with_reducible exact H2_) | with_reducible exact H | (rw [aw]; exact H) | exact H
    have a7 := Ya aw
    clear aw
    by_cases c6 : 0 ≤ ab
    ·rw [if_pos c6] at H
     have bZ := eq_true c6
     have b0 := Z35 c6
     clear c6
     by_cases c7 : ab ≤ (aa.length : Int)
     ·rw [if_pos c7] at H
      have b1 := eq_true c7
      have b2 := Z35 c7
      have HLEc7 := Ya c7
      clear c7
      obtain ⟨aj, ax⟩ : ∃ y_ : List Int, y_ = (aa.take (ab : Int).toNat) := ⟨_, rfl⟩
      replace H : (if aI.length + aj.length < 17592186044416 then ((some (aI ++ aj : List Int)).bind fun ap => (if ap.length < 17592186044416 then ((some (ap ++ [ag] : List Int)).bind fun ak => ((some (aa.drop (ab : Int).toNat : List Int)).bind fun ad => (if ak.length + ad.length < 17592186044416 then (spec_l1Cur_order.l0 k1 a1 (ak ++ ad) (wrap64 (ag + 1)) ac au av) else (none)))) else (none))) else (none)) = some (r1, r2, r3) := by first | (rw [ax]; with_reducible exact H) | (have H2_ := (Option.bind_some _ _).symm.trans H; rw [ax]; with_reducible exact H2_) | (have H2_ := (Option.bind_some _ _).symm.trans H; with_reducible exact H2_) | with_reducible exact H | (rw [ax]; exact H) | exact H
      have ay := Ya ax
      clear ax
      by_cases c8 : aI.length + aj.length < 17592186044416
      ·rw [if_pos c8] at H
       have LMc8 := Ya c8
       clear c8
       obtain ⟨ap, az⟩ : ∃ y_ : List Int, y_ = (aI ++ aj) := ⟨_, rfl⟩
       replace H : (if ap.length < 17592186044416 then ((some (ap ++ [ag] : List Int)).bind fun ak => ((some (aa.drop (ab : Int).toNat : List Int)).bind fun ad => (if ak.length + ad.length < 17592186044416 then (spec_l1Cur_order.l0 k1 a1 (ak ++ ad) (wrap64 (ag + 1)) ac au av) else (none)))) else (none)) = some (r1, r2, r3) := by first | (rw [az]; with_reducible exact H) | (have H2_ := (Option.bind_some _ _).symm.trans H; rw [az]; with_reducible exact H2_) | (have H2_ := (Option.bind_some _ _).symm.trans H; with_reducible exact H2_) | with_reducible exact H | (rw [az]; exact H) | exact H
       have bj := Ya az
       clear az
       by_cases c9 : ap.length < 17592186044416
       ·rw [if_pos c9] at H
        have LMc9 := Ya c9
        clear c9
        obtain ⟨ak, aA⟩ : ∃ y_ : List Int, y_ = (ap ++ [ag]) := ⟨_, rfl⟩
        replace H : ((some (aa.drop (ab : Int).toNat : List Int)).bind fun ad => (if ak.length + ad.length < 17592186044416 then (spec_l1Cur_order.l0 k1 a1 (ak ++ ad) (wrap64 (ag + 1)) ac au av) else (none))) = some (r1, r2, r3) := by first | (rw [aA]; with_reducible exact H) | (have H2_ := (Option.bind_some _ _).symm.trans H; rw [aA]; with_reducible exact H2_) | (have H2_ := (Option.bind_some _ _).symm.trans H; with_reducible exact H2_) | with_reducible exact H | (rw [aA]; exact H) | exact H
        have bk := Ya aA
        clear aA
        have bQ := eq_true (Z27 Q5 : 0 ≤ ab)
        have bR := eq_true (Z27 Q5 : ab ≤ (aa.length : Int))
        obtain ⟨ad, aB⟩ : ∃ y_ : List Int, y_ = (aa.drop (ab : Int).toNat) := ⟨_, rfl⟩
        replace H : (if ak.length + ad.length < 17592186044416 then (spec_l1Cur_order.l0 k1 a1 (ak ++ ad) (wrap64 (ag + 1)) ac au av) else (none)) = some (r1, r2, r3) := by first | (rw [aB]; with_reducible exact H) | (have H2_ := (Option.bind_some _ _).symm.trans H; rw [aB]; with_reducible exact H2_) | (have H2_ := (Option.bind_some _ _).symm.trans H; with_reducible exact H2_) | with_reducible exact H | (rw [aB]; exact H) | exact H
        have aU := Ya aB
        clear aB
        by_cases bC : ak.length + ad.length < 17592186044416
        ·rw [if_pos bC] at H
         have LMc12 := Ya bC
         clear bC
         obtain ⟨bl, aC⟩ : ∃ y_ : List Int, y_ = (ak ++ ad) := ⟨_, rfl⟩
         replace H : (spec_l1Cur_order.l0 k1 a1 bl (wrap64 (ag + 1)) ac au av) = some (r1, r2, r3) := by first | (rw [aC]; with_reducible exact H) | (have H2_ := (Option.bind_some _ _).symm.trans H; rw [aC]; with_reducible exact H2_) | (have H2_ := (Option.bind_some _ _).symm.trans H; with_reducible exact H2_) | with_reducible exact H | (rw [aC]; exact H) | exact H
         have bm := Ya aC
         clear aC
         have H' := Ya H
         clear H
         go_wp2_with (first | ((with_reducible refine gate_callee (f := 94) rfl ?_); refine Yz 11 Tryz.func94 #[.int .i64 a1, .int .i64 20] ?_; (with_reducible refine (spec_l1Least.calls a1 20 a9 _ A3.1).mono ?_); rintro e w' ⟨rfl, ⟨nd, rfl⟩⟩; refine ⟨_, rfl, ?_⟩) | ((with_reducible refine gate_callee (f := 72) rfl ?_); refine Yz 18 Tryz.func72 #[.pointer (some ⟨g, 0, none⟩), .int .i64 (wrap64 (ag + 1))] ?_; (with_reducible refine (spec_l1Cur_pick.calls g ac ae af (wrap64 (ag + 1)) ab au av w0 _ ?aq ?ar A5.1).mono ?_); (case aq => exact Q1); (case ar => exact Q6); rintro e cq ⟨rfl, hi, hb, hk⟩; refine ⟨_, rfl, ?_⟩; replace HO_5 := YK66 (show IsS66 w0 _ g ac ae af from Q1) (Yr HO_5.1) hk; replace HK := Ya (KeepBut.trans Q4 hk (.inl rfl)); replace HB := Ya hb; replace HI0 := Ya hi; (try clear hb hk hi)) | ((with_reducible refine gate_dst (N := 19) rfl ?_); refine Kd.R_lit (Kd.int .i64) _ 3 ?hg (N := 19) ?hd (xs := ([] : List Int)) (inner := []) (ok := fun _ => True) (okp := fun _ => True) ?hr ?hp (fun _ hk => hk) trivial (Below.refl _ _) (Nat.le_refl _) (by simp) ?_; (case hd => rfl); (case hg => rfl); (case hr => first | (go_simp; done) | (go_simp; rfl)); (case hp => exact (Reps.none _ _)); intro bF cr aQ hb hg_ hnew_; clear hg_ hnew_; (first | rw [← a7.1] at aQ | (simp only [Int.reduceToNat] at aQ; rw [← a7.1] at aQ)); have aK := Ya (Kd.R_lower (YW aQ HO_5) (keep_size (w := w) (g := g) (row := none) Q4)); replace HO_5 := YE HO_5 aQ hb; replace HK := Ya (KeepBut.trans Q4 (KeepBut.of_below hb g none) (.inl rfl)); replace HB := Ya (Z8 Q6 hb); replace HI0 := Ya (IsS66.below Q1 hb); clear hb aQ; obtain ⟨an, ao, rfl⟩ := Z15 HO_5.1; have bG : (ab : Int) ≤ ((aa.length : Int) : Int) := Z27 Q5; obtain ⟨b3, hi016, _, hsz16, _⟩ := info_parts info3; have hroom16 : aa.length ≤ ao := (Kd.R_reads' HO_5.1).2.1; have hC16 : Kd.C (Kd.int .i64) _ an aa.length aa := (Kd.R_reads' HO_5.1).2.2; have hcut16 := cut_to (P := Tryz.prog) 24 3 .i64 Tryz.underlying24 hi016 an aa.length ao ab (Z27 Q5) bG hroom16; have ba := Kd.C_take (m := (ab : Int).toNat) hC16 (by omega); have bb : aj.length = (ab : Int).toNat := (by rw [ay.1, Z29]; omega); rw [← ay.1] at ba; rw [← bb] at hcut16; have aD := Ya ba; have bS := Ya (show aj.length ≤ ao from by omega); clear ba hC16 hroom16 hi016 hsz16; have KY16 := Ya bb; clear bb; have KL16 := Ya (show (ab : Int).toNat ≤ aa.length from by omega); replace bG := eq_true bG) | ((with_reducible refine gate_builtin (b := .append) (xs := #[.tmp 19, .tmp 22]) rfl ?_); at_builtin; refine Kd.R_append_rows (Kd.int .i64) w.heap.size rfl (.tmp 19) (.tmp 22) 24 3 (.int .i64 0) 8 rfl Tryz.underlying24 info3 rfl (by decide) (by omega) bF aI aj _ _ _ (fun k_ => some k_ ≠ (.slice an aa.length ao : Value).ownBlock) (fun _ => False) rfl rfl ?aO ?aR (fun _ _ h => h) (fun _ h => h.elim) ?aF (Below.refl _ _) ?aS ?aL ?_; (case aR => repeat (first | exact (by repeat (first | (with_reducible exact aD.1) | (with_reducible refine Z16 ?_ _) | (with_reducible refine Z17 ?_ _) | (with_reducible refine Z18 ?_) | exact aD.1)) | (with_reducible refine Z16 ?_ _) | (with_reducible refine Z17 ?_ _) | (with_reducible refine Z18 ?_))); (case aF => exact (fun k_ hk => Kd.fresh' (Z14 (Yr HO_5.1)) k_ hk)); (case aO => exact (Yj aK.1 (fun _ hk => hk.2))); (case aS => exact (keep_size (w := w) (g := g) (row := none) Q4)); (case aL => have := LMc8.1; omega); intro bH b4 ho hb hg hat; rw [← bj.1] at ho; replace HB := Ya (below_weaken Q6 HL.1 hb); replace HI0 := Ya (IsS66.grown Q1 hg (IsS66.own_ne HI0.1 aK.1 (by decide))); replace HK := Ya (KeepBut.trans Q4 (KeepBut.of_grown hg g) (Kd.R_base2 aK.1)); replace aD := Ya ((show Kd.C (Kd.int .i64) b4 an aj.length aj from by rw [ay.1]; exact Kd.C_take (m := (ab : Int).toNat) ((Kd.R_reads' (Kd.R_after (ok := (fun _ => True)) (Yr HO_5.1) hg hat)).2.2) KL16.1)); replace HO_5 := Ya (Kd.R_after (ok := (fun _ => True)) (Yr HO_5.1) hg hat); have aM := Ya ho; clear aK; clear ho hb hg hat) | ((with_reducible refine gate_builtin (b := .append) (xs := #[.tmp 24, .tmp 26]) rfl ?_); at_builtin; refine Kd.R_append (Kd.int .i64) w.heap.size rfl (.tmp 24) (.tmp 26) 24 3 (.int .i64 0) 8 rfl Tryz.underlying24 info3 rfl (by decide) (by omega) bH ap ag [.int .i64 ag] (fun k_ => some k_ ≠ (.slice an aa.length ao : Value).ownBlock) (fun _ => False) rfl rfl ?aP (fun _ hk => hk.elim) ?aF ?aO (Below.refl _ _) ?aS ?aL ?_; (case aP => exact rfl); (case aF => exact (fun k_ hk => Kd.fresh' (Z14 (Yr HO_5.1)) k_ hk)); (case aO => exact (Yr aM.1)); (case aS => exact (keep_size (w := w) (g := g) (row := none) Q4)); (case aL => have := LMc9.1; omega); intro bI b5 ho hb hg hat; rw [← bk.1] at ho; replace HB := Ya (below_weaken Q6 HL.1 hb); replace HI0 := Ya (IsS66.grown Q1 hg (IsS66.own_ne HI0.1 aM.1 (by decide))); replace HK := Ya (KeepBut.trans Q4 (KeepBut.of_grown hg g) (Kd.R_base2 aM.1)); replace aD := Ya ((show Kd.C (Kd.int .i64) b5 an aj.length aj from by rw [ay.1]; exact Kd.C_take (m := (ab : Int).toNat) ((Kd.R_reads' (Kd.R_after (ok := (fun _ => True)) (Yr HO_5.1) hg hat)).2.2) KL16.1)); replace HO_5 := Ya (Kd.R_after (ok := (fun _ => True)) (Yr HO_5.1) hg hat); have aN := Ya ho; clear aM; clear ho hb hg hat; have bJ : (ab : Int) ≤ ((aa.length : Int) : Int) := Z27 Q5; obtain ⟨b6, hi020, _, hsz20, _⟩ := info_parts info3; have hroom20 : aa.length ≤ ao := (Kd.R_reads' HO_5.1).2.1; have hC20 : Kd.C (Kd.int .i64) _ an aa.length aa := (Kd.R_reads' HO_5.1).2.2; have bK : (0 : Int) ≤ (ab : Int) := Z27 Q5; have hcut20 := cut_from (P := Tryz.prog) 24 3 .i64 Tryz.underlying24 hi020 1 hsz20 an aa.length ao ab bK bJ; have aV := Kd.C_drop (m := (ab : Int).toNat) (c := ao) hC20 (by omega) hroom20; obtain ⟨bT, hA20⟩ : ∃ A1, A1 = (if ao = (ab : Int).toNat then an else (an : Option Addr).map (·.add ((ab : Int).toNat * 1))) := ⟨_, rfl⟩; obtain ⟨b7, bc⟩ : ∃ c1, c1 = ao - (ab : Int).toNat := ⟨_, rfl⟩; have a5 : ad.length = aa.length - (ab : Int).toNat := (by rw [aU.1, Z28] <;> omega); rw [show (aa).drop (ab : Int).toNat = ad from aU.1.symm] at aV; replace aV : Kd.C (Kd.int .i64) _ bT ad.length ad := (by rw [hA20]; exact aV); rw [← a5, ← hA20, ← bc] at hcut20; have aW := Ya aV; have bU := Ya (show ad.length ≤ b7 from by rw [a5, bc]; exact Nat.sub_le_sub_right hroom20 _); clear aV hC20 hroom20 hi020 hsz20 bc; have KY20 := Ya a5; have KA20 := Ya hA20; clear a5 hA20; have KL20 := Ya (show (ab : Int).toNat ≤ aa.length from by omega); replace bJ := eq_true bJ) | ((with_reducible refine gate_builtin (b := .append) (xs := #[.tmp 28, .tmp 31]) rfl ?_); at_builtin; refine Kd.R_append_rows (Kd.int .i64) w.heap.size rfl (.tmp 28) (.tmp 31) 24 3 (.int .i64 0) 8 rfl Tryz.underlying24 info3 rfl (by decide) (by omega) bI ak ad _ _ _ (fun k_ => some k_ ≠ (.slice an aa.length ao : Value).ownBlock) (fun _ => False) rfl rfl ?aO ?aR (fun _ _ h => h) (fun _ h => h.elim) ?aF (Below.refl _ _) ?aS ?aL ?_; (case aR => repeat (first | exact (by repeat (first | (with_reducible exact aW.1) | (with_reducible refine Z16 ?_ _) | (with_reducible refine Z17 ?_ _) | (with_reducible refine Z18 ?_) | exact aW.1)) | (with_reducible refine Z16 ?_ _) | (with_reducible refine Z17 ?_ _) | (with_reducible refine Z18 ?_))); (case aF => exact (fun k_ hk => Kd.fresh' (Z14 (Yr HO_5.1)) k_ hk)); (case aO => exact (Yr aN.1)); (case aS => exact (keep_size (w := w) (g := g) (row := none) Q4)); (case aL => have := LMc12.1; omega); intro b8 bV ho hb hg hat; rw [← bm.1] at ho; replace HB := Ya (below_weaken Q6 HL.1 hb); replace HI0 := Ya (IsS66.grown Q1 hg (IsS66.own_ne HI0.1 aN.1 (by decide))); replace HK := Ya (KeepBut.trans Q4 (KeepBut.of_grown hg g) (Kd.R_base2 aN.1)); replace aD := Ya ((show Kd.C (Kd.int .i64) bV an aj.length aj from by rw [ay.1]; exact Kd.C_take (m := (ab : Int).toNat) ((Kd.R_reads' (Kd.R_after (ok := (fun _ => True)) (Yr HO_5.1) hg hat)).2.2) KL16.1)); replace aW := Ya ((show Kd.C (Kd.int .i64) bV bT ad.length ad from by rw [aU.1, KA20.1]; exact Kd.C_drop (m := (ab : Int).toNat) (c := ao) ((Kd.R_reads' (Kd.R_after (ok := (fun _ => True)) (Yr HO_5.1) hg hat)).2.2) KL20.1 ((Kd.R_reads' (Kd.R_after (ok := (fun _ => True)) (Yr HO_5.1) hg hat)).2.1))); replace HO_5 := Ya (Kd.R_after (ok := (fun _ => True)) (Yr HO_5.1) hg hat); have bn := Ya ho; clear aN; clear ho hb hg hat))
         go_roundg k1
         case measure => have := HK1.1; omega
         case rel => exact ⟨(bl), (wrap64 (ag + 1)), (au), (av), Q17, H', ⟨Q35⟩, ⟨Yj bn.1 (fun _ hk => trivial)⟩, ⟨Q13⟩, ⟨Q14⟩, ⟨Q15⟩⟩
        ·rw [if_neg bC] at H
         exact absurd H (by simp)
       ·rw [if_neg c9] at H
        exact absurd H (by simp)
      ·rw [if_neg c8] at H
       exact absurd H (by simp)
     ·rw [if_neg c7] at H
      exact absurd H (by simp)
    ·rw [if_neg c6] at H
     exact absurd H (by simp)
   ·rw [if_neg c4] at H
    have bi := Z34 c4
    clear c4
    have bd := Ya H
    clear H
    go_upto_region 9 with (first | ((with_reducible refine gate_callee (f := 94) rfl ?_); refine Yz 11 Tryz.func94 #[.int .i64 a1, .int .i64 20] ?_; (with_reducible refine (spec_l1Least.calls a1 20 a9 _ A3.1).mono ?_); rintro e w' ⟨rfl, ⟨nd, rfl⟩⟩; refine ⟨_, rfl, ?_⟩))
    (try simp only [Act.put, Z0, Z1, Z2])
    go_cut [39] (fun b9 wc => ∃ (kq : Nat) (aJ : Bool) (ah : Int) (ai : Int), b9 = .bool aJ ∧ Aside0 (spec_l1Cur_order.j1 kq aa aJ ac ah ai = some (r1, r2, r3)) ∧ Aside0 (kq ≤ k1) ∧ Aside0 (Kd.R (Kd.int .i64) 3 wc w.heap.size (fun _ => True) u5 aa) ∧ Aside0 (IsS66 w0 wc g ac ah ai) ∧ Aside0 (KeepBut w wc g none) ∧ Aside0 (Below w0.heap.size w0 wc))
    case first =>
     have H := bd.1
     clear bd
     by_cases bh : (aa.length : Int) > 0
     ·rw [if_pos bh] at H
      have aE : decide (0 < (aa.length : Int)) = true := Z35 bh
      have bo : decide (0 < aa.length) = true := Z35 (by omega)
      clear bh
      (first | rw [aE] | (simp only [i64_w, i32_w]; rw [aE]) | skip)
      replace H := YB H
      obtain ⟨⟨bp, bq, br⟩, ca, H⟩ := H
      dsimp only at H
      have H' := Ya H
      clear H
      obtain ⟨cb, cc, rfl⟩ := Z15 HO_5.1
      go_wp2_with (first | (go_at_call 76; (with_reducible refine (spec_l1Cur_one.calls g ac ae af 25 bp bq br w0 _ ?aq ?ar ca.1).mono ?_); (case aq => exact Q1); (case ar => exact Q6); rintro e ct ⟨rfl, hi, hb, hk⟩; replace HO_5 := YK66 (show IsS66 w0 _ g ac ae af from Q1) (Yr HO_5.1) hk; replace HK := Ya (KeepBut.trans Q4 hk (.inl rfl)); replace HB := Ya hb; replace HI0 := Ya hi; (try clear hb hk hi)))
      go_meet
      case rel => exact ⟨_, (bp), (bq), (br), Q17, H', ⟨by have := HK1.1; first | omega | exact Nat.le_refl _⟩, ⟨Q30⟩, ⟨Q13⟩, ⟨Q14⟩, ⟨Q15⟩⟩
     ·rw [if_neg bh] at H
      have aE : decide (0 < (aa.length : Int)) = false := Z34 bh
      have bo : decide (0 < aa.length) = false := Z34 (by omega)
      clear bh
      (first | rw [aE] | (simp only [i64_w, i32_w]; rw [aE]) | skip)
      have H' := Ya H
      clear H
      obtain ⟨cd, ce, rfl⟩ := Z15 HO_5.1
      go_wp2
      go_meet
      case rel => exact ⟨_, (false), (ae), (af), Q17, H', ⟨by have := HK1.1; first | omega | exact Nat.le_refl _⟩, ⟨Q30⟩, ⟨Q13⟩, ⟨Q14⟩, ⟨Q15⟩⟩
    case rest =>
     clear bd
     try clear c4
     try clear bi
     obtain ⟨kq, aJ, ah, ai, rfl, HA, cf, HO_5, HI0, HK, HB⟩ := hcut
     cases kq with
     | zero => exact absurd HA.1 (by simp [spec_l1Cur_order.j1])
     | succ cg =>
      have H := HA.1
      clear HA
      simp only [spec_l1Cur_order.j1] at H
      replace H := YC H
      obtain ⟨rfl, H⟩ | ⟨rfl, H⟩ := H
      ·replace H := YB H
       obtain ⟨⟨al, aX, aY⟩, ch, H⟩ := H
       dsimp only at H
       obtain ⟨aZ, aG⟩ : ∃ y_ : List Int, y_ = (([(-1), 0, (aa.length : Int), 4611686018427387904] : List Int)) := ⟨_, rfl⟩
       replace H : ((spec_l1Cur_among.f ac aX aY aZ).bind fun a0 => (if 0 ≤ al then (if al < (aa.length : Int) then (some ((aa.set (al : Int).toNat a0.1), a0.2.1, a0.2.2)) else (none)) else (none))) = some (r1, r2, r3) := by first | (rw [aG]; with_reducible exact H) | (have H2_ := (Option.bind_some _ _).symm.trans H; rw [aG]; with_reducible exact H2_) | (have H2_ := (Option.bind_some _ _).symm.trans H; with_reducible exact H2_) | with_reducible exact H | (rw [aG]; exact H) | exact H
       have a8 := Ya aG
       clear aG
       replace H := YB H
       obtain ⟨⟨a6, bu, bv⟩, cj, H⟩ := H
       dsimp only at H
       by_cases bD : 0 ≤ al
       ·rw [if_pos bD] at H
        have bW := Z35 bD
        clear bD
        by_cases bE : al < (aa.length : Int)
        ·rw [if_pos bE] at H
         have bX := Z35 bE
         clear bE
         obtain ⟨bw, aH⟩ : ∃ y_ : List Int, y_ = (aa.set (al : Int).toNat a6) := ⟨_, rfl⟩
         replace H : (some (bw, bu, bv)) = some (r1, r2, r3) := by first | (rw [aH]; with_reducible exact H) | (have H2_ := (Option.bind_some _ _).symm.trans H; rw [aH]; with_reducible exact H2_) | (have H2_ := (Option.bind_some _ _).symm.trans H; with_reducible exact H2_) | with_reducible exact H | (rw [aH]; exact H) | exact H
         have bx := Ya aH
         clear aH
         simp only [Option.some.injEq, Prod.mk.injEq] at H
         obtain ⟨rfl, rfl, rfl⟩ := H
         obtain ⟨ck, be, rfl⟩ := Z15 HO_5.1
         go_wp2_with (first | ((with_reducible refine gate_callee (f := 72) rfl ?_); refine Yz 44 Tryz.func72 #[.pointer (some ⟨g, 0, none⟩), .int .i64 (aa.length : Int)] ?_; (with_reducible refine (spec_l1Cur_pick.calls g ac ah ai (aa.length : Int) al aX aY w0 _ ?aq ?ar ch.1).mono ?_); (case aq => exact Q1); (case ar => exact Q6); rintro e cu ⟨rfl, hi, hb, hk⟩; refine ⟨_, rfl, ?_⟩; replace HO_5 := YK66 (show IsS66 w0 _ g ac ah ai from Q1) (Yr HO_5.1) hk; replace HK := Ya (KeepBut.trans Q4 hk (.inl rfl)); replace HB := Ya hb; replace HI0 := Ya hi; (try clear hb hk hi)) | ((with_reducible refine gate_dst (N := 48) rfl ?_); refine Kd.R_lit (Kd.int .i64) _ 3 ?hg (N := 48) ?hd (xs := ([(-1), 0, (aa.length : Int), 4611686018427387904] : List Int)) (inner := [.int .i64 (-1), .int .i64 0, .int .i64 (aa.length : Int), .int .i64 4611686018427387904]) (ok := fun _ => True) (okp := fun _ => True) ?hr ?hp (fun _ hk => hk) trivial (Below.refl _ _) (Nat.le_refl _) (by simp) ?_; (case hd => rfl); (case hg => rfl); (case hr => first | (go_simp; done) | (go_simp; rfl)); (case hp => exact (Reps.one (show Kd.M (Kd.int .i64) _ _ _ (-1) [.int .i64 (-1)] from rfl) (Reps.one (show Kd.M (Kd.int .i64) _ _ _ 0 [.int .i64 0] from rfl) (Reps.one (show Kd.M (Kd.int .i64) _ _ _ (aa.length : Int) [.int .i64 (aa.length : Int)] from rfl) (Reps.one (show Kd.M (Kd.int .i64) _ _ _ 4611686018427387904 [.int .i64 4611686018427387904] from rfl) (Reps.none _ _)))))); intro cl cv aT hb hg_ hnew_; clear hg_ hnew_; (first | rw [← a8.1] at aT | (simp only [Int.reduceToNat] at aT; rw [← a8.1] at aT)); have am := Ya (Kd.R_lower (YW aT HO_5) (keep_size (w := w) (g := g) (row := none) Q4)); replace HO_5 := YE HO_5 aT hb; replace HK := Ya (KeepBut.trans Q4 (KeepBut.of_below hb g none) (.inl rfl)); replace HB := Ya (Z8 Q6 hb); replace HI0 := Ya (IsS66.below Q1 hb); clear hb aT; obtain ⟨bf, bg, rfl⟩ := Z15 am.1) | ((with_reducible refine gate_callee (f := 39) rfl ?_); refine Yz 49 Tryz.func39 #[.pointer (some ⟨g, 0, none⟩), .slice bf aZ.length bg] ?_; (with_reducible refine (spec_l1Cur_among.calls g ac aX aY _ _ aZ a6 bu bv w0 _ ?aq ?ar (YX am) (YL am) ?bz cj.1).mono ?_); (case aq => exact Q1); (case ar => exact Q6); (case bz => exact far_slice (IsS66.own_ne HI0.1 am.1 (by decide))); rintro e bY ⟨rfl, hi, hb, hk⟩; refine ⟨_, rfl, ?_⟩; replace HO_5 := YK66 (show IsS66 w0 _ g ac aX aY from Q1) (Yr HO_5.1) hk; replace am := YK66 (show IsS66 w0 _ g ac aX aY from Q1) (Yr am.1) hk; replace HK := Ya (KeepBut.trans Q4 hk (.inl rfl)); replace HB := Ya hb; replace HI0 := Ya hi; (try clear hb hk hi); have bL : 0 ≤ (al : Int) := Z27 Q5; have bN : (al : Int) < ((aa.length : Int) : Int) := Z27 Q5; obtain ⟨a2, cm, bA, bB, gl33, cl33, HG33⟩ := Kd.R_form HO_5.1 (by omega); (first | cases bA | (injection bA with ea_ en_ ec_; (first | subst ea_ | (injection ea_ with ea_; subst ea_)); subst ec_; clear en_)); have GB33 := Ya bB; have GG33 := Ya HG33; clear bB gl33 HG33; obtain ⟨bO, hf33_0⟩ := Kd.R_celln 0 HO_5.1 (al : Int) bL bN; replace bL := eq_true bL; replace bN := eq_true bN; have n_ := Ya (Z12 (ok' := (fun k_ => some k_ ≠ (.slice bf aZ.length bg : Value).ownBlock)) HO_5.1 (fun k_ hk => hk.2)); clear HO_5; have HO_5 := n_; clear n_; obtain ⟨hy40_, hz40_⟩ := Kd.R_celln 0 HO_5.1 (al : Int) (Z27 Q5) (Z27 Q5); have HP40 := Kd.R_putg HO_5.1 (al : Int) a6) | ((with_reducible refine gate_store (t := 3) (p := 50) rfl ?_); refine store_event (t := 3) (p := 50) (v := ?vo_w41) (w1 := (bY.setCell ⟨a2, (al : Int).toNat, none⟩ (.int .i64 a6))) ?hg ?ho ?hn ?hr ?_; (case ho => rfl); (case hg => rfl); (case hn => rfl); (case hr => first | (go_simp; done) | (go_simp; rfl)); intro bP hw; have hg : bY.grownBy bP (some a2) := (by rw [hw]; exact HP40.2); have hp_ : Kd.R (Kd.int .i64) 3 bP w.heap.size (fun k_ => some k_ ≠ (.slice bf aZ.length bg : Value).ownBlock) (.slice (some ⟨a2, 0, none⟩) aa.length be) bw := (by rw [hw, bx.1]; exact HP40.1); clear HP40; replace HI0 := Ya (IsS66.grown Q1 hg (IsS66.own_ne HI0.1 HO_5.1 (by decide))); replace am := Ya (Kd.R_after (v := (.slice (some ⟨a2, 0, none⟩) aa.length be)) (v1 := (.slice (some ⟨a2, 0, none⟩) aa.length be)) (ok := (fun _ => True)) (Yr am.1) hg (.inl rfl)); replace HB := Ya ((by rw [hw]; exact Z6 (HB.1) (Nat.le_trans HL.1 GB33.1) : Below w0.heap.size w0 bP)); replace HK := Ya (KeepBut.trans Q4 (KeepBut.of_grown hg g) (Kd.R_base2 HO_5.1)); replace HO_5 := Ya hp_; clear hg hw hp_))
         go_ret
         exact ⟨_, Q2, Yj HO_5.1 (fun _ hk => trivial), Q13, Q15, Q14⟩
        ·rw [if_neg bE] at H
         exact absurd H (by simp)
       ·rw [if_neg bD] at H
        exact absurd H (by simp)
      ·simp only [Option.some.injEq, Prod.mk.injEq] at H
       obtain ⟨rfl, rfl, rfl⟩ := H
       go_wp2
       go_ret
       exact ⟨_, Q2, Q30, Q13, Q15, Q14⟩
def spec_raProduct.l0 : Nat → Int → List Int → Int → Int → Option (Int)
 | 0, _, _, _, _ => none
 | k + 1, x3, x6, x7, x8 => if x8 < x7 then (if 0 ≤ x8 then (if x8 < (x6.length : Int) then (if (wrap64 (x3 * (rd x6 x8))) > 1000000 then (some (wrap64 (x3 * (rd x6 x8)))) else (spec_raProduct.l0 k (wrap64 (x3 * (rd x6 x8))) x6 x7 (wrap64 (x8 + 1)))) else (none)) else (none)) else (some x3)
def spec_raProduct.f (k : Nat) (l0 : List Int) : Option (Int) := spec_raProduct.l0 k 1 l0 (l0.length : Int) 0
theorem spec_raProduct.calls (k : Nat) (A0 : Option Addr) (c0 : Nat) (l0 : List Int) (r : Int) (w : World) (aj : Kd.C (Kd.int .i64) w A0 l0.length l0) (ak : l0.length ≤ c0) (h : spec_raProduct.f k l0 = some r) :
  Calls Tryz.prog 83 #[.slice A0 l0.length c0] w fun e w' => e = .returned (.int .i64 r) ∧ Drawn0 w w' := by
 have HR0 := Ya aj
 have an := Ya ak
 clear aj ak
 have H : (spec_raProduct.l0 k 1 l0 (l0.length : Int) 0) = some r := h
 clear h
 have H' := Ya H
 clear H
 go_enter Tryz.func83, Tryz.ntmps83
 go_wp2
 go_loopg [3, 8] k (fun kq v3 v8 w' => ∃ (ab : Int) (aa : Int), v3 = .int .i64 ab ∧ v8 = .int .i64 aa ∧ Aside0 (spec_raProduct.l0 kq ab l0 (l0.length : Int) aa = some r) ∧ Aside0 (kq ≤ k) ∧ Drawn0 w w')
 case atStart => exact ⟨(1), (0), Q17, Q17, H', ⟨Nat.le_refl _⟩, Q16⟩
 case round =>
  clear H'
  obtain ⟨ab, aa, rfl, rfl, HA, HK1, ⟨m1, rfl⟩⟩ := hrel
  cases gk with
  | zero => exact absurd HA.1 (by simp [spec_raProduct.l0])
  | succ k1 =>
   have H := HA.1
   clear HA
   simp only [spec_raProduct.l0] at H
   by_cases c2 : aa < (l0.length : Int)
   ·rw [if_pos c2] at H
    have ah := Z35 c2
    clear c2
    by_cases c3 : 0 ≤ aa
    ·rw [if_pos c3] at H
     have al := Z35 c3
     clear c3
     by_cases c4 : aa < (l0.length : Int)
     ·rw [if_pos c4] at H
      have am := Z35 c4
      clear c4
      by_cases c5 : (wrap64 (ab * (rd l0 aa))) > 1000000
      ·rw [if_pos c5] at H
       have ai : decide (1000000 < (wrap64 (ab * (rd l0 aa)))) = true := Z35 c5
       clear c5
       obtain rfl := Option.some.inj H
       have ac : 0 ≤ (aa : Int) := Z27 Q5
       have ad : aa < (l0.length : Int) := Z27 Q5
       obtain ⟨ag, af, ae⟩ := Kd.at_int HR0.1 aa ac ad
       cases af
       replace ac := eq_true ac
       replace ad := eq_true ad
       go_wp2
       go_ret
       exact ⟨Q24, Q16⟩
      ·rw [if_neg c5] at H
       have ai : decide (1000000 < (wrap64 (ab * (rd l0 aa)))) = false := Z34 c5
       clear c5
       have H' := Ya H
       clear H
       have ac : 0 ≤ (aa : Int) := Z27 Q5
       have ad : aa < (l0.length : Int) := Z27 Q5
       obtain ⟨ag, af, ae⟩ := Kd.at_int HR0.1 aa ac ad
       cases af
       replace ac := eq_true ac
       replace ad := eq_true ad
       go_wp2
       go_roundg k1
       case measure => have := HK1.1; omega
       case rel => exact ⟨(wrap64 (ab * (rd l0 aa))), (wrap64 (aa + 1)), Q17, Q17, H', ⟨Q35⟩, Q16⟩
     ·rw [if_neg c4] at H
      exact absurd H (by simp)
    ·rw [if_neg c3] at H
     exact absurd H (by simp)
   ·rw [if_neg c2] at H
    have ah := Z34 c2
    clear c2
    obtain rfl := Option.some.inj H
    go_wp2
    go_ret
    exact ⟨Q24, Q16⟩
def spec_l1In.f (a0 : Int) (a1 : Int) (a2 : Int) : Option (Bool) := if a0 ≥ a1 then (some (decide (a0 ≤ a2))) else (some false)
theorem spec_l1In.calls (a0 : Int) (a1 : Int) (a2 : Int) (r : Bool) (w : World) (h : spec_l1In.f a0 a1 a2 = some r) :
  Calls Tryz.prog 45 #[.int .i64 a0, .int .i64 a1, .int .i64 a2] w fun e w' => e = .returned (.bool r) ∧ Drawn0 w w' := by
 have H : (if a0 ≥ a1 then (some (decide (a0 ≤ a2))) else (some false)) = some r := h
 clear h
 by_cases c4 : a0 ≥ a1
 ·rw [if_pos c4] at H
  have aa : decide (a1 ≤ a0) = true := Z35 c4
  clear c4
  obtain rfl := Option.some.inj H
  go_enter Tryz.func45, Tryz.ntmps45
  go_wp2
  go_ret
  exact ⟨Q24, Q16⟩
 ·rw [if_neg c4] at H
  have aa : decide (a1 ≤ a0) = false := Z34 c4
  clear c4
  obtain rfl := Option.some.inj H
  go_enter Tryz.func45, Tryz.ntmps45
  go_wp2
  go_ret
  exact ⟨Q24, Q16⟩
def spec_l1All.l0 : Nat → Int → Int → List Int → Int → Int → Option (Bool)
 | 0, _, _, _, _, _ => none
 | k + 1, x1, x2, x9, ac, aa => if aa < ac then (if 0 ≤ aa then (if aa < (x9.length : Int) then ((spec_l1In.f (rd x9 aa) x1 x2).bind fun ab => (if ab = true then (spec_l1All.l0 k x1 x2 x9 ac (wrap64 (aa + 1))) else (some false))) else (none)) else (none)) else (some true)
def spec_l1All.f (k : Nat) (l0 : List Int) (a1 : Int) (a2 : Int) : Option (Bool) := spec_l1All.l0 k a1 a2 l0 (l0.length : Int) 0
theorem spec_l1All.calls (k : Nat) (A0 : Option Addr) (c0 : Nat) (l0 : List Int) (a1 : Int) (a2 : Int) (r : Bool) (w : World) (ah : Kd.C (Kd.int .i64) w A0 l0.length l0) (ai : l0.length ≤ c0) (h : spec_l1All.f k l0 a1 a2 = some r) :
  Calls Tryz.prog 103 #[.slice A0 l0.length c0, .int .i64 a1, .int .i64 a2] w fun e w' => e = .returned (.bool r) ∧ Drawn0 w w' := by
 have HR0 := Ya ah
 have an := Ya ai
 clear ah ai
 have H : (spec_l1All.l0 k a1 a2 l0 (l0.length : Int) 0) = some r := h
 clear h
 have H' := Ya H
 clear H
 go_enter Tryz.func103, Tryz.ntmps103
 go_wp2
 go_loopg [11] k (fun kq aj w' => ∃ (aa : Int), aj = .int .i64 aa ∧ Aside0 (spec_l1All.l0 kq a1 a2 l0 (l0.length : Int) aa = some r) ∧ Aside0 (kq ≤ k) ∧ Drawn0 w w')
 case atStart => exact ⟨(0), Q17, H', ⟨Nat.le_refl _⟩, Q16⟩
 case round =>
  clear H'
  obtain ⟨aa, rfl, HA, HK1, ⟨m1, rfl⟩⟩ := hrel
  cases gk with
  | zero => exact absurd HA.1 (by simp [spec_l1All.l0])
  | succ k1 =>
   have H := HA.1
   clear HA
   simp only [spec_l1All.l0] at H
   by_cases c4 : aa < (l0.length : Int)
   ·rw [if_pos c4] at H
    have ag := Z35 c4
    clear c4
    by_cases c5 : 0 ≤ aa
    ·rw [if_pos c5] at H
     have ak := Z35 c5
     clear c5
     by_cases c6 : aa < (l0.length : Int)
     ·rw [if_pos c6] at H
      have al := Z35 c6
      clear c6
      replace H := YB H
      obtain ⟨am, A7, H⟩ := H
      replace H := YC H
      obtain ⟨rfl, H⟩ | ⟨rfl, H⟩ := H
      ·have H' := Ya H
       clear H
       have ab : 0 ≤ (aa : Int) := Z27 Q5
       have ac : aa < (l0.length : Int) := Z27 Q5
       obtain ⟨af, ae, ad⟩ := Kd.at_int HR0.1 aa ab ac
       cases ae
       replace ab := eq_true ab
       replace ac := eq_true ac
       go_wp2_with (first | ((with_reducible refine gate_callee (f := 45) rfl ?_); refine Yz 18 Tryz.func45 #[.int .i64 (rd l0 aa), .int .i64 a1, .int .i64 a2] ?_; (with_reducible refine (spec_l1In.calls (rd l0 aa) a1 a2 true _ A7.1).mono ?_); rintro e w' ⟨rfl, ⟨nd, rfl⟩⟩; refine ⟨_, rfl, ?_⟩))
       go_roundg k1
       case measure => have := HK1.1; omega
       case rel => exact ⟨(wrap64 (aa + 1)), Q17, H', ⟨Q35⟩, Q16⟩
      ·obtain rfl := Option.some.inj H
       have ab : 0 ≤ (aa : Int) := Z27 Q5
       have ac : aa < (l0.length : Int) := Z27 Q5
       obtain ⟨af, ae, ad⟩ := Kd.at_int HR0.1 aa ab ac
       cases ae
       replace ab := eq_true ab
       replace ac := eq_true ac
       go_wp2_with (first | ((with_reducible refine gate_callee (f := 45) rfl ?_); refine Yz 18 Tryz.func45 #[.int .i64 (rd l0 aa), .int .i64 a1, .int .i64 a2] ?_; (with_reducible refine (spec_l1In.calls (rd l0 aa) a1 a2 false _ A7.1).mono ?_); rintro e w' ⟨rfl, ⟨nd, rfl⟩⟩; refine ⟨_, rfl, ?_⟩))
       go_ret
       exact ⟨Q24, Q16⟩
     ·rw [if_neg c6] at H
      exact absurd H (by simp)
    ·rw [if_neg c5] at H
     exact absurd H (by simp)
   ·rw [if_neg c4] at H
    have ag := Z34 c4
    clear c4
    obtain rfl := Option.some.inj H
    go_wp2
    go_ret
    exact ⟨Q24, Q16⟩
def spec_raBases.f (k : Nat) (l0 : List Int) : Option (Bool) := if (l0.length : Int) ≤ 12 then ((spec_l1All.f k l0 2 12).bind fun aa => (if aa = true then ((spec_raProduct.f k l0).bind fun ab => (some (decide (ab ≤ 1000000)))) else (some false))) else (some false)
theorem spec_raBases.calls (k : Nat) (A0 : Option Addr) (c0 : Nat) (l0 : List Int) (r : Bool) (w : World) (af : Kd.C (Kd.int .i64) w A0 l0.length l0) (ag : l0.length ≤ c0) (h : spec_raBases.f k l0 = some r) :
  Calls Tryz.prog 96 #[.slice A0 l0.length c0] w fun e w' => e = .returned (.bool r) ∧ Drawn0 w w' := by
 have HR0 := Ya af
 have ac := Ya ag
 clear af ag
 have H : (if (l0.length : Int) ≤ 12 then ((spec_l1All.f k l0 2 12).bind fun ab => (if ab = true then ((spec_raProduct.f k l0).bind fun aa => (some (decide (aa ≤ 1000000)))) else (some false))) else (some false)) = some r := h
 clear h
 by_cases c2 : (l0.length : Int) ≤ 12
 ·rw [if_pos c2] at H
  have ad := Z35 c2
  have ae : decide (l0.length ≤ 12) = true := Z35 (by omega)
  clear c2
  replace H := YB H
  obtain ⟨ab, A3, H⟩ := H
  replace H := YC H
  obtain ⟨rfl, H⟩ | ⟨rfl, H⟩ := H
  ·replace H := YB H
   obtain ⟨aa, A5, H⟩ := H
   obtain rfl := Option.some.inj H
   go_enter Tryz.func96, Tryz.ntmps96
   go_wp2_with (first | (go_at_call 103; (with_reducible refine (spec_l1All.calls k _ _ l0 2 12 true _ (Yc HR0.1) ac.1 A3.1).mono ?_); rintro e w' ⟨rfl, ⟨nd, rfl⟩⟩) | (go_at_call 83; (with_reducible refine (spec_raProduct.calls k _ _ l0 aa _ (Yc HR0.1) ac.1 A5.1).mono ?_); rintro e w' ⟨rfl, ⟨nd, rfl⟩⟩))
   go_ret
   exact ⟨Q24, Q16⟩
  ·obtain rfl := Option.some.inj H
   go_enter Tryz.func96, Tryz.ntmps96
   go_wp2_with (first | (go_at_call 103; (with_reducible refine (spec_l1All.calls k _ _ l0 2 12 false _ (Yc HR0.1) ac.1 A3.1).mono ?_); rintro e w' ⟨rfl, ⟨nd, rfl⟩⟩))
   go_ret
   exact ⟨Q24, Q16⟩
 ·rw [if_neg c2] at H
  have ad := Z34 c2
  have ae : decide (l0.length ≤ 12) = false := Z34 (by omega)
  clear c2
  obtain rfl := Option.some.inj H
  go_enter Tryz.func96, Tryz.ntmps96
  go_wp2
  go_ret
  exact ⟨Q24, Q16⟩
def spec_foBases.f (k : Nat) (l0 : List Int) : Option (Bool) := (spec_raBases.f k l0).bind fun aa => (if aa = true then ((spec_raProduct.f k l0).bind fun ab => (some (decide (ab ≤ 5040)))) else (some false))
theorem spec_foBases.calls (k : Nat) (A0 : Option Addr) (c0 : Nat) (l0 : List Int) (r : Bool) (w : World) (ad : Kd.C (Kd.int .i64) w A0 l0.length l0) (ae : l0.length ≤ c0) (h : spec_foBases.f k l0 = some r) :
  Calls Tryz.prog 80 #[.slice A0 l0.length c0] w fun e w' => e = .returned (.bool r) ∧ Drawn0 w w' := by
 have HR0 := Ya ad
 have ac := Ya ae
 clear ad ae
 have H : ((spec_raBases.f k l0).bind fun ab => (if ab = true then ((spec_raProduct.f k l0).bind fun aa => (some (decide (aa ≤ 5040)))) else (some false))) = some r := h
 clear h
 replace H := YB H
 obtain ⟨ab, A2, H⟩ := H
 replace H := YC H
 obtain ⟨rfl, H⟩ | ⟨rfl, H⟩ := H
 ·replace H := YB H
  obtain ⟨aa, A4, H⟩ := H
  obtain rfl := Option.some.inj H
  go_enter Tryz.func80, Tryz.ntmps80
  go_wp2_with (first | ((with_reducible refine gate_callee (f := 96) rfl ?_); refine Yz 4 Tryz.func96 #[.slice A0 l0.length c0] ?_; (with_reducible refine (spec_raBases.calls k _ _ l0 true _ (Yc HR0.1) ac.1 A2.1).mono ?_); rintro e w' ⟨rfl, ⟨nd, rfl⟩⟩; refine ⟨_, rfl, ?_⟩) | (go_at_call 83; (with_reducible refine (spec_raProduct.calls k _ _ l0 aa _ (Yc HR0.1) ac.1 A4.1).mono ?_); rintro e w' ⟨rfl, ⟨nd, rfl⟩⟩))
  go_ret
  exact ⟨Q24, Q16⟩
 ·obtain rfl := Option.some.inj H
  go_enter Tryz.func80, Tryz.ntmps80
  go_wp2_with (first | ((with_reducible refine gate_callee (f := 96) rfl ?_); refine Yz 4 Tryz.func96 #[.slice A0 l0.length c0] ?_; (with_reducible refine (spec_raBases.calls k _ _ l0 false _ (Yc HR0.1) ac.1 A2.1).mono ?_); rintro e w' ⟨rfl, ⟨nd, rfl⟩⟩; refine ⟨_, rfl, ?_⟩))
  go_ret
  exact ⟨Q24, Q16⟩
def spec_foAt.l0 : Nat → Int → List Int → List Int → List Bool → List Int → Option (List Int × List Int × List Bool × List Int × Bool)
 | 0, _, _, _, _, _ => none
 | k + 1, x1, ab, ac, ad, ae => if x1 > 0 then ((spec_foStep.f ab ac ad ae).bind fun aa => (if aa.2.2.2.2 < 0 then (some (([] : List Int), ([] : List Int), ([] : List Bool), ([] : List Int), false)) else (spec_foAt.l0 k (wrap64 (x1 - 1)) aa.1 aa.2.1 aa.2.2.1 aa.2.2.2.1))) else (some (ab, ac, ad, ae, true))
def spec_foAt.f (k : Nat) (l0 : List Int) (a1 : Int) : Option (List Int × List Int × List Bool × List Int × Bool) := (spec_foStart.f k l0).bind fun aa => (spec_foAt.l0 k a1 aa.1 aa.2.1 aa.2.2.1 aa.2.2.2)
theorem spec_foAt.calls (k : Nat) (A0 : Option Addr) (c0 : Nat) (l0 : List Int) (a1 : Int) (r1 : List Int) (r2 : List Int) (r3 : List Bool) (r4 : List Int) (r5 : Bool) (w : World) (bX : Kd.C (Kd.int .i64) w A0 l0.length l0) (bY : l0.length ≤ c0) (h : spec_foAt.f k l0 a1 = some (r1, r2, r3, r4, r5)) :
  Calls Tryz.prog 82 #[.slice A0 l0.length c0, .int .i64 a1] w fun e w' => ∃ v0_ v1_ v2_ v3_ : Value, e = .returned (.tuple #[.agg #[v0_, v1_, v2_, v3_], .bool r5]) ∧ Kd.R (Kd.int .i64) 3 w' w.heap.size (fun k_ => some k_ ≠ (v1_ : Value).ownBlock ∧ some k_ ≠ (v3_ : Value).ownBlock) v0_ r1 ∧ Kd.R (Kd.int .i64) 3 w' w.heap.size (fun k_ => some k_ ≠ (v0_ : Value).ownBlock ∧ some k_ ≠ (v3_ : Value).ownBlock) v1_ r2 ∧ Kd.R Kd.bool 4 w' w.heap.size (fun _ => True) v2_ r3 ∧ Kd.R (Kd.int .i64) 3 w' w.heap.size (fun k_ => some k_ ≠ (v0_ : Value).ownBlock ∧ some k_ ≠ (v1_ : Value).ownBlock) v3_ r4 ∧ Below w.heap.size w w' := by
 have hu27 := Tryz.underlying27
 have HR0 := Ya bX
 have cg := Ya bY
 clear bX bY
 have HB := Ya (Below.refl w.heap.size w)
 have H : ((spec_foStart.f k l0).bind fun aD => (spec_foAt.l0 k a1 aD.1 aD.2.1 aD.2.2.1 aD.2.2.2)) = some (r1, r2, r3, r4, r5) := h
 clear h
 replace H := YB H
 obtain ⟨⟨aL, aN, aT, aZ⟩, A3, H⟩ := H
 dsimp only at H
 have H' := Ya H
 clear H
 go_enter Tryz.func82, Tryz.ntmps82
 go_wp2_with (first | ((with_reducible refine gate_dst (N := 4) rfl ?_); refine Yx 4 YN4 27 ?_; intro aO hg w4 hbox hb; have ag := Ya hbox; have bZ := Yg hg; replace HB := Yh hb; clear hb hbox hg) | ((with_reducible refine gate_callee (f := 74) rfl ?_); refine Yz 10 Tryz.func74 #[.slice A0 l0.length c0] ?_; (with_reducible refine (spec_foStart.calls k _ _ l0 aL aN aT aZ _ (Yc (Z19 HR0.1 HB.1)) cg.1 A3.1).mono ?_); rintro e w5 ⟨ch, cj, ck, cl, rfl, aE, aF, aS, aG, hb⟩; refine ⟨_, rfl, ?_⟩; have aH := Yl aE; have aI := Yl aF; have aJ := Yl aS; have aK := Yl aG; replace ag := Yb ag hb; replace HB := Yh hb; (try clear hb aE aF aS aG)) | ((with_reducible refine gate_dst (N := 6) rfl ?_); refine Yx 6 YN4 27 ?_; intro bi hg w6 hbox hb; replace aH := Yw aH hb; replace aI := Yw aI hb; replace aJ := Yw aJ hb; replace aK := Yw aK hb; have ah := Ya hbox; have b0 := Yg hg; replace HB := Yh hb; have ae := Yn ag hg; have an := Ym ag hg; replace ag := Yb ag hb; clear hb hbox hg; obtain ⟨bv, bw, rfl⟩ := Z15 aH.1; have cm := an.1; have cp := ae.1; obtain ⟨a0, a2, a3, a4, a5, a6, a7, a8⟩ := Y4 ah.1; obtain ⟨a9, ba, rfl⟩ := Z15 aI.1; obtain ⟨bj, bk, rfl⟩ := Z15 aJ.1; obtain ⟨bx, bz, rfl⟩ := Z15 aK.1))
 go_loopg [1] k (fun kq v1 w' => ∃ (aB : Int) (ak : List Int) (aj : List Int) (ai : List Bool) (af : List Int) (ao : Value) (ap : Value) (aA : Value) (aq : Value), v1 = .int .i64 aB ∧ Aside0 (spec_foAt.l0 kq aB ak aj ai af = some (r1, r2, r3, r4, r5)) ∧ Aside0 (kq ≤ k) ∧ Aside0 (Kd.R (Kd.int .i64) 3 w' w.heap.size (fun k_ => some k_ ≠ (ap : Value).ownBlock ∧ some k_ ≠ (aq : Value).ownBlock) ao ak) ∧ Aside0 (Kd.R (Kd.int .i64) 3 w' w.heap.size (fun k_ => some k_ ≠ (ao : Value).ownBlock ∧ some k_ ≠ (aq : Value).ownBlock) ap aj) ∧ Aside0 (Kd.R Kd.bool 4 w' w.heap.size (fun _ => True) aA ai) ∧ Aside0 (Kd.R (Kd.int .i64) 3 w' w.heap.size (fun k_ => some k_ ≠ (ao : Value).ownBlock ∧ some k_ ≠ (ap : Value).ownBlock) aq af) ∧ Aside0 (w'.heap[aO]? = some (.cells #[(.slice none 0 0), (.slice none 0 0), (.slice none 0 0), (.slice none 0 0)] 27 (0, 0))) ∧ Aside0 (w'.heap[bi]? = some (.cells #[ao, ap, aA, aq] 27 (0, 0))) ∧ Aside0 (Below w.heap.size w w'))
 case atStart => exact ⟨(a1), (aL), (aN), (aT), (aZ), (.slice bv aL.length bw), (.slice a9 aN.length ba), (.slice bj aT.length bk), (.slice bx aZ.length bz), Q17, H', ⟨Nat.le_refl _⟩, ⟨Yj (Yf4 aH.1 ah.1) (fun _ hk => ⟨hk.1.1, hk.1.2⟩)⟩, ⟨Yj (Yf4 aI.1 ah.1) (fun _ hk => ⟨hk.1.1, hk.1.2⟩)⟩, ⟨Yj (Yf4 aJ.1 ah.1) (fun _ hk => trivial)⟩, ⟨Yj (Yf4 aK.1 ah.1) (fun _ hk => ⟨hk.1.1, hk.1.2⟩)⟩, ⟨by (with_reducible repeat (first | refine Z22 ?_ _ | refine Z23 ?_ | refine Z24 ?_ _)); refine blk_far ?_ ae.1 _; (with_reducible repeat (first | refine Z22 ?_ _ | refine Z23 ?_ | refine Z24 ?_ _)); refine blk_far ?_ ae.1 _; (with_reducible repeat (first | refine Z22 ?_ _ | refine Z23 ?_ | refine Z24 ?_ _)); refine blk_far ?_ ae.1 _; (with_reducible repeat (first | refine Z22 ?_ _ | refine Z23 ?_ | refine Z24 ?_ _)); refine blk_far ?_ ae.1 _; (with_reducible repeat (first | refine Z22 ?_ _ | refine Z23 ?_ | refine Z24 ?_ _)); exact ag.1⟩, ⟨by (with_reducible repeat (first | refine Z22 ?_ _ | refine Z23 ?_ | refine Z24 ?_ _)); refine Z26 (cs := #[.slice bv aL.length bw, .slice a9 aN.length ba, .slice bj aT.length bk, .slice none 0 0]) ?_ 3 _ rfl; (with_reducible repeat (first | refine Z22 ?_ _ | refine Z23 ?_ | refine Z24 ?_ _)); refine Z26 (cs := #[.slice bv aL.length bw, .slice a9 aN.length ba, .slice none 0 0, .slice none 0 0]) ?_ 2 _ rfl; (with_reducible repeat (first | refine Z22 ?_ _ | refine Z23 ?_ | refine Z24 ?_ _)); refine Z26 (cs := #[.slice bv aL.length bw, .slice none 0 0, .slice none 0 0, .slice none 0 0]) ?_ 1 _ rfl; (with_reducible repeat (first | refine Z22 ?_ _ | refine Z23 ?_ | refine Z24 ?_ _)); refine Z26 (cs := YN4) ?_ 0 _ rfl; (with_reducible repeat (first | refine Z22 ?_ _ | refine Z23 ?_ | refine Z24 ?_ _)); exact ah.1⟩, ⟨Q12⟩⟩
 case round =>
  clear H'
  try clear a0
  try clear a2
  try clear a3
  try clear a4
  try clear a5
  try clear a6
  try clear a7
  try clear a8
  obtain ⟨aB, ak, aj, ai, af, ao, ap, aA, aq, rfl, HA, HK1, aa, ab, ad, ac, ag, ah, HB⟩ := hrel
  cases gk with
  | zero => exact absurd HA.1 (by simp [spec_foAt.l0])
  | succ k1 =>
   have H := HA.1
   clear HA
   simp only [spec_foAt.l0] at H
   by_cases bg : aB > 0
   ·rw [if_pos bg] at H
    have bl : decide (0 < aB) = true := Z35 bg
    clear bg
    replace H := YB H
    obtain ⟨⟨aC, aM, aP, aU, bb⟩, b1, H⟩ := H
    dsimp only at H
    by_cases bh : bb < 0
    ·rw [if_pos bh] at H
     have bm := Z35 bh
     clear bh
     simp only [Option.some.injEq, Prod.mk.injEq] at H
     obtain ⟨rfl, rfl, rfl, rfl, rfl⟩ := H
     have b2 := an.1
     have b3 := ae.1
     have cq := Y4 ah.1
     obtain ⟨bA, bB, rfl⟩ := Z15 aa.1
     obtain ⟨bC, bD, rfl⟩ := Z15 ab.1
     obtain ⟨bE, bF, rfl⟩ := Z15 ad.1
     obtain ⟨bG, bH, rfl⟩ := Z15 ac.1
     go_wp2_with (first | ((with_reducible refine gate_callee (f := 57) rfl ?_); refine Yz 17 Tryz.func57 #[.agg #[.slice bA ak.length bB, .slice bC aj.length bD, .slice bE ai.length bF, .slice bG af.length bH]] ?_; (with_reducible refine (spec_foStep.calls _ _ ak _ _ aj _ _ ai _ _ af aC aM aP aU bb _ (YX aa) (YL aa) (YX ab) (YL ab) (YX ad) (YL ad) (YX ac) (YL ac) b1.1).mono ?_); rintro e cH ⟨bI, bJ, bK, bL, rfl, aE, aF, aS, aG, hb⟩; refine ⟨_, rfl, ?_⟩; have av := Yl (YW (YW (YW aE aa) ab) ac); have aw := Yl (YW (YW (YW aF aa) ab) ac); have ax := Yl (YW aS ad); replace ad := YE ad aS hb; have ay := Yl (YW (YW (YW aG aa) ab) ac); replace aa := YM (YT (YT (YT (YO aa hb) aE) aF) aG); replace ab := YM (YT (YT (YT (YO ab hb) aE) aF) aG); replace ac := YM (YT (YT (YT (YO ac hb) aE) aF) aG); replace ag := Yb ag hb; replace ah := Yb ah hb; replace HB := Yh hb; (try clear hb aE aF aS aG)) | ((with_reducible refine gate_dst (N := 7) rfl ?_); refine Yx 7 YN4 27 ?_; intro bn hg cI hbox hb; replace aa := Yw aa hb; replace ab := Yw ab hb; replace ad := Yw ad hb; replace ac := Yw ac hb; replace av := Yw av hb; replace aw := Yw aw hb; replace ax := Yw ax hb; replace ay := Yw ay hb; have az := Ya hbox; have bo := Yg hg; replace HB := Yh hb; have al := Yn ag hg; have ar := Ym ag hg; replace ag := Yb ag hb; have am := Yn ah hg; have au := Ym ah hg; replace ah := Yb ah hb; clear hb hbox hg; obtain ⟨cr, ct, rfl⟩ := Z15 av.1; have b4 := ar.1; have b5 := al.1; have b6 := au.1; have b7 := am.1; have cu := Y4 az.1; obtain ⟨cv, cw, rfl⟩ := Z15 aw.1; obtain ⟨cx, cy, rfl⟩ := Z15 ax.1; obtain ⟨cz, cA, rfl⟩ := Z15 ay.1; have cB := Y4 ag.1))
     refine bodyPost_ret (results_ct rfl _ _ aO 27 YN4 (0, 0) _ rfl (Yk (Yv4 (Yo4 ag.1 al.1))) Tryz.underlying27 rfl (by kernel_rfl)) rfl ?_
     exact ⟨_, _, _, _, Q2, Q3, Q3, Q3, Q3, Q12⟩
    ·rw [if_neg bh] at H
     have bm := Z34 bh
     clear bh
     have H' := Ya H
     clear H
     have b8 := an.1
     have b9 := ae.1
     have cC := Y4 ah.1
     obtain ⟨bp, bq, rfl⟩ := Z15 aa.1
     obtain ⟨bc, bd, rfl⟩ := Z15 ab.1
     obtain ⟨aV, aW, rfl⟩ := Z15 ad.1
     obtain ⟨aQ, aR, rfl⟩ := Z15 ac.1
     go_wp2_with (first | ((with_reducible refine gate_callee (f := 57) rfl ?_); refine Yz 17 Tryz.func57 #[.agg #[.slice bp ak.length bq, .slice bc aj.length bd, .slice aV ai.length aW, .slice aQ af.length aR]] ?_; (with_reducible refine (spec_foStep.calls _ _ ak _ _ aj _ _ ai _ _ af aC aM aP aU bb _ (YX aa) (YL aa) (YX ab) (YL ab) (YX ad) (YL ad) (YX ac) (YL ac) b1.1).mono ?_); rintro e cJ ⟨bI, bJ, bK, bL, rfl, aE, aF, aS, aG, hb⟩; refine ⟨_, rfl, ?_⟩; have av := Yl (YW (YW (YW aE aa) ab) ac); have aw := Yl (YW (YW (YW aF aa) ab) ac); have ax := Yl (YW aS ad); replace ad := YE ad aS hb; have ay := Yl (YW (YW (YW aG aa) ab) ac); replace aa := YM (YT (YT (YT (YO aa hb) aE) aF) aG); replace ab := YM (YT (YT (YT (YO ab hb) aE) aF) aG); replace ac := YM (YT (YT (YT (YO ac hb) aE) aF) aG); replace ag := Yb ag hb; replace ah := Yb ah hb; replace HB := Yh hb; (try clear hb aE aF aS aG)) | ((with_reducible refine gate_dst (N := 7) rfl ?_); refine Yx 7 YN4 27 ?_; intro bn hg cK hbox hb; replace aa := Yw aa hb; replace ab := Yw ab hb; replace ad := Yw ad hb; replace ac := Yw ac hb; replace av := Yw av hb; replace aw := Yw aw hb; replace ax := Yw ax hb; replace ay := Yw ay hb; have az := Ya hbox; have bo := Yg hg; replace HB := Yh hb; have al := Yn ag hg; have ar := Ym ag hg; replace ag := Yb ag hb; have am := Yn ah hg; have au := Ym ah hg; replace ah := Yb ah hb; clear hb hbox hg; obtain ⟨aX, aY, rfl⟩ := Z15 av.1; have ca := ar.1; have cb := al.1; have cc := au.1; have cd := am.1; have cD := Y4 az.1; obtain ⟨be, bf, rfl⟩ := Z15 aw.1; obtain ⟨br, bu, rfl⟩ := Z15 ax.1; obtain ⟨bN, bO, rfl⟩ := Z15 ay.1; have cE := Y4 ah.1))
     go_roundg k1
     case measure => have := HK1.1; omega
     case rel => exact ⟨(wrap64 (aB - 1)), (aC), (aM), (aP), (aU), (.slice aX aC.length aY), (.slice be aM.length bf), (.slice br aP.length bu), (.slice bN aU.length bO), Q17, H', ⟨Q35⟩, ⟨Yj (Yd4 av.1 az.1 ah.1) (fun _ hk => ⟨hk.1.1.1.1.1.1, hk.1.1.1.1.1.2⟩)⟩, ⟨Yj (Yd4 aw.1 az.1 ah.1) (fun _ hk => ⟨hk.1.1.1.1.1.1, hk.1.1.1.1.1.2⟩)⟩, ⟨Yj (Yd4 ax.1 az.1 ah.1) (fun _ hk => trivial)⟩, ⟨Yj (Yd4 ay.1 az.1 ah.1) (fun _ hk => ⟨hk.1.1.1.1.1.1, hk.1.1.1.1.1.2⟩)⟩, ⟨by (with_reducible repeat (first | refine Z22 ?_ _ | refine Z23 ?_ | refine Z24 ?_ _)); refine blk_far ?_ ae.1 _; (with_reducible repeat (first | refine Z22 ?_ _ | refine Z23 ?_ | refine Z24 ?_ _)); refine blk_far ?_ ae.1 _; (with_reducible repeat (first | refine Z22 ?_ _ | refine Z23 ?_ | refine Z24 ?_ _)); refine blk_far ?_ ae.1 _; (with_reducible repeat (first | refine Z22 ?_ _ | refine Z23 ?_ | refine Z24 ?_ _)); refine blk_far ?_ ae.1 _; (with_reducible repeat (first | refine Z22 ?_ _ | refine Z23 ?_ | refine Z24 ?_ _)); refine blk_far ?_ al.1 _; (with_reducible repeat (first | refine Z22 ?_ _ | refine Z23 ?_ | refine Z24 ?_ _)); refine blk_far ?_ al.1 _; (with_reducible repeat (first | refine Z22 ?_ _ | refine Z23 ?_ | refine Z24 ?_ _)); refine blk_far ?_ al.1 _; (with_reducible repeat (first | refine Z22 ?_ _ | refine Z23 ?_ | refine Z24 ?_ _)); refine blk_far ?_ al.1 _; (with_reducible repeat (first | refine Z22 ?_ _ | refine Z23 ?_ | refine Z24 ?_ _)); exact ag.1⟩, ⟨by (with_reducible repeat (first | refine Z22 ?_ _ | refine Z23 ?_ | refine Z24 ?_ _)); refine Z26 (cs := #[.slice aX aC.length aY, .slice be aM.length bf, .slice br aP.length bu, .slice aQ af.length aR]) ?_ 3 _ rfl; (with_reducible repeat (first | refine Z22 ?_ _ | refine Z23 ?_ | refine Z24 ?_ _)); refine Z26 (cs := #[.slice aX aC.length aY, .slice be aM.length bf, .slice aV ai.length aW, .slice aQ af.length aR]) ?_ 2 _ rfl; (with_reducible repeat (first | refine Z22 ?_ _ | refine Z23 ?_ | refine Z24 ?_ _)); refine Z26 (cs := #[.slice aX aC.length aY, .slice bc aj.length bd, .slice aV ai.length aW, .slice aQ af.length aR]) ?_ 1 _ rfl; (with_reducible repeat (first | refine Z22 ?_ _ | refine Z23 ?_ | refine Z24 ?_ _)); refine Z26 (cs := #[.slice bp ak.length bq, .slice bc aj.length bd, .slice aV ai.length aW, .slice aQ af.length aR]) ?_ 0 _ rfl; (with_reducible repeat (first | refine Z22 ?_ _ | refine Z23 ?_ | refine Z24 ?_ _)); refine blk_far ?_ am.1 _; (with_reducible repeat (first | refine Z22 ?_ _ | refine Z23 ?_ | refine Z24 ?_ _)); refine blk_far ?_ am.1 _; (with_reducible repeat (first | refine Z22 ?_ _ | refine Z23 ?_ | refine Z24 ?_ _)); refine blk_far ?_ am.1 _; (with_reducible repeat (first | refine Z22 ?_ _ | refine Z23 ?_ | refine Z24 ?_ _)); refine blk_far ?_ am.1 _; (with_reducible repeat (first | refine Z22 ?_ _ | refine Z23 ?_ | refine Z24 ?_ _)); exact ah.1⟩, ⟨Q12⟩⟩
   ·rw [if_neg bg] at H
    have bl : decide (0 < aB) = false := Z34 bg
    clear bg
    simp only [Option.some.injEq, Prod.mk.injEq] at H
    obtain ⟨rfl, rfl, rfl, rfl, rfl⟩ := H
    have ce := an.1
    have cf := ae.1
    have cF := Y4 ah.1
    obtain ⟨bP, bQ, rfl⟩ := Z15 aa.1
    have cG := Y4 ag.1
    obtain ⟨bR, bS, rfl⟩ := Z15 ab.1
    obtain ⟨bT, bU, rfl⟩ := Z15 ad.1
    obtain ⟨bV, bW, rfl⟩ := Z15 ac.1
    go_wp2
    refine bodyPost_ret (results_ct rfl _ _ aO 27 #[.slice bP ak.length bQ, .slice bR aj.length bS, .slice bT ai.length bU, .slice bV af.length bW] (0, 0) _ rfl (Yk (Yv4 ag.1)) Tryz.underlying27 rfl (by kernel_rfl)) rfl ?_
    exact ⟨_, _, _, _, Q2, Yj (Yf4 aa.1 ag.1) (fun _ hk => ⟨hk.1.1, hk.1.2⟩), Yj (Yf4 ab.1 ag.1) (fun _ hk => ⟨hk.1.1, hk.1.2⟩), Yj (Yf4 ad.1 ag.1) (fun _ hk => trivial), Yj (Yf4 ac.1 ag.1) (fun _ hk => ⟨hk.1.1, hk.1.2⟩), Q12⟩
mutual
def spec_l1Cur_bases.l0 : Nat → List Int → Int → List Int → Int → Int → Option (List Int × Int × Int)
 | 0, _, _, _, _, _ => none
 | k + 1, x5, x6, ab, ag, ah => if x6 > 0 then ((spec_l1Cur_pick.f ab ag ah 4).bind fun ac => (if x5.length < 17592186044416 then (spec_l1Cur_bases.l0 k (x5 ++ [wrap64 (2 + ac.1)]) (wrap64 (x6 - 1)) ab ac.2.1 ac.2.2) else (none))) else ((spec_l1Cur_pick.f ab ag ah 20).bind fun aa => (if aa.1 = 0 then ((spec_l1Cur_among.f ab aa.2.1 aa.2.2 (([0, 1, (-3), 12, 13] : List Int))).bind fun ad => (if x5.length < 17592186044416 then (some ((x5 ++ [ad.1]), ad.2.1, ad.2.2)) else (none))) else (if aa.1 = 1 then ((spec_l1Cur_pick.f ab aa.2.1 aa.2.2 3).bind fun ae => (spec_l1Cur_bases.l1 k x5 (wrap64 (5 + ae.1)) ab ae.2.1 ae.2.2)) else (if aa.1 = 2 then ((spec_l1Cur_pick.f ab aa.2.1 aa.2.2 2).bind fun af => (spec_l1Cur_bases.l2 k ([] : List Int) (wrap64 (12 + af.1)) ab af.2.1 af.2.2)) else (some (x5, aa.2.1, aa.2.2))))))
def spec_l1Cur_bases.l1 : Nat → List Int → Int → List Int → Int → Int → Option (List Int × Int × Int)
 | 0, _, _, _, _, _ => none
 | k + 1, x5, x7, ac, aa, ab => if x7 > 0 then (if x5.length < 17592186044416 then (spec_l1Cur_bases.l1 k (x5 ++ [12]) (wrap64 (x7 - 1)) ac aa ab) else (none)) else (some (x5, aa, ab))
def spec_l1Cur_bases.l2 : Nat → List Int → Int → List Int → Int → Int → Option (List Int × Int × Int)
 | 0, _, _, _, _, _ => none
 | k + 1, x5, x8, ac, aa, ab => if x8 > 0 then (if x5.length < 17592186044416 then (spec_l1Cur_bases.l2 k (x5 ++ [2]) (wrap64 (x8 - 1)) ac aa ab) else (none)) else (some (x5, aa, ab))
end
def spec_l1Cur_bases.f (k : Nat) (ab : List Int) (ac : Int) (ad : Int) (a1 : Int) : Option (List Int × Int × Int) := (spec_l1Cur_pick.f ab ac ad (wrap64 (a1 + 1))).bind fun aa => (spec_l1Cur_bases.l0 k ([] : List Int) aa.1 ab aa.2.1 aa.2.2)
theorem spec_l1Cur_bases.calls (k : Nat) (g : Nat) (ac : List Int) (ay : Int) (az : Int) (a1 : Int) (r1 : List Int) (r2 : Int) (r3 : Int) (w0 w : World) (hI : IsS66 w0 w g ac ay az) (hB : Below w0.heap.size w0 w) (h : spec_l1Cur_bases.f k ac ay az a1 = some (r1, r2, r3)) :
  Calls Tryz.prog 102 #[.pointer (some ⟨g, 0, none⟩), .int .i64 a1] w fun e w' => ∃ v0_ : Value, e = .returned (v0_) ∧ Kd.R (Kd.int .i64) 3 w' w.heap.size (fun _ => True) v0_ r1 ∧ IsS66 w0 w' g ac r2 r3 ∧ Below w0.heap.size w0 w' ∧ KeepBut w w' g none := by
 have HI0 := Ya hI
 have HK := Ya (KeepBut.refl w g none)
 have HL := Ya hB.size
 clear hI
 have bG := Ya hB.size
 have HB := Ya hB
 clear hB
 have H : ((spec_l1Cur_pick.f ac ay az (wrap64 (a1 + 1))).bind fun aw => (spec_l1Cur_bases.l0 k ([] : List Int) aw.1 ac aw.2.1 aw.2.2)) = some (r1, r2, r3) := h
 clear h
 replace H := YB H
 obtain ⟨⟨aY, aZ, a0⟩, A3, H⟩ := H
 dsimp only at H
 have H' := Ya H
 clear H
 go_enter Tryz.func102, Tryz.ntmps102
 go_wp2_with (first | ((with_reducible refine gate_callee (f := 72) rfl ?_); refine Yz 12 Tryz.func72 #[.pointer (some ⟨g, 0, none⟩), .int .i64 (wrap64 (a1 + 1))] ?_; (with_reducible refine (spec_l1Cur_pick.calls g ac ay az (wrap64 (a1 + 1)) aY aZ a0 w0 _ ?ad ?ae A3.1).mono ?_); (case ad => exact Q1); (case ae => exact Q6); rintro e w4 ⟨rfl, hi, hb, hk⟩; refine ⟨_, rfl, ?_⟩; replace HK := Ya (KeepBut.trans Q4 hk (.inl rfl)); replace HB := Ya hb; replace HI0 := Ya hi; (try clear hb hk hi)))
 go_loopg [5, 6] k (fun kq v5 v6 w' => ∃ (ai : List Int) (al : Int) (aa : Int) (ab : Int), v6 = .int .i64 al ∧ Aside0 (spec_l1Cur_bases.l0 kq ai al ac aa ab = some (r1, r2, r3)) ∧ Aside0 (kq ≤ k) ∧ Aside0 (Kd.R (Kd.int .i64) 3 w' w.heap.size (fun _ => True) v5 ai) ∧ Aside0 (IsS66 w0 w' g ac aa ab) ∧ Aside0 (KeepBut w w' g none) ∧ Aside0 (Below w0.heap.size w0 w'))
 case atStart => exact ⟨(([] : List Int)), (aY), (aZ), (a0), Q17, H', ⟨Nat.le_refl _⟩, ⟨Q3⟩, ⟨Q13⟩, ⟨Q14⟩, ⟨Q15⟩⟩
 case round =>
  clear H'
  obtain ⟨ai, al, aa, ab, rfl, HA, HK1, HO_5, HI0, HK, HB⟩ := hrel
  cases gk with
  | zero => exact absurd HA.1 (by simp [spec_l1Cur_bases.l0])
  | succ k1 =>
   have H := HA.1
   clear HA
   simp only [spec_l1Cur_bases.l0] at H
   by_cases c5 : al > 0
   ·rw [if_pos c5] at H
    have bv : decide (0 < al) = true := Z35 c5
    clear c5
    replace H := YB H
    obtain ⟨⟨aA, aT, aU⟩, A6, H⟩ := H
    dsimp only at H
    by_cases c7 : ai.length < 17592186044416
    ·rw [if_pos c7] at H
     have LMc7 := Ya c7
     clear c7
     obtain ⟨a2, am⟩ : ∃ y_ : List Int, y_ = (ai ++ [wrap64 (2 + aA)]) := ⟨_, rfl⟩
     replace H : (spec_l1Cur_bases.l0 k1 a2 (wrap64 (al - 1)) ac aT aU) = some (r1, r2, r3) := by first | (rw [am]; with_reducible exact H) | (have H2_ := (Option.bind_some _ _).symm.trans H; rw [am]; with_reducible exact H2_) | (have H2_ := (Option.bind_some _ _).symm.trans H; with_reducible exact H2_) | with_reducible exact H | (rw [am]; exact H) | exact H
     have a3 := Ya am
     clear am
     have H' := Ya H
     clear H
     go_wp2_with (first | ((with_reducible refine gate_callee (f := 72) rfl ?_); refine Yz 19 Tryz.func72 #[.pointer (some ⟨g, 0, none⟩), .int .i64 4] ?_; (with_reducible refine (spec_l1Cur_pick.calls g ac aa ab 4 aA aT aU w0 _ ?ad ?ae A6.1).mono ?_); (case ad => exact Q1); (case ae => exact Q6); rintro e w8 ⟨rfl, hi, hb, hk⟩; refine ⟨_, rfl, ?_⟩; replace HO_5 := YK66 (show IsS66 w0 _ g ac aa ab from Q1) (Yr HO_5.1) hk; replace HK := Ya (KeepBut.trans Q4 hk (.inl rfl)); replace HB := Ya hb; replace HI0 := Ya hi; (try clear hb hk hi)) | ((with_reducible refine gate_builtin (b := .append) (xs := #[.tmp 17, .tmp 21]) rfl ?_); at_builtin; refine Kd.R_append (Kd.int .i64) w.heap.size rfl (.tmp 17) (.tmp 21) 24 3 (.int .i64 0) 8 rfl Tryz.underlying24 info3 rfl (by decide) (by omega) u5 ai (wrap64 (2 + aA)) [.int .i64 (wrap64 (2 + aA))] (fun _ => True) (fun _ => False) rfl rfl ?aP (fun _ hk => hk.elim) ?aF ?aO (Below.refl _ _) ?aS ?aL ?_; (case aP => exact rfl); (case aF => exact (fun _ _ => trivial)); (case aO => exact (Yr HO_5.1)); (case aS => exact (keep_size (w := w) (g := g) (row := none) Q4)); (case aL => have := LMc7.1; omega); intro bx w9 ho hb hg hat; rw [← a3.1] at ho; replace HB := Ya (below_weaken Q6 HL.1 hb); replace HI0 := Ya (IsS66.grown Q1 hg (IsS66.own_ne HI0.1 HO_5.1 (by decide))); replace HK := Ya (KeepBut.trans Q4 (KeepBut.of_grown hg g) (Kd.R_base2 HO_5.1)); have a4 := Ya ho; clear HO_5; clear ho hb hg hat))
     go_roundg k1
     case measure => have := HK1.1; omega
     case rel => exact ⟨(a2), (wrap64 (al - 1)), (aT), (aU), Q17, H', ⟨Q35⟩, ⟨by (with_reducible repeat (first | apply Z9 | apply Z10 | apply Z11)); exact a4.1⟩, ⟨Q13⟩, ⟨Q14⟩, ⟨Q15⟩⟩
    ·rw [if_neg c7] at H
     exact absurd H (by simp)
   ·rw [if_neg c5] at H
    have bv : decide (0 < al) = false := Z34 c5
    clear c5
    replace H := YB H
    obtain ⟨⟨af, aj, ak⟩, bp, H⟩ := H
    dsimp only at H
    by_cases aV : af = 0
    ·rw [if_pos aV] at H
     have a5 : (af == 0) = true := beq_iff_eq.mpr aV
     have a6 : (af != 0) = false := bne_eq_false_iff_eq.mpr aV
     clear aV
     obtain ⟨aB, an⟩ : ∃ y_ : List Int, y_ = (([0, 1, (-3), 12, 13] : List Int)) := ⟨_, rfl⟩
     replace H : ((spec_l1Cur_among.f ac aj ak aB).bind fun ax => (if ai.length < 17592186044416 then (some ((ai ++ [ax.1]), ax.2.1, ax.2.2)) else (none))) = some (r1, r2, r3) := by first | (rw [an]; with_reducible exact H) | (have H2_ := (Option.bind_some _ _).symm.trans H; rw [an]; with_reducible exact H2_) | (have H2_ := (Option.bind_some _ _).symm.trans H; with_reducible exact H2_) | with_reducible exact H | (rw [an]; exact H) | exact H
     have aI := Ya an
     clear an
     replace H := YB H
     obtain ⟨⟨aC, a7, a8⟩, bz, H⟩ := H
     dsimp only at H
     by_cases bq : ai.length < 17592186044416
     ·rw [if_pos bq] at H
      have LMc13 := Ya bq
      clear bq
      obtain ⟨bw, ao⟩ : ∃ y_ : List Int, y_ = (ai ++ [aC]) := ⟨_, rfl⟩
      replace H : (some (bw, a7, a8)) = some (r1, r2, r3) := by first | (rw [ao]; with_reducible exact H) | (have H2_ := (Option.bind_some _ _).symm.trans H; rw [ao]; with_reducible exact H2_) | (have H2_ := (Option.bind_some _ _).symm.trans H; with_reducible exact H2_) | with_reducible exact H | (rw [ao]; exact H) | exact H
      have a9 := Ya ao
      clear ao
      simp only [Option.some.injEq, Prod.mk.injEq] at H
      obtain ⟨rfl, rfl, rfl⟩ := H
      go_wp2_with (first | ((with_reducible refine gate_callee (f := 72) rfl ?_); refine Yz 24 Tryz.func72 #[.pointer (some ⟨g, 0, none⟩), .int .i64 20] ?_; (with_reducible refine (spec_l1Cur_pick.calls g ac aa ab 20 af aj ak w0 _ ?ad ?ae bp.1).mono ?_); (case ad => exact Q1); (case ae => exact Q6); rintro e bH ⟨rfl, hi, hb, hk⟩; refine ⟨_, rfl, ?_⟩; replace HO_5 := YK66 (show IsS66 w0 _ g ac aa ab from Q1) (Yr HO_5.1) hk; replace HK := Ya (KeepBut.trans Q4 hk (.inl rfl)); replace HB := Ya hb; replace HI0 := Ya hi; (try clear hb hk hi)) | ((with_reducible refine gate_dst (N := 29) rfl ?_); refine Kd.R_lit (Kd.int .i64) _ 3 ?hg (N := 29) ?hd (xs := ([0, 1, (-3), 12, 13] : List Int)) (inner := [.int .i64 0, .int .i64 1, .int .i64 (-3), .int .i64 12, .int .i64 13]) (ok := fun _ => True) (okp := fun _ => True) ?hr ?hp (fun _ hk => hk) trivial (Below.refl _ _) (Nat.le_refl _) (by simp) ?_; (case hd => rfl); (case hg => rfl); (case hr => first | (go_simp; done) | (go_simp; rfl)); (case hp => exact (Reps.one (show Kd.M (Kd.int .i64) _ _ _ 0 [.int .i64 0] from rfl) (Reps.one (show Kd.M (Kd.int .i64) _ _ _ 1 [.int .i64 1] from rfl) (Reps.one (show Kd.M (Kd.int .i64) _ _ _ (-3) [.int .i64 (-3)] from rfl) (Reps.one (show Kd.M (Kd.int .i64) _ _ _ 12 [.int .i64 12] from rfl) (Reps.one (show Kd.M (Kd.int .i64) _ _ _ 13 [.int .i64 13] from rfl) (Reps.none _ _))))))); intro bA bI av hb hg_ hnew_; clear hg_ hnew_; (first | rw [← aI.1] at av | (simp only [Int.reduceToNat] at av; rw [← aI.1] at av)); have ag := Ya (Kd.R_lower (YW av HO_5) (keep_size (w := w) (g := g) (row := none) Q4)); replace HO_5 := YE HO_5 av hb; replace HK := Ya (KeepBut.trans Q4 (KeepBut.of_below hb g none) (.inl rfl)); replace HB := Ya (Z8 Q6 hb); replace HI0 := Ya (IsS66.below Q1 hb); clear hb av; obtain ⟨ba, bb, rfl⟩ := Z15 ag.1) | ((with_reducible refine gate_callee (f := 39) rfl ?_); refine Yz 30 Tryz.func39 #[.pointer (some ⟨g, 0, none⟩), .slice ba aB.length bb] ?_; (with_reducible refine (spec_l1Cur_among.calls g ac aj ak _ _ aB aC a7 a8 w0 _ ?ad ?ae (YX ag) (YL ag) ?bc bz.1).mono ?_); (case ad => exact Q1); (case ae => exact Q6); (case bc => exact far_slice (IsS66.own_ne HI0.1 ag.1 (by decide))); rintro e bJ ⟨rfl, hi, hb, hk⟩; refine ⟨_, rfl, ?_⟩; replace HO_5 := YK66 (show IsS66 w0 _ g ac aj ak from Q1) (Yr HO_5.1) hk; replace ag := YK66 (show IsS66 w0 _ g ac aj ak from Q1) (Yr ag.1) hk; replace HK := Ya (KeepBut.trans Q4 hk (.inl rfl)); replace HB := Ya hb; replace HI0 := Ya hi; (try clear hb hk hi)) | ((with_reducible refine gate_builtin (b := .append) (xs := #[.tmp 27, .tmp 31]) rfl ?_); at_builtin; refine Kd.R_append (Kd.int .i64) w.heap.size rfl (.tmp 27) (.tmp 31) 24 3 (.int .i64 0) 8 rfl Tryz.underlying24 info3 rfl (by decide) (by omega) u5 ai aC [.int .i64 aC] (fun k_ => some k_ ≠ (.slice ba aB.length bb : Value).ownBlock) (fun _ => False) rfl rfl ?aP (fun _ hk => hk.elim) ?aF ?aO (Below.refl _ _) ?aS ?aL ?_; (case aP => exact rfl); (case aF => exact (fun k_ hk => Kd.fresh' (Z14 (Yr ag.1)) k_ hk)); (case aO => exact (Yj HO_5.1 (fun _ hk => hk.2))); (case aS => exact (keep_size (w := w) (g := g) (row := none) Q4)); (case aL => have := LMc13.1; omega); intro bB bK ho hb hg hat; rw [← a9.1] at ho; replace ag := Ya (Kd.R_after (ok := (fun _ => True)) (Yr ag.1) hg hat); replace HB := Ya (below_weaken Q6 HL.1 hb); replace HI0 := Ya (IsS66.grown Q1 hg (IsS66.own_ne HI0.1 HO_5.1 (by decide))); replace HK := Ya (KeepBut.trans Q4 (KeepBut.of_grown hg g) (Kd.R_base2 HO_5.1)); have bd := Ya ho; clear HO_5; clear ho hb hg hat))
      go_ret
      exact ⟨_, Q2, Yj bd.1 (fun _ hk => trivial), Q13, Q15, Q14⟩
     ·rw [if_neg bq] at H
      exact absurd H (by simp)
    ·rw [if_neg aV] at H
     have a5 : (af == 0) = false := beq_eq_false_iff_ne.mpr aV
     have a6 : (af != 0) = true := bne_iff_ne.mpr aV
     by_cases aJ : af = 1
     ·rw [if_pos aJ] at H
      have aK : (af == 1) = true := beq_iff_eq.mpr aJ
      have aM : (af != 1) = false := bne_eq_false_iff_eq.mpr aJ
      clear aJ
      replace H := YB H
      obtain ⟨⟨be, aD, aE⟩, bC, H⟩ := H
      dsimp only at H
      have H' := Ya H
      clear H
      go_wp2_with (first | ((with_reducible refine gate_callee (f := 72) rfl ?_); refine Yz 24 Tryz.func72 #[.pointer (some ⟨g, 0, none⟩), .int .i64 20] ?_; (with_reducible refine (spec_l1Cur_pick.calls g ac aa ab 20 af aj ak w0 _ ?ad ?ae bp.1).mono ?_); (case ad => exact Q1); (case ae => exact Q6); rintro e bL ⟨rfl, hi, hb, hk⟩; refine ⟨_, rfl, ?_⟩; replace HO_5 := YK66 (show IsS66 w0 _ g ac aa ab from Q1) (Yr HO_5.1) hk; replace HK := Ya (KeepBut.trans Q4 hk (.inl rfl)); replace HB := Ya hb; replace HI0 := Ya hi; (try clear hb hk hi)) | ((with_reducible refine gate_callee (f := 72) rfl ?_); refine Yz 36 Tryz.func72 #[.pointer (some ⟨g, 0, none⟩), .int .i64 3] ?_; (with_reducible refine (spec_l1Cur_pick.calls g ac aj ak 3 be aD aE w0 _ ?ad ?ae bC.1).mono ?_); (case ad => exact Q1); (case ae => exact Q6); rintro e bN ⟨rfl, hi, hb, hk⟩; refine ⟨_, rfl, ?_⟩; replace HO_5 := YK66 (show IsS66 w0 _ g ac aj ak from Q1) (Yr HO_5.1) hk; replace HK := Ya (KeepBut.trans Q4 hk (.inl rfl)); replace HB := Ya hb; replace HI0 := Ya hi; (try clear hb hk hi)))
      go_loopg [5, 7] k1 (fun kq v5 v7 w' => ∃ (ah : List Int) (ap : Int), v7 = .int .i64 ap ∧ Aside0 (spec_l1Cur_bases.l1 kq ah ap ac aD aE = some (r1, r2, r3)) ∧ Aside0 (kq ≤ k1) ∧ Aside0 (Kd.R (Kd.int .i64) 3 w' w.heap.size (fun _ => True) v5 ah) ∧ Aside0 (IsS66 w0 w' g ac aD aE) ∧ Aside0 (KeepBut w w' g none) ∧ Aside0 (Below w0.heap.size w0 w'))
      case atStart => exact ⟨(ai), (wrap64 (5 + be)), Q17, H', ⟨Nat.le_refl _⟩, ⟨Q30⟩, ⟨Q13⟩, ⟨Q14⟩, ⟨Q15⟩⟩
      case round =>
       clear H'
       try clear aJ
       try clear aK
       try clear aM
       obtain ⟨ah, ap, rfl, HA, bf, HO_5, HI0, HK, HB⟩ := hrel
       cases gk with
       | zero => exact absurd HA.1 (by simp [spec_l1Cur_bases.l1])
       | succ k2 =>
        have H := HA.1
        clear HA
        simp only [spec_l1Cur_bases.l1] at H
        by_cases aW : ap > 0
        ·rw [if_pos aW] at H
         have bg : decide (0 < ap) = true := Z35 aW
         clear aW
         by_cases br : ah.length < 17592186044416
         ·rw [if_pos br] at H
          have LMc25 := Ya br
          clear br
          obtain ⟨bh, aq⟩ : ∃ y_ : List Int, y_ = (ah ++ [12]) := ⟨_, rfl⟩
          replace H : (spec_l1Cur_bases.l1 k2 bh (wrap64 (ap - 1)) ac aD aE) = some (r1, r2, r3) := by first | (rw [aq]; with_reducible exact H) | (have H2_ := (Option.bind_some _ _).symm.trans H; rw [aq]; with_reducible exact H2_) | (have H2_ := (Option.bind_some _ _).symm.trans H; with_reducible exact H2_) | with_reducible exact H | (rw [aq]; exact H) | exact H
          have bi := Ya aq
          clear aq
          have H' := Ya H
          clear H
          go_wp2_with (first | ((with_reducible refine gate_builtin (b := .append) (xs := #[.tmp 42, .tmp 43]) rfl ?_); at_builtin; refine Kd.R_append (Kd.int .i64) w.heap.size rfl (.tmp 42) (.tmp 43) 24 3 (.int .i64 0) 8 rfl Tryz.underlying24 info3 rfl (by decide) (by omega) u5 ah 12 [.int .i64 12] (fun _ => True) (fun _ => False) rfl rfl ?aP (fun _ hk => hk.elim) ?aF ?aO (Below.refl _ _) ?aS ?aL ?_; (case aP => exact rfl); (case aF => exact (fun _ _ => trivial)); (case aO => exact (Yr HO_5.1)); (case aS => exact (keep_size (w := w) (g := g) (row := none) Q4)); (case aL => have := LMc25.1; omega); intro bD bO ho hb hg hat; rw [← bi.1] at ho; replace HB := Ya (below_weaken Q6 HL.1 hb); replace HI0 := Ya (IsS66.grown Q1 hg (IsS66.own_ne HI0.1 HO_5.1 (by decide))); replace HK := Ya (KeepBut.trans Q4 (KeepBut.of_grown hg g) (Kd.R_base2 HO_5.1)); have bj := Ya ho; clear HO_5; clear ho hb hg hat))
          go_roundg k2
          case measure => have := HK1.1; have := bf.1; omega
          case rel => exact ⟨(bh), (wrap64 (ap - 1)), Q17, H', ⟨by have := HK1.1; have := bf.1; omega⟩, ⟨by (with_reducible repeat (first | apply Z9 | apply Z10 | apply Z11)); exact bj.1⟩, ⟨Q13⟩, ⟨Q14⟩, ⟨Q15⟩⟩
         ·rw [if_neg br] at H
          exact absurd H (by simp)
        ·rw [if_neg aW] at H
         have bg : decide (0 < ap) = false := Z34 aW
         clear aW
         simp only [Option.some.injEq, Prod.mk.injEq] at H
         obtain ⟨rfl, rfl, rfl⟩ := H
         go_wp2
         go_ret
         exact ⟨_, Q2, Q30, Q13, Q15, Q14⟩
     ·rw [if_neg aJ] at H
      have aK : (af == 1) = false := beq_eq_false_iff_ne.mpr aJ
      have aM : (af != 1) = true := bne_iff_ne.mpr aJ
      by_cases aN : af = 2
      ·rw [if_pos aN] at H
       have aQ : (af == 2) = true := beq_iff_eq.mpr aN
       have aR : (af != 2) = false := bne_eq_false_iff_eq.mpr aN
       clear aN
       replace H := YB H
       obtain ⟨⟨bk, aG, aH⟩, bE, H⟩ := H
       dsimp only at H
       have H' := Ya H
       clear H
       go_wp2_with (first | ((with_reducible refine gate_callee (f := 72) rfl ?_); refine Yz 24 Tryz.func72 #[.pointer (some ⟨g, 0, none⟩), .int .i64 20] ?_; (with_reducible refine (spec_l1Cur_pick.calls g ac aa ab 20 af aj ak w0 _ ?ad ?ae bp.1).mono ?_); (case ad => exact Q1); (case ae => exact Q6); rintro e bP ⟨rfl, hi, hb, hk⟩; refine ⟨_, rfl, ?_⟩; replace HO_5 := YK66 (show IsS66 w0 _ g ac aa ab from Q1) (Yr HO_5.1) hk; replace HK := Ya (KeepBut.trans Q4 hk (.inl rfl)); replace HB := Ya hb; replace HI0 := Ya hi; (try clear hb hk hi)) | ((with_reducible refine gate_callee (f := 72) rfl ?_); refine Yz 48 Tryz.func72 #[.pointer (some ⟨g, 0, none⟩), .int .i64 2] ?_; (with_reducible refine (spec_l1Cur_pick.calls g ac aj ak 2 bk aG aH w0 _ ?ad ?ae bE.1).mono ?_); (case ad => exact Q1); (case ae => exact Q6); rintro e bQ ⟨rfl, hi, hb, hk⟩; refine ⟨_, rfl, ?_⟩; replace HO_5 := YK66 (show IsS66 w0 _ g ac aj ak from Q1) (Yr HO_5.1) hk; replace HK := Ya (KeepBut.trans Q4 hk (.inl rfl)); replace HB := Ya hb; replace HI0 := Ya hi; (try clear hb hk hi)))
       go_loopg [5, 8] k1 (fun kq v5 v8 w' => ∃ (ah : List Int) (ar : Int), v8 = .int .i64 ar ∧ Aside0 (spec_l1Cur_bases.l2 kq ah ar ac aG aH = some (r1, r2, r3)) ∧ Aside0 (kq ≤ k1) ∧ Aside0 (Kd.R (Kd.int .i64) 3 w' w.heap.size (fun _ => True) v5 ah) ∧ Aside0 (IsS66 w0 w' g ac aG aH) ∧ Aside0 (KeepBut w w' g none) ∧ Aside0 (Below w0.heap.size w0 w'))
       case atStart => exact ⟨(([] : List Int)), (wrap64 (12 + bk)), Q17, H', ⟨Nat.le_refl _⟩, ⟨Q3⟩, ⟨Q13⟩, ⟨Q14⟩, ⟨Q15⟩⟩
       case round =>
        clear H'
        try clear aN
        try clear aQ
        try clear aR
        obtain ⟨ah, ar, rfl, HA, bf, HO_5, HI0, HK, HB⟩ := hrel
        cases gk with
        | zero => exact absurd HA.1 (by simp [spec_l1Cur_bases.l2])
        | succ k2 =>
         have H := HA.1
         clear HA
         simp only [spec_l1Cur_bases.l2] at H
         by_cases aX : ar > 0
         ·rw [if_pos aX] at H
          have bl : decide (0 < ar) = true := Z35 aX
          clear aX
          by_cases bu : ah.length < 17592186044416
          ·rw [if_pos bu] at H
           have LMc32 := Ya bu
           clear bu
           obtain ⟨bm, au⟩ : ∃ y_ : List Int, y_ = (ah ++ [2]) := ⟨_, rfl⟩
           replace H : (spec_l1Cur_bases.l2 k2 bm (wrap64 (ar - 1)) ac aG aH) = some (r1, r2, r3) := by first | (rw [au]; with_reducible exact H) | (have H2_ := (Option.bind_some _ _).symm.trans H; rw [au]; with_reducible exact H2_) | (have H2_ := (Option.bind_some _ _).symm.trans H; with_reducible exact H2_) | with_reducible exact H | (rw [au]; exact H) | exact H
           have bn := Ya au
           clear au
           have H' := Ya H
           clear H
           go_wp2_with (first | ((with_reducible refine gate_builtin (b := .append) (xs := #[.tmp 54, .tmp 55]) rfl ?_); at_builtin; refine Kd.R_append (Kd.int .i64) w.heap.size rfl (.tmp 54) (.tmp 55) 24 3 (.int .i64 0) 8 rfl Tryz.underlying24 info3 rfl (by decide) (by omega) u5 ah 2 [.int .i64 2] (fun _ => True) (fun _ => False) rfl rfl ?aP (fun _ hk => hk.elim) ?aF ?aO (Below.refl _ _) ?aS ?aL ?_; (case aP => exact rfl); (case aF => exact (fun _ _ => trivial)); (case aO => exact (Yr HO_5.1)); (case aS => exact (keep_size (w := w) (g := g) (row := none) Q4)); (case aL => have := LMc32.1; omega); intro bF bR ho hb hg hat; rw [← bn.1] at ho; replace HB := Ya (below_weaken Q6 HL.1 hb); replace HI0 := Ya (IsS66.grown Q1 hg (IsS66.own_ne HI0.1 HO_5.1 (by decide))); replace HK := Ya (KeepBut.trans Q4 (KeepBut.of_grown hg g) (Kd.R_base2 HO_5.1)); have bo := Ya ho; clear HO_5; clear ho hb hg hat))
           go_roundg k2
           case measure => have := HK1.1; have := bf.1; omega
           case rel => exact ⟨(bm), (wrap64 (ar - 1)), Q17, H', ⟨by have := HK1.1; have := bf.1; omega⟩, ⟨by (with_reducible repeat (first | apply Z9 | apply Z10 | apply Z11)); exact bo.1⟩, ⟨Q13⟩, ⟨Q14⟩, ⟨Q15⟩⟩
          ·rw [if_neg bu] at H
           exact absurd H (by simp)
         ·rw [if_neg aX] at H
          have bl : decide (0 < ar) = false := Z34 aX
          clear aX
          simp only [Option.some.injEq, Prod.mk.injEq] at H
          obtain ⟨rfl, rfl, rfl⟩ := H
          go_wp2
          go_ret
          exact ⟨_, Q2, Q30, Q13, Q15, Q14⟩
      ·rw [if_neg aN] at H
       have aQ : (af == 2) = false := beq_eq_false_iff_ne.mpr aN
       have aR : (af != 2) = true := bne_iff_ne.mpr aN
       simp only [Option.some.injEq, Prod.mk.injEq] at H
       obtain ⟨rfl, rfl, rfl⟩ := H
       go_wp2_with (first | ((with_reducible refine gate_callee (f := 72) rfl ?_); refine Yz 24 Tryz.func72 #[.pointer (some ⟨g, 0, none⟩), .int .i64 20] ?_; (with_reducible refine (spec_l1Cur_pick.calls g ac aa ab 20 af aj ak w0 _ ?ad ?ae bp.1).mono ?_); (case ad => exact Q1); (case ae => exact Q6); rintro e bS ⟨rfl, hi, hb, hk⟩; refine ⟨_, rfl, ?_⟩; replace HO_5 := YK66 (show IsS66 w0 _ g ac aa ab from Q1) (Yr HO_5.1) hk; replace HK := Ya (KeepBut.trans Q4 hk (.inl rfl)); replace HB := Ya hb; replace HI0 := Ya hi; (try clear hb hk hi)))
       go_ret
       exact ⟨_, Q2, Q30, Q13, Q15, Q14⟩
def spec_l1Cur_small.l0 : Nat → List Int → Int → List Int → Int → Int → Option (List Int × Int × Int)
 | 0, _, _, _, _, _ => none
 | k + 1, x3, x4, ac, ae, af => if x4 > 0 then ((spec_l1Cur_pick.f ac ae af 3).bind fun ad => (if x3.length < 17592186044416 then (spec_l1Cur_small.l0 k (x3 ++ [wrap64 (2 + ad.1)]) (wrap64 (x4 - 1)) ac ad.2.1 ad.2.2) else (none))) else ((spec_l1Cur_one.f ac ae af 30).bind fun aa => (if aa.1 = true then (some ((([2, 3, 4, 5, 6, 7] : List Int)), aa.2.1, aa.2.2)) else ((spec_l1Cur_one.f ac aa.2.1 aa.2.2 30).bind fun ab => (if ab.1 = true then (some ((([12, 12, 12, 3] : List Int)), ab.2.1, ab.2.2)) else (some (x3, ab.2.1, ab.2.2))))))
def spec_l1Cur_small.f (k : Nat) (ad : List Int) (ae : Int) (af : Int) : Option (List Int × Int × Int) := (spec_l1Cur_one.f ad ae af 20).bind fun aa => (if aa.1 = true then ((spec_l1Cur_bases.f k ad aa.2.1 aa.2.2 6).bind fun ab => (some (ab.1, ab.2.1, ab.2.2))) else ((spec_l1Cur_pick.f ad aa.2.1 aa.2.2 5).bind fun ac => (spec_l1Cur_small.l0 k ([] : List Int) ac.1 ad ac.2.1 ac.2.2)))
theorem spec_l1Cur_small.calls (k : Nat) (g : Nat) (ae : List Int) (ap : Int) (aq : Int) (r1 : List Int) (r2 : Int) (r3 : Int) (w0 w : World) (hI : IsS66 w0 w g ae ap aq) (hB : Below w0.heap.size w0 w) (h : spec_l1Cur_small.f k ae ap aq = some (r1, r2, r3)) :
  Calls Tryz.prog 95 #[.pointer (some ⟨g, 0, none⟩)] w fun e w' => ∃ v0_ : Value, e = .returned (v0_) ∧ Kd.R (Kd.int .i64) 3 w' w.heap.size (fun _ => True) v0_ r1 ∧ IsS66 w0 w' g ae r2 r3 ∧ Below w0.heap.size w0 w' ∧ KeepBut w w' g none := by
 have HI0 := Ya hI
 have HK := Ya (KeepBut.refl w g none)
 have HL := Ya hB.size
 clear hI
 have ba := Ya hB.size
 have HB := Ya hB
 clear hB
 have H : ((spec_l1Cur_one.f ae ap aq 20).bind fun af => (if af.1 = true then ((spec_l1Cur_bases.f k ae af.2.1 af.2.2 6).bind fun ar => (some (ar.1, ar.2.1, ar.2.2))) else ((spec_l1Cur_pick.f ae af.2.1 af.2.2 5).bind fun au => (spec_l1Cur_small.l0 k ([] : List Int) au.1 ae au.2.1 au.2.2)))) = some (r1, r2, r3) := h
 clear h
 replace H := YB H
 obtain ⟨⟨a2, av, aw⟩, A2, H⟩ := H
 dsimp only at H
 replace H := YC H
 obtain ⟨rfl, H⟩ | ⟨rfl, H⟩ := H
 ·replace H := YB H
  obtain ⟨⟨aU, aV, aW⟩, A4, H⟩ := H
  dsimp only at H
  simp only [Option.some.injEq, Prod.mk.injEq] at H
  obtain ⟨rfl, rfl, rfl⟩ := H
  go_enter Tryz.func95, Tryz.ntmps95
  go_wp2_with (first | ((with_reducible refine gate_callee (f := 76) rfl ?_); refine Yz 6 Tryz.func76 #[.pointer (some ⟨g, 0, none⟩), .int .i64 20] ?_; (with_reducible refine (spec_l1Cur_one.calls g ae ap aq 20 true av aw w0 _ ?aa ?ab A2.1).mono ?_); (case aa => exact Q1); (case ab => exact Q6); rintro e w5 ⟨rfl, hi, hb, hk⟩; refine ⟨_, rfl, ?_⟩; replace HK := Ya (KeepBut.trans Q4 hk (.inl rfl)); replace HB := Ya hb; replace HI0 := Ya hi; (try clear hb hk hi)) | ((with_reducible refine gate_callee (f := 102) rfl ?_); refine Yz 8 Tryz.func102 #[.pointer (some ⟨g, 0, none⟩), .int .i64 6] ?_; (with_reducible refine (spec_l1Cur_bases.calls k g ae av aw 6 aU aV aW w0 _ ?aa ?ab A4.1).mono ?_); (case aa => exact Q1); (case ab => exact Q6); rintro e w6 ⟨a3, rfl, a0, hi, hb, hk⟩; refine ⟨_, rfl, ?_⟩; have aE := Ya (Kd.R_lower a0 (keep_size (w := w) (g := g) (row := none) Q4)); replace HK := Ya (KeepBut.trans Q4 hk (.inl rfl)); replace HB := Ya hb; replace HI0 := Ya hi; (try clear hb hk hi a0)))
  go_ret
  exact ⟨_, Q2, by (with_reducible repeat (first | apply Z9 | apply Z10 | apply Z11)); exact aE.1, Q13, Q15, Q14⟩
 ·replace H := YB H
  obtain ⟨⟨aG, aH, aI⟩, A7, H⟩ := H
  dsimp only at H
  have H' := Ya H
  clear H
  go_enter Tryz.func95, Tryz.ntmps95
  go_wp2_with (first | ((with_reducible refine gate_callee (f := 76) rfl ?_); refine Yz 6 Tryz.func76 #[.pointer (some ⟨g, 0, none⟩), .int .i64 20] ?_; (with_reducible refine (spec_l1Cur_one.calls g ae ap aq 20 false av aw w0 _ ?aa ?ab A2.1).mono ?_); (case aa => exact Q1); (case ab => exact Q6); rintro e w8 ⟨rfl, hi, hb, hk⟩; refine ⟨_, rfl, ?_⟩; replace HK := Ya (KeepBut.trans Q4 hk (.inl rfl)); replace HB := Ya hb; replace HI0 := Ya hi; (try clear hb hk hi)) | ((with_reducible refine gate_callee (f := 72) rfl ?_); refine Yz 10 Tryz.func72 #[.pointer (some ⟨g, 0, none⟩), .int .i64 5] ?_; (with_reducible refine (spec_l1Cur_pick.calls g ae av aw 5 aG aH aI w0 _ ?aa ?ab A7.1).mono ?_); (case aa => exact Q1); (case ab => exact Q6); rintro e w9 ⟨rfl, hi, hb, hk⟩; refine ⟨_, rfl, ?_⟩; replace HK := Ya (KeepBut.trans Q4 hk (.inl rfl)); replace HB := Ya hb; replace HI0 := Ya hi; (try clear hb hk hi)))
  go_loopg [3, 4] k (fun kq v3 v4 w' => ∃ (am : List Int) (ag : Int) (ac : Int) (ad : Int), v4 = .int .i64 ag ∧ Aside0 (spec_l1Cur_small.l0 kq am ag ae ac ad = some (r1, r2, r3)) ∧ Aside0 (kq ≤ k) ∧ Aside0 (Kd.R (Kd.int .i64) 3 w' w.heap.size (fun _ => True) v3 am) ∧ Aside0 (IsS66 w0 w' g ae ac ad) ∧ Aside0 (KeepBut w w' g none) ∧ Aside0 (Below w0.heap.size w0 w'))
  case atStart => exact ⟨(([] : List Int)), (aG), (aH), (aI), Q17, H', ⟨Nat.le_refl _⟩, ⟨Q3⟩, ⟨Q13⟩, ⟨Q14⟩, ⟨Q15⟩⟩
  case round =>
   clear H'
   obtain ⟨am, ag, ac, ad, rfl, HA, HK1, HO_3, HI0, HK, HB⟩ := hrel
   cases gk with
   | zero => exact absurd HA.1 (by simp [spec_l1Cur_small.l0])
   | succ k1 =>
    have H := HA.1
    clear HA
    simp only [spec_l1Cur_small.l0] at H
    by_cases c10 : ag > 0
    ·rw [if_pos c10] at H
     have aJ : decide (0 < ag) = true := Z35 c10
     clear c10
     replace H := YB H
     obtain ⟨⟨ax, aA, aB⟩, a4, H⟩ := H
     dsimp only at H
     by_cases aT : am.length < 17592186044416
     ·rw [if_pos aT] at H
      have LMc12 := Ya aT
      clear aT
      obtain ⟨aK, ah⟩ : ∃ y_ : List Int, y_ = (am ++ [wrap64 (2 + ax)]) := ⟨_, rfl⟩
      replace H : (spec_l1Cur_small.l0 k1 aK (wrap64 (ag - 1)) ae aA aB) = some (r1, r2, r3) := by first | (rw [ah]; with_reducible exact H) | (have H2_ := (Option.bind_some _ _).symm.trans H; rw [ah]; with_reducible exact H2_) | (have H2_ := (Option.bind_some _ _).symm.trans H; with_reducible exact H2_) | with_reducible exact H | (rw [ah]; exact H) | exact H
      have aM := Ya ah
      clear ah
      have H' := Ya H
      clear H
      go_wp2_with (first | ((with_reducible refine gate_callee (f := 72) rfl ?_); refine Yz 17 Tryz.func72 #[.pointer (some ⟨g, 0, none⟩), .int .i64 3] ?_; (with_reducible refine (spec_l1Cur_pick.calls g ae ac ad 3 ax aA aB w0 _ ?aa ?ab a4.1).mono ?_); (case aa => exact Q1); (case ab => exact Q6); rintro e bb ⟨rfl, hi, hb, hk⟩; refine ⟨_, rfl, ?_⟩; replace HO_3 := YK66 (show IsS66 w0 _ g ae ac ad from Q1) (Yr HO_3.1) hk; replace HK := Ya (KeepBut.trans Q4 hk (.inl rfl)); replace HB := Ya hb; replace HI0 := Ya hi; (try clear hb hk hi)) | ((with_reducible refine gate_builtin (b := .append) (xs := #[.tmp 15, .tmp 19]) rfl ?_); at_builtin; refine Kd.R_append (Kd.int .i64) w.heap.size rfl (.tmp 15) (.tmp 19) 24 3 (.int .i64 0) 8 rfl Tryz.underlying24 info3 rfl (by decide) (by omega) u3 am (wrap64 (2 + ax)) [.int .i64 (wrap64 (2 + ax))] (fun _ => True) (fun _ => False) rfl rfl ?aP (fun _ hk => hk.elim) ?aF ?aO (Below.refl _ _) ?aS ?aL ?_; (case aP => exact rfl); (case aF => exact (fun _ _ => trivial)); (case aO => exact (Yr HO_3.1)); (case aS => exact (keep_size (w := w) (g := g) (row := none) Q4)); (case aL => have := LMc12.1; omega); intro a5 bc ho hb hg hat; rw [← aM.1] at ho; replace HB := Ya (below_weaken Q6 HL.1 hb); replace HI0 := Ya (IsS66.grown Q1 hg (IsS66.own_ne HI0.1 HO_3.1 (by decide))); replace HK := Ya (KeepBut.trans Q4 (KeepBut.of_grown hg g) (Kd.R_base2 HO_3.1)); have aN := Ya ho; clear HO_3; clear ho hb hg hat))
      go_roundg k1
      case measure => have := HK1.1; omega
      case rel => exact ⟨(aK), (wrap64 (ag - 1)), (aA), (aB), Q17, H', ⟨Q35⟩, ⟨by (with_reducible repeat (first | apply Z9 | apply Z10 | apply Z11)); exact aN.1⟩, ⟨Q13⟩, ⟨Q14⟩, ⟨Q15⟩⟩
     ·rw [if_neg aT] at H
      exact absurd H (by simp)
    ·rw [if_neg c10] at H
     have aJ : decide (0 < ag) = false := Z34 c10
     clear c10
     replace H := YB H
     obtain ⟨⟨a6, ai, aj⟩, aX, H⟩ := H
     dsimp only at H
     replace H := YC H
     obtain ⟨rfl, H⟩ | ⟨rfl, H⟩ := H
     ·obtain ⟨aY, ak⟩ : ∃ y_ : List Int, y_ = (([2, 3, 4, 5, 6, 7] : List Int)) := ⟨_, rfl⟩
      replace H : (some (aY, ai, aj)) = some (r1, r2, r3) := by first | (rw [ak]; with_reducible exact H) | (have H2_ := (Option.bind_some _ _).symm.trans H; rw [ak]; with_reducible exact H2_) | (have H2_ := (Option.bind_some _ _).symm.trans H; with_reducible exact H2_) | with_reducible exact H | (rw [ak]; exact H) | exact H
      have ay := Ya ak
      clear ak
      simp only [Option.some.injEq, Prod.mk.injEq] at H
      obtain ⟨rfl, rfl, rfl⟩ := H
      go_wp2_with (first | ((with_reducible refine gate_callee (f := 76) rfl ?_); refine Yz 22 Tryz.func76 #[.pointer (some ⟨g, 0, none⟩), .int .i64 30] ?_; (with_reducible refine (spec_l1Cur_one.calls g ae ac ad 30 true ai aj w0 _ ?aa ?ab aX.1).mono ?_); (case aa => exact Q1); (case ab => exact Q6); rintro e bd ⟨rfl, hi, hb, hk⟩; refine ⟨_, rfl, ?_⟩; replace HO_3 := YK66 (show IsS66 w0 _ g ae ac ad from Q1) (Yr HO_3.1) hk; replace HK := Ya (KeepBut.trans Q4 hk (.inl rfl)); replace HB := Ya hb; replace HI0 := Ya hi; (try clear hb hk hi)) | ((with_reducible refine gate_dst (N := 23) rfl ?_); refine Kd.R_lit (Kd.int .i64) _ 3 ?hg (N := 23) ?hd (xs := ([2, 3, 4, 5, 6, 7] : List Int)) (inner := [.int .i64 2, .int .i64 3, .int .i64 4, .int .i64 5, .int .i64 6, .int .i64 7]) (ok := fun _ => True) (okp := fun _ => True) ?hr ?hp (fun _ hk => hk) trivial (Below.refl _ _) (Nat.le_refl _) (by simp) ?_; (case hd => rfl); (case hg => rfl); (case hr => first | (go_simp; done) | (go_simp; rfl)); (case hp => exact (Reps.one (show Kd.M (Kd.int .i64) _ _ _ 2 [.int .i64 2] from rfl) (Reps.one (show Kd.M (Kd.int .i64) _ _ _ 3 [.int .i64 3] from rfl) (Reps.one (show Kd.M (Kd.int .i64) _ _ _ 4 [.int .i64 4] from rfl) (Reps.one (show Kd.M (Kd.int .i64) _ _ _ 5 [.int .i64 5] from rfl) (Reps.one (show Kd.M (Kd.int .i64) _ _ _ 6 [.int .i64 6] from rfl) (Reps.one (show Kd.M (Kd.int .i64) _ _ _ 7 [.int .i64 7] from rfl) (Reps.none _ _)))))))); intro a7 be an hb hg_ hnew_; clear hg_ hnew_; (first | rw [← ay.1] at an | (simp only [Int.reduceToNat] at an; rw [← ay.1] at an)); have aQ := Ya (Kd.R_lower (YW an HO_3) (keep_size (w := w) (g := g) (row := none) Q4)); replace HO_3 := YE HO_3 an hb; replace HK := Ya (KeepBut.trans Q4 (KeepBut.of_below hb g none) (.inl rfl)); replace HB := Ya (Z8 Q6 hb); replace HI0 := Ya (IsS66.below Q1 hb); clear hb an))
      go_ret
      exact ⟨_, Q2, Yj aQ.1 (fun _ hk => trivial), Q13, Q15, Q14⟩
     ·replace H := YB H
      obtain ⟨⟨a8, aC, aD⟩, a1, H⟩ := H
      dsimp only at H
      replace H := YC H
      obtain ⟨rfl, H⟩ | ⟨rfl, H⟩ := H
      ·obtain ⟨aZ, al⟩ : ∃ y_ : List Int, y_ = (([12, 12, 12, 3] : List Int)) := ⟨_, rfl⟩
       replace H : (some (aZ, aC, aD)) = some (r1, r2, r3) := by first | (rw [al]; with_reducible exact H) | (have H2_ := (Option.bind_some _ _).symm.trans H; rw [al]; with_reducible exact H2_) | (have H2_ := (Option.bind_some _ _).symm.trans H; with_reducible exact H2_) | with_reducible exact H | (rw [al]; exact H) | exact H
       have az := Ya al
       clear al
       simp only [Option.some.injEq, Prod.mk.injEq] at H
       obtain ⟨rfl, rfl, rfl⟩ := H
       go_wp2_with (first | ((with_reducible refine gate_callee (f := 76) rfl ?_); refine Yz 22 Tryz.func76 #[.pointer (some ⟨g, 0, none⟩), .int .i64 30] ?_; (with_reducible refine (spec_l1Cur_one.calls g ae ac ad 30 false ai aj w0 _ ?aa ?ab aX.1).mono ?_); (case aa => exact Q1); (case ab => exact Q6); rintro e bf ⟨rfl, hi, hb, hk⟩; refine ⟨_, rfl, ?_⟩; replace HO_3 := YK66 (show IsS66 w0 _ g ae ac ad from Q1) (Yr HO_3.1) hk; replace HK := Ya (KeepBut.trans Q4 hk (.inl rfl)); replace HB := Ya hb; replace HI0 := Ya hi; (try clear hb hk hi)) | ((with_reducible refine gate_callee (f := 76) rfl ?_); refine Yz 25 Tryz.func76 #[.pointer (some ⟨g, 0, none⟩), .int .i64 30] ?_; (with_reducible refine (spec_l1Cur_one.calls g ae ai aj 30 true aC aD w0 _ ?aa ?ab a1.1).mono ?_); (case aa => exact Q1); (case ab => exact Q6); rintro e bg ⟨rfl, hi, hb, hk⟩; refine ⟨_, rfl, ?_⟩; replace HO_3 := YK66 (show IsS66 w0 _ g ae ai aj from Q1) (Yr HO_3.1) hk; replace HK := Ya (KeepBut.trans Q4 hk (.inl rfl)); replace HB := Ya hb; replace HI0 := Ya hi; (try clear hb hk hi)) | ((with_reducible refine gate_dst (N := 26) rfl ?_); refine Kd.R_lit (Kd.int .i64) _ 3 ?hg (N := 26) ?hd (xs := ([12, 12, 12, 3] : List Int)) (inner := [.int .i64 12, .int .i64 12, .int .i64 12, .int .i64 3]) (ok := fun _ => True) (okp := fun _ => True) ?hr ?hp (fun _ hk => hk) trivial (Below.refl _ _) (Nat.le_refl _) (by simp) ?_; (case hd => rfl); (case hg => rfl); (case hr => first | (go_simp; done) | (go_simp; rfl)); (case hp => exact (Reps.one (show Kd.M (Kd.int .i64) _ _ _ 12 [.int .i64 12] from rfl) (Reps.one (show Kd.M (Kd.int .i64) _ _ _ 12 [.int .i64 12] from rfl) (Reps.one (show Kd.M (Kd.int .i64) _ _ _ 12 [.int .i64 12] from rfl) (Reps.one (show Kd.M (Kd.int .i64) _ _ _ 3 [.int .i64 3] from rfl) (Reps.none _ _)))))); intro a9 bh ao hb hg_ hnew_; clear hg_ hnew_; (first | rw [← az.1] at ao | (simp only [Int.reduceToNat] at ao; rw [← az.1] at ao)); have aR := Ya (Kd.R_lower (YW ao HO_3) (keep_size (w := w) (g := g) (row := none) Q4)); replace HO_3 := YE HO_3 ao hb; replace HK := Ya (KeepBut.trans Q4 (KeepBut.of_below hb g none) (.inl rfl)); replace HB := Ya (Z8 Q6 hb); replace HI0 := Ya (IsS66.below Q1 hb); clear hb ao))
       go_ret
       exact ⟨_, Q2, Yj aR.1 (fun _ hk => trivial), Q13, Q15, Q14⟩
      ·simp only [Option.some.injEq, Prod.mk.injEq] at H
       obtain ⟨rfl, rfl, rfl⟩ := H
       go_wp2_with (first | ((with_reducible refine gate_callee (f := 76) rfl ?_); refine Yz 22 Tryz.func76 #[.pointer (some ⟨g, 0, none⟩), .int .i64 30] ?_; (with_reducible refine (spec_l1Cur_one.calls g ae ac ad 30 false ai aj w0 _ ?aa ?ab aX.1).mono ?_); (case aa => exact Q1); (case ab => exact Q6); rintro e bi ⟨rfl, hi, hb, hk⟩; refine ⟨_, rfl, ?_⟩; replace HO_3 := YK66 (show IsS66 w0 _ g ae ac ad from Q1) (Yr HO_3.1) hk; replace HK := Ya (KeepBut.trans Q4 hk (.inl rfl)); replace HB := Ya hb; replace HI0 := Ya hi; (try clear hb hk hi)) | ((with_reducible refine gate_callee (f := 76) rfl ?_); refine Yz 25 Tryz.func76 #[.pointer (some ⟨g, 0, none⟩), .int .i64 30] ?_; (with_reducible refine (spec_l1Cur_one.calls g ae ai aj 30 false aC aD w0 _ ?aa ?ab a1.1).mono ?_); (case aa => exact Q1); (case ab => exact Q6); rintro e bj ⟨rfl, hi, hb, hk⟩; refine ⟨_, rfl, ?_⟩; replace HO_3 := YK66 (show IsS66 w0 _ g ae ai aj from Q1) (Yr HO_3.1) hk; replace HK := Ya (KeepBut.trans Q4 hk (.inl rfl)); replace HB := Ya hb; replace HI0 := Ya hi; (try clear hb hk hi)))
       go_ret
       exact ⟨_, Q2, Q48, Q13, Q15, Q14⟩
end Go.Proofs.YtapbbmicfkbafaaGreat.MFnSwappers
