import Derived.Test.YtmkokfljonbcmaaMFnAdjacentListsx0
import Derived.Test.YtmkokfljonbcmaaMFnAdjacentListsx4
import Derived.Test.YtmkokfljonbcmaaMFnAdjacentListsx5
namespace Go.Proofs.Ytmkokfljonbcmaa.MFnAdjacentLists
open Go.RowKit Go.Proofs.YtmkokfljonbcmaaW.PrintWords Go.Proofs.YtmkokfljonbcmaaW.PrintLast Go.Proofs.YtmkokfljonbcmaaW.PrintMore
attribute [local go_sem] max2_int min2_int max_two min_two max_three min_three max_four min_four   
set_option linter.unusedVariables false
set_option linter.unusedSimpArgs false
theorem impl_AdjacentList.zeroB (w : World) : (zeroValue 4).run Try.prog w = .ok (.bool false) w := by kernel_rfl
theorem impl_AdjacentList.mt : Try.prog.underlying 53 = some (.map 56 4) := Try.underlying53
theorem impl_AdjacentList.mi : Try.prog.underlying 3 = some (.int .i64) := Try.underlying3
theorem impl_AdjacentList.me : Try.prog.underlying 4 = some .bool := Try.underlying4
theorem impl_AdjacentList.laid : laidOutB Try.prog = true := by kernel_rfl
theorem impl_AdjacentList.wide : (match Try.prog.underlying 56 with | some (.array _ _) | some (.struct _) => true | _ => false) = true := by kernel_rfl
theorem impl_AdjacentList.two : PrS.Two Try.prog 56 := PrS.Two.of (Maps.Keyed.of_law (deep_law_laid impl_AdjacentList.laid (m := 2) (by omega) (of_decide_eq_true (by kernel_rfl)) (by kernel_rfl) impl_AdjacentList.wide)) Try.underlying56 (by kernel_rfl) (m := Try.prog.types.size - 1) (by kernel_rfl) impl_AdjacentList.mi (by kernel_rfl) (by kernel_rfl) ⟨rfl, rfl, by decide⟩ ⟨rfl, rfl, by decide⟩ (of_decide_eq_true (by kernel_rfl))
mutual
def impl_AdjacentList.e : Nat → List (List Int) → Int → List (Int × Int) → List Int → Option (Bool × List (Int × Int) × List Int)
 | 0, _, _, _, _ => none
 | k + 1, L, u, M, out => if (out.length : Int) = (L.length : Int) then some (true, M, out) else (if (0 < out.length ∧ out.length < 1000000 ∧ M.length < 1000000) ∧ (Lit.int .i64 (rd out ((out.length : Int) - 1))).wf = true ∧ (Lit.int .i64 u).wf = true then (if ((rd out ((out.length : Int) - 1)), u) ∈ M then some (false, M, out) else impl_AdjacentList.l k L u (rd out ((out.length : Int) - 1)) 0 M out) else none)
def impl_AdjacentList.l : Nat → List (List Int) → Int → Int → Int → List (Int × Int) → List Int → Option (Bool × List (Int × Int) × List Int)
 | 0, _, _, _, _, _, _ => none
 | k + 1, L, u, s, i, M, out => if i < (L.length : Int) then (if 0 ≤ i ∧ i ≤ 60 then (if bits .and .i64 (u / 2 ^ i.toNat) 1 = 1 then impl_AdjacentList.l k L u s (wrap64 (i + 1)) M out else (if 0 ≤ s ∧ s < (L.length : Int) then ((impl_exchange.f k (rd_L1 L s) (rd_L1 L i)).bind fun x => (if x.2.2 = true then ((impl_adjacent.f x.1 x.2.1).bind fun d => (if d = true then (if out.length < 1000000 then ((impl_AdjacentList.e k L (bits .or .i64 u (wrap64 (2 ^ i.toNat))) M (out ++ [i])).bind fun z => (if z.1 = true then some z else (if 0 < z.2.2.length ∧ z.2.2.length < 1000000 then impl_AdjacentList.l k L u s (wrap64 (i + 1)) z.2.1 (z.2.2.take (z.2.2.length - 1)) else none))) else none) else impl_AdjacentList.l k L u s (wrap64 (i + 1)) M out)) else impl_AdjacentList.l k L u s (wrap64 (i + 1)) M out)) else none)) else none) else (if M.length < 1000000 then some (false, (if (s, u) ∈ M then M else (s, u) :: M), out) else none)
end
def impl_AdjacentList.g : Nat → List (List Int) → List Int → Int → List (List Int) → Option (List (List Int))
 | 0, _, _, _, _ => none
 | k + 1, L, way, j, acc => if j < (way.length : Int) then (if 0 ≤ j then (if 0 ≤ rd way j ∧ rd way j < (L.length : Int) then (if acc.length < 1000000 then impl_AdjacentList.g k L way (wrap64 (j + 1)) (acc ++ [rd_L1 L (rd way j)]) else none) else none) else none) else some acc
def impl_AdjacentList.f (k : Nat) (a0 a1 : Int) : Option (List (List Int) × Bool) := (impl_AdjacentHalves.f k a0 a1).bind fun t => (if t.2.2 = true then (if 6 < a0 then some ([], false) else (if (if wrap64 (t.1 - t.2.1) < wrap64 (t.2.1 - t.1) then wrap64 (t.2.1 - t.1) else wrap64 (t.1 - t.2.1)) > 1 then some ([], false) else ((impl_allCombinations.f k a0 a1).bind fun L => ((impl_AdjacentList.e k L 1 [] [0]).bind fun z => (if z.1 = true then (if z.2.2.Nodup then ((impl_AdjacentList.g k L z.2.2 0 []).bind fun o => some (o, true)) else none) else some ([], false)))))) else some ([], false))
theorem impl_AdjacentList.mono_l : ∀ k, (∀ y0 y1 y2 y3, LeO (impl_AdjacentList.e k y0 y1 y2 y3) (impl_AdjacentList.e (k + 1) y0 y1 y2 y3)) ∧ (∀ y0 y1 y2 y3 y4 y5, LeO (impl_AdjacentList.l k y0 y1 y2 y3 y4 y5) (impl_AdjacentList.l (k + 1) y0 y1 y2 y3 y4 y5)) ∧ (∀ y0 y1 y2 y3, LeO (impl_AdjacentList.g k y0 y1 y2 y3) (impl_AdjacentList.g (k + 1) y0 y1 y2 y3))
 | 0 => ⟨fun _ _ _ _ r h => by simp [impl_AdjacentList.e] at h, fun _ _ _ _ _ _ r h => by simp [impl_AdjacentList.l] at h, fun _ _ _ _ r h => by simp [impl_AdjacentList.g] at h⟩
 | k + 1 => by
  obtain ⟨ih0, ih1, ih2⟩ := impl_AdjacentList.mono_l k
  refine ⟨?_, ?_, ?_⟩
  ·intro y0 y1 y2 y3
   unfold impl_AdjacentList.e
   repeat' first
   | (with_reducible exact ih0 _ _ _ _)
   | (with_reducible exact ih1 _ _ _ _ _ _)
   | (with_reducible exact ih2 _ _ _ _)
   | (with_reducible exact impl_AdjacentHalves.mono _ _ _)
   | (with_reducible exact impl_allCombinations.mono _ _ _)
   | (with_reducible exact impl_exchange.mono _ _ _)
   | (with_reducible exact LeO.refl _)
   | (with_reducible exact LeO.none _)
   | (with_reducible refine LeO.ite ?_ ?_)
   | (with_reducible refine LeO.bind ?_ (fun _ => ?_))
   | exact ih0 _ _ _ _
   | exact ih1 _ _ _ _ _ _
   | exact ih2 _ _ _ _
   | exact impl_AdjacentHalves.mono _ _ _
   | exact impl_allCombinations.mono _ _ _
   | exact impl_exchange.mono _ _ _
   | exact LeO.none _
   | refine LeO.ite ?_ ?_
   | refine LeO.bind ?_ (fun _ => ?_)
  ·intro y0 y1 y2 y3 y4 y5
   unfold impl_AdjacentList.l
   repeat' first
   | (with_reducible exact ih0 _ _ _ _)
   | (with_reducible exact ih1 _ _ _ _ _ _)
   | (with_reducible exact ih2 _ _ _ _)
   | (with_reducible exact impl_AdjacentHalves.mono _ _ _)
   | (with_reducible exact impl_allCombinations.mono _ _ _)
   | (with_reducible exact impl_exchange.mono _ _ _)
   | (with_reducible exact LeO.refl _)
   | (with_reducible exact LeO.none _)
   | (with_reducible refine LeO.ite ?_ ?_)
   | (with_reducible refine LeO.bind ?_ (fun _ => ?_))
   | exact ih0 _ _ _ _
   | exact ih1 _ _ _ _ _ _
   | exact ih2 _ _ _ _
   | exact impl_AdjacentHalves.mono _ _ _
   | exact impl_allCombinations.mono _ _ _
   | exact impl_exchange.mono _ _ _
   | exact LeO.none _
   | refine LeO.ite ?_ ?_
   | refine LeO.bind ?_ (fun _ => ?_)
  ·intro y0 y1 y2 y3
   unfold impl_AdjacentList.g
   repeat' first
   | (with_reducible exact ih0 _ _ _ _)
   | (with_reducible exact ih1 _ _ _ _ _ _)
   | (with_reducible exact ih2 _ _ _ _)
   | (with_reducible exact impl_AdjacentHalves.mono _ _ _)
   | (with_reducible exact impl_allCombinations.mono _ _ _)
   | (with_reducible exact impl_exchange.mono _ _ _)
   | (with_reducible exact LeO.refl _)
   | (with_reducible exact LeO.none _)
   | (with_reducible refine LeO.ite ?_ ?_)
   | (with_reducible refine LeO.bind ?_ (fun _ => ?_))
   | exact ih0 _ _ _ _
   | exact ih1 _ _ _ _ _ _
   | exact ih2 _ _ _ _
   | exact impl_AdjacentHalves.mono _ _ _
   | exact impl_allCombinations.mono _ _ _
   | exact impl_exchange.mono _ _ _
   | exact LeO.none _
   | refine LeO.ite ?_ ?_
   | refine LeO.bind ?_ (fun _ => ?_)
theorem impl_AdjacentList.mono : ∀ a0 a1 k, LeO (impl_AdjacentList.f k a0 a1) (impl_AdjacentList.f (k + 1) a0 a1) := by
 intro a0 a1 k
 obtain ⟨ih0, ih1, ih2⟩ := impl_AdjacentList.mono_l k
 unfold impl_AdjacentList.f
 repeat' first
   | (with_reducible exact ih0 _ _ _ _)
   | (with_reducible exact ih1 _ _ _ _ _ _)
   | (with_reducible exact ih2 _ _ _ _)
   | (with_reducible exact impl_AdjacentHalves.mono _ _ _)
   | (with_reducible exact impl_allCombinations.mono _ _ _)
   | (with_reducible exact impl_exchange.mono _ _ _)
   | (with_reducible exact LeO.refl _)
   | (with_reducible exact LeO.none _)
   | (with_reducible refine LeO.ite ?_ ?_)
   | (with_reducible refine LeO.bind ?_ (fun _ => ?_))
   | exact ih0 _ _ _ _
   | exact ih1 _ _ _ _ _ _
   | exact ih2 _ _ _ _
   | exact impl_AdjacentHalves.mono _ _ _
   | exact impl_allCombinations.mono _ _ _
   | exact impl_exchange.mono _ _ _
   | exact LeO.none _
   | refine LeO.ite ?_ ?_
   | refine LeO.bind ?_ (fun _ => ?_)
open Go.Proofs.Ytmkokfljonbcmaa.AlW in
def impl_AdjacentList.cs (AL : Option Addr) (nL cL : Nat) (g : Bl) : Cs := ⟨53, 3, 22, 38, 54, .slice AL nL cL, .func (.func 38) #[] #[.pointer (some ⟨g.bo, 0, none⟩), .pointer (some ⟨g.bv, 0, none⟩), .pointer (some ⟨g.bm, 0, none⟩), .pointer (some ⟨g.be, 0, none⟩)]⟩
open Go.Proofs.Ytmkokfljonbcmaa.PrS Go.Proofs.Ytmkokfljonbcmaa.AlW in
set_option maxHeartbeats 8000000 in
set_option maxRecDepth 100000 in
theorem impl_AdjacentList.ext : ∀ (k : Nat) (w0 : World) (g : Bl) (AL : Option Addr) (cL : Nat) (L : List (List Int)) (u : Int) (M : List (Int × Int)) (out : List Int) (vo : Value) (z : Bool × List (Int × Int) × List Int) (w : World) (hL : ((Kd.slice 3 (Kd.int .i64))).C w0 AL L.length L) (hcL : L.length ≤ cL) (hs : St Try.prog 56 4 w w0.heap.size g (impl_AdjacentList.cs AL L.length cL g) (M) (out) (vo)) (hb : Below w0.heap.size w0 w) (h : impl_AdjacentList.e k L u M out = some z),
  Calls Try.prog 38 #[.int .i64 u, .pointer (some ⟨g.bo, 0, none⟩), .pointer (some ⟨g.bv, 0, none⟩), .pointer (some ⟨g.bm, 0, none⟩), .pointer (some ⟨g.be, 0, none⟩)] w fun e w' => ∃ vo' : Value, e = .returned (.bool z.1) ∧ St Try.prog 56 4 w' w0.heap.size g (impl_AdjacentList.cs AL L.length cL g) (z.2.1) (z.2.2) (vo') ∧ Kept w w' (Wq g vo) ∧ Fr w vo vo' ∧ Below w0.heap.size w0 w' := by
 intro k
 induction k using Nat.strongRecOn with
 | ind k ih =>
 intro w0 g AL cL L u M out vo z w hL hcL hs hb h
 have hu := Try.underlying56
 cases k with
 | zero => simp [impl_AdjacentList.e] at h
 | succ k =>
 have IH := Aside0.mk ih
 clear ih
 simp only [impl_AdjacentList.e] at h
 obtain ⟨Ao, co, eo⟩ := Kd.R_slice hs.r
 subst eo
 have HL := Aside0.mk hL
 have HCL := Aside0.mk hcL
 have HS := Aside0.mk hs
 have HB := Aside0.mk hb
 have ho : w.cell? ⟨g.bo, 0, none⟩ = some (.slice Ao out.length co) := (blk_cell hs.o 0).trans rfl
 have hv : w.cell? ⟨g.bv, 0, none⟩ = some (.slice AL L.length cL) := (blk_cell hs.env.v 0).trans rfl
 clear hL hcL hs hb
 by_cases ct : (out.length : Int) = (L.length : Int)
 ·rw [if_pos ct] at h
  obtain rfl := Option.some.inj h
  have cb : ((out.length : Int) == (L.length : Int)) = true := beq_iff_eq.mpr ct
  clear h ct
  go_enter Try.func38, Try.ntmps38
  go_wp2
  go_ret
  exact ⟨_, rfl, HS.out, Kept.refl w _, Fr.refl w _, HB.out⟩
 rw [if_neg ct] at h
 have cb : ((out.length : Int) == (L.length : Int)) = false := beq_eq_false_iff_ne.mpr ct
 by_cases cc : (0 < out.length ∧ out.length < 1000000 ∧ M.length < 1000000) ∧ (Lit.int .i64 (rd out ((out.length : Int) - 1))).wf = true ∧ (Lit.int .i64 u).wf = true
 rotate_left
 ·rw [if_neg cc] at h; cases h
 rw [if_pos cc] at h
 have CC := Aside0.mk cc
 obtain ⟨ad, ead, hx0⟩ := Kd.at_int (Kd.R_reads' HS.out.r).2.2 ((out.length : Int) - 1) (by omega) (by omega)
 cases ead
 rw [show ((out.length : Int) - 1).toNat = out.length - 1 from by omega] at hx0
 have hw1 : IntKind.i64.wrap ((out.length : Int) - 1) = (out.length : Int) - 1 := IntWalk.i64_in _ (by omega)
 have hw1' : wrap64 ((out.length : Int) - 1) = (out.length : Int) - 1 := by unfold wrap64; omega
 have q0 : (0 ≤ (out.length : Int) - 1) = True := eq_true (by omega)
 have q1 : (1 ≤ (out.length : Int)) = True := eq_true (by omega)
 have q2 : ((out.length : Int) - 1 < (out.length : Int)) = True := eq_true (by omega)
 have q3 : (1 ≤ out.length) = True := eq_true (by omega)
 have q4 : decide (0 ≤ (out.length : Int) - 1) = true := decide_eq_true (by omega)
 have q5 : decide ((out.length : Int) - 1 < (out.length : Int)) = true := decide_eq_true (by omega)
 clear ct cc
 generalize hs0 : (rd out ((out.length : Int) - 1)) = s at h CC hx0
 by_cases cm : (s, u) ∈ M
 ·rw [if_pos cm] at h
  obtain rfl := Option.some.inj h
  have cmb : decide ((s, u) ∈ M) = true := decide_eq_true cm
  clear h cm
  go_enter Try.func38, Try.ntmps38
  go_upto_region 4 with (first | ((with_reducible refine gate_dst (N := 7) rfl ?_); refine box_event ?hg (N := 7) ?hd (cs := #[.int .i64 0, .int .i64 0]) (t := 56) ?hr ?_; (case hd => rfl); (case hg => rfl); (case hr => first | (go_simp; done) | (go_simp; rfl)); intro gs hg w3 hbox hb; have BO := Aside0.mk hbox; have BX := Aside0.mk hb; have GX := Aside0.mk hg; have hcz0 : w3.cell? ⟨gs, 0, none⟩ = some (.int .i64 0) := (blk_cell hbox 0).trans rfl; have hcz1 : w3.cell? ⟨gs, 1, none⟩ = some (.int .i64 0) := (blk_cell hbox 1).trans rfl; have hfz0 := blk_frozen hbox 0; have hfz1 := blk_frozen hbox 1; clear hb hbox hg))
  have GG : w.heap.size ≤ gs := by rw [GX.out]; exact Nat.le_refl _
  have HK1 := Aside0.mk (show Below w.heap.size w ((w3.setCell ⟨gs, 0, none⟩ (.int .i64 s)).setCell ⟨gs, 1, none⟩ (.int .i64 u)) from below_set (below_set BX.out GG) GG)
  have HX := Aside0.mk (show Bx ((w3.setCell ⟨gs, 0, none⟩ (.int .i64 s)).setCell ⟨gs, 1, none⟩ (.int .i64 u)) g (.slice (some ad) out.length co) gs 56 (.int .i64 s) (.int .i64 u) from ⟨blk_put (blk_put BO.out 0 _ rfl) 1 _ rfl, fun hw_ => absurd (HS.out.lt gs hw_) (Nat.not_lt.2 GG)⟩)
  clear BO BX GX GG hcz0 hcz1 hfz0 hfz1
  generalize hW : ((w3.setCell ⟨gs, 0, none⟩ (.int .i64 s)).setCell ⟨gs, 1, none⟩ (.int .i64 u)) = w4 at HK1 HX ⊢
  clear hW
  have HS1 := Aside0.mk (HS.out.below HK1.out)
  have HB1 := Aside0.mk (HB.out.trans (HK1.out.mono HB.out.size))
  have HQ1 := Aside0.mk (Kept.of_below HK1.out (Wq g (.slice (some ad) out.length co)))
  have hm : w4.cell? ⟨g.bm, 0, none⟩ = some (.map (some g.q)) := (blk_cell HS1.out.env.m 0).trans rfl
  have hc0 : w4.cell? ⟨gs, 0, none⟩ = some (.int .i64 s) := (blk_cell HX.out.b 0).trans rfl
  have hc1 : w4.cell? ⟨gs, 1, none⟩ = some (.int .i64 u) := (blk_cell HX.out.b 1).trans rfl
  clear HK1
  go_wp2_with (first | ((with_reducible refine wpList_plook rfl (.tmp 26) (.tmp 27) rfl impl_AdjacentList.two impl_AdjacentList.mt impl_AdjacentList.me (impl_AdjacentList.zeroB _) rfl HS1.out.s s u CC.out.2 rfl ?_); rw [cmb]))
  go_ret
  exact ⟨_, rfl, HS1.out, HQ1.out, Fr.refl w _, HB1.out⟩
 rw [if_neg cm] at h
 have cmb : decide ((s, u) ∈ M) = false := decide_eq_false cm
 have H' := Aside0.mk h
 clear h cm
 go_enter Try.func38, Try.ntmps38
 go_upto_region 4 with (first | ((with_reducible refine gate_dst (N := 7) rfl ?_); refine box_event ?hg (N := 7) ?hd (cs := #[.int .i64 0, .int .i64 0]) (t := 56) ?hr ?_; (case hd => rfl); (case hg => rfl); (case hr => first | (go_simp; done) | (go_simp; rfl)); intro gs hg w3 hbox hb; have BO := Aside0.mk hbox; have BX := Aside0.mk hb; have GX := Aside0.mk hg; have hcz0 : w3.cell? ⟨gs, 0, none⟩ = some (.int .i64 0) := (blk_cell hbox 0).trans rfl; have hcz1 : w3.cell? ⟨gs, 1, none⟩ = some (.int .i64 0) := (blk_cell hbox 1).trans rfl; have hfz0 := blk_frozen hbox 0; have hfz1 := blk_frozen hbox 1; clear hb hbox hg))
 have GG : w.heap.size ≤ gs := by rw [GX.out]; exact Nat.le_refl _
 have HK1 := Aside0.mk (show Below w.heap.size w ((w3.setCell ⟨gs, 0, none⟩ (.int .i64 s)).setCell ⟨gs, 1, none⟩ (.int .i64 u)) from below_set (below_set BX.out GG) GG)
 have HX := Aside0.mk (show Bx ((w3.setCell ⟨gs, 0, none⟩ (.int .i64 s)).setCell ⟨gs, 1, none⟩ (.int .i64 u)) g (.slice (some ad) out.length co) gs 56 (.int .i64 s) (.int .i64 u) from ⟨blk_put (blk_put BO.out 0 _ rfl) 1 _ rfl, fun hw_ => absurd (HS.out.lt gs hw_) (Nat.not_lt.2 GG)⟩)
 clear BO BX GX GG hcz0 hcz1 hfz0 hfz1
 generalize hW : ((w3.setCell ⟨gs, 0, none⟩ (.int .i64 s)).setCell ⟨gs, 1, none⟩ (.int .i64 u)) = w4 at HK1 HX ⊢
 clear hW
 have HS1 := Aside0.mk (HS.out.below HK1.out)
 have HB1 := Aside0.mk (HB.out.trans (HK1.out.mono HB.out.size))
 have HQ1 := Aside0.mk (Kept.of_below HK1.out (Wq g (.slice (some ad) out.length co)))
 have hm : w4.cell? ⟨g.bm, 0, none⟩ = some (.map (some g.q)) := (blk_cell HS1.out.env.m 0).trans rfl
 have hc0 : w4.cell? ⟨gs, 0, none⟩ = some (.int .i64 s) := (blk_cell HX.out.b 0).trans rfl
 have hc1 : w4.cell? ⟨gs, 1, none⟩ = some (.int .i64 u) := (blk_cell HX.out.b 1).trans rfl
 clear HK1
 have hv4 : w4.cell? ⟨g.bv, 0, none⟩ = some (.slice AL L.length cL) := (blk_cell HS1.out.env.v 0).trans rfl
 go_wp2_with (first | ((with_reducible refine wpList_plook rfl (.tmp 26) (.tmp 27) rfl impl_AdjacentList.two impl_AdjacentList.mt impl_AdjacentList.me (impl_AdjacentList.zeroB _) rfl HS1.out.s s u CC.out.2 rfl ?_); rw [cmb]))
 clear cb ho hv hx0 hw1 hw1' q0 q1 q2 q3 q4 q5 hs0 hm hc0 hc1 cmb hv4
 go_loopg [31] k (fun kq v31 w' => ∃ (i : Int) (M' : List (Int × Int)) (out' : List Int) (vo' : Value), v31 = .int .i64 i ∧ Aside0 (impl_AdjacentList.l kq L u s i M' out' = some z) ∧ Aside0 (kq ≤ k) ∧ Aside0 (St Try.prog 56 4 w' w0.heap.size g (impl_AdjacentList.cs AL L.length cL g) (M') (out') (vo')) ∧ Aside0 (Kept w w' (Wq g (.slice (some ad) out.length co))) ∧ Aside0 (Fr w (.slice (some ad) out.length co) vo') ∧ Aside0 (Below w0.heap.size w0 w') ∧ Aside0 (Bx w' g vo' gs 56 (.int .i64 s) (.int .i64 u)))
 case atStart => exact ⟨0, M, out, _, rfl, H', ⟨Nat.le_refl _⟩, HS1, HQ1, ⟨Fr.refl w _⟩, HB1, HX⟩
 case round =>
  clear H' HS1 HQ1 HB1 HX HS HB
  obtain ⟨i, M', out', vo', rfl, HA, HK1, HS1, HQ, HF, HB, HX⟩ := hrel
  cases gk with
  | zero => exact absurd HA.out (by simp [impl_AdjacentList.l])
  | succ k1 =>
   have H := HA.out
   clear HA
   simp only [impl_AdjacentList.l] at H
   have hc0 : wr.cell? ⟨gs, 0, none⟩ = some (.int .i64 s) := (blk_cell HX.out.b 0).trans rfl
   have hc1 : wr.cell? ⟨gs, 1, none⟩ = some (.int .i64 u) := (blk_cell HX.out.b 1).trans rfl
   by_cases c3 : i < (L.length : Int)
   rotate_left
   ·rw [if_neg c3] at H
    by_cases cM : M'.length < 1000000
    rotate_left
    ·rw [if_neg cM] at H; cases H
    rw [if_pos cM] at H
    have CM := Aside0.mk cM
    generalize hMM : (if (s, u) ∈ M' then M' else (s, u) :: M') = M9 at H
    have HMM := Aside0.mk hMM
    clear hMM
    obtain rfl := Option.some.inj H
    have c3b0 : decide (i < (L.length : Int)) = false := decide_eq_false c3
    have hm : wr.cell? ⟨g.bm, 0, none⟩ = some (.map (some g.q)) := (blk_cell HS1.out.env.m 0).trans rfl
    clear c3 H cM
    go_wp2_with (first | ((with_reducible refine wpList_pstore rfl (.tmp 76) (.tmp 77) (.const (.bool true)) rfl impl_AdjacentList.two impl_AdjacentList.mt impl_AdjacentList.me ?hmm HS1.out.s ?hnn s u CC.out.2 ?hxx rfl ?_); (case hmm => rfl); (case hxx => rfl); (case hnn => have := CM.out; unfold maxLen; omega); intro w7 hm7 hg7; rw [HMM.out] at hm7; have HS2 := Aside0.mk (HS1.out.upd hm7 hg7); have HQ2 := Aside0.mk (kq_upd (g := g) (vo := vo') (Kept.refl wr _) hg7); have HB2 := Aside0.mk (below_upd HS1.out HB.out hg7); clear hm7 hg7))
    go_ret
    first | exact ⟨vo', rfl, HS2.out, HQ.out.then_ HQ2.out HF.out.sub, HF.out, HB2.out⟩ | exact ⟨rfl, vo', HS2.out, HQ.out.then_ HQ2.out HF.out.sub, HF.out, HB2.out⟩
   rw [if_pos c3] at H
   have c3b0 : decide (i < (L.length : Int)) = true := decide_eq_true c3
   by_cases c4 : 0 ≤ i ∧ i ≤ 60
   rotate_left
   ·rw [if_neg c4] at H; cases H
   rw [if_pos c4] at H
   obtain ⟨aX, Al, cl, eaX, hx4, hle4, hie4⟩ := at_L1 (Kd.C_below HL.out HB.out) i c4.1 c3
   cases eaX
   have HLE := Aside0.mk hle4
   have HIE := Aside0.mk hie4
   have C4 := Aside0.mk c4
   have c4b : (0 ≤ i) = True := eq_true c4.1
   have c4c : (i ≤ 64) = True := eq_true (by omega)
   have c3b : (i < (L.length : Int)) = True := eq_true c3
   have hmn : min i.toNat 64 = i.toNat := by omega
   have hmn2 : min i.toNat IntKind.i64.bits = i.toNat := by show min i.toNat 64 = i.toNat; omega
   clear c3 c4 hle4 hie4
   by_cases cu : bits .and .i64 (u / 2 ^ i.toNat) 1 = 1
   ·rw [if_pos cu] at H
    have H' := Aside0.mk H
    have cub : (bits .and .i64 (u / 2 ^ i.toNat) 1 == 1) = true := beq_iff_eq.mpr cu
    clear H cu
    go_wp2
    go_roundg k1
    case measure => have := HK1.out; omega
    case rel => exact ⟨wrap64 (i + 1), M', out', vo', rfl, H', ⟨by have := HK1.out; omega⟩, HS1, HQ, HF, HB, HX⟩
   rw [if_neg cu] at H
   have cub : (bits .and .i64 (u / 2 ^ i.toNat) 1 == 1) = false := beq_eq_false_iff_ne.mpr cu
   clear cu
   by_cases cs_ : 0 ≤ s ∧ s < (L.length : Int)
   rotate_left
   ·rw [if_neg cs_] at H; cases H
   rw [if_pos cs_] at H
   obtain ⟨aX2, As, cs2, eaX2, hxs, hles, hies⟩ := at_L1 (Kd.C_below HL.out HB.out) s cs_.1 cs_.2
   cases eaX2
   have HLS := Aside0.mk hles
   have HIS := Aside0.mk hies
   have csb : (0 ≤ s) = True := eq_true cs_.1
   have csc : (s < (L.length : Int)) = True := eq_true cs_.2
   have hv : wr.cell? ⟨g.bv, 0, none⟩ = some (.slice (some aX) L.length cL) := (blk_cell HS1.out.env.v 0).trans rfl
   clear cs_ hles hies
   replace H := Option.bind_eq_some_iff.mp H
   obtain ⟨⟨x, y, ok⟩, h1, H⟩ := H
   have T1 := Aside0.mk h1
   clear h1
   dsimp only at H
   cases ok
   ·simp only [Bool.false_eq_true, if_false] at H
    have H' := Aside0.mk H
    clear H
    go_wp2_with fail
    refine (impl_exchange.calls k1 As cs2 (rd_L1 L s) Al cl (rd_L1 L i) x y false _ HIS.out HLS.out HIE.out HLE.out T1.out).mono ?_
    rintro e w5 ⟨rfl, hb5⟩
    have hb5' : Below wr.heap.size wr w5 := by first | exact hb5 | exact Drawn0.below hb5
    have HS2 := Aside0.mk (HS1.out.below hb5')
    have HQ2 := Aside0.mk (HQ.out.then_ (Kept.of_below hb5' (Wq g vo')) HF.out.sub)
    have HB2 := Aside0.mk (HB.out.trans (hb5'.mono HB.out.size))
    have HX2 := Aside0.mk (HX.out.below hb5')
    clear hb5 hb5'
    go_wp2
    go_roundg k1
    case measure => have := HK1.out; omega
    case rel => exact ⟨wrap64 (i + 1), M', out', vo', rfl, H', ⟨by have := HK1.out; omega⟩, HS2, HQ2, HF, HB2, HX2⟩
   simp only [if_true] at H
   replace H := Option.bind_eq_some_iff.mp H
   obtain ⟨d, h2, H⟩ := H
   have T2 := Aside0.mk h2
   clear h2
   cases d
   ·simp only [Bool.false_eq_true, if_false] at H
    have H' := Aside0.mk H
    clear H
    go_wp2_with fail
    refine (impl_exchange.calls k1 As cs2 (rd_L1 L s) Al cl (rd_L1 L i) x y true _ HIS.out HLS.out HIE.out HLE.out T1.out).mono ?_
    rintro e w5 ⟨rfl, hb5⟩
    have hb5' : Below wr.heap.size wr w5 := by first | exact hb5 | exact Drawn0.below hb5
    have HS2 := Aside0.mk (HS1.out.below hb5')
    have HQ2 := Aside0.mk (HQ.out.then_ (Kept.of_below hb5' (Wq g vo')) HF.out.sub)
    have HB2 := Aside0.mk (HB.out.trans (hb5'.mono HB.out.size))
    have HX2 := Aside0.mk (HX.out.below hb5')
    clear hb5 hb5'
    go_wp2_with fail
    refine (impl_adjacent.calls x y false _ T2.out).mono ?_
    rintro e w6 ⟨rfl, hd6⟩
    have hb6 : Below w5.heap.size w5 w6 := by first | exact hd6 | exact Drawn0.below hd6
    have n0_ := Aside0.mk (HS2.out.below hb6)
    have n1_ := Aside0.mk (HQ2.out.then_ (Kept.of_below hb6 (Wq g vo')) HF.out.sub)
    have n2_ := Aside0.mk (HB2.out.trans (hb6.mono HB2.out.size))
    have n3_ := Aside0.mk (HX2.out.below hb6)
    clear HS2 HQ2 HB2 HX2 hd6 hb6
    have HS2 := n0_
    have HQ2 := n1_
    have HB2 := n2_
    have HX2 := n3_
    clear n0_ n1_ n2_ n3_
    go_wp2
    go_roundg k1
    case measure => have := HK1.out; omega
    case rel => exact ⟨wrap64 (i + 1), M', out', vo', rfl, H', ⟨by have := HK1.out; omega⟩, HS2, HQ2, HF, HB2, HX2⟩
   simp only [if_true] at H
   by_cases cp : out'.length < 1000000
   rotate_left
   ·rw [if_neg cp] at H; cases H
   rw [if_pos cp] at H
   have CP := Aside0.mk cp
   replace H := Option.bind_eq_some_iff.mp H
   obtain ⟨⟨fd, M2, o2⟩, he, H⟩ := H
   have HE := Aside0.mk he
   clear cp he
   dsimp only at H
   obtain ⟨Ao, co', eo⟩ := Kd.R_slice HS1.out.r
   subst eo
   cases fd
   rotate_left
   ·simp only [if_true] at H
    obtain rfl := Option.some.inj H
    clear H
    go_wp2_with fail
    refine (impl_exchange.calls k1 As cs2 (rd_L1 L s) Al cl (rd_L1 L i) x y true _ HIS.out HLS.out HIE.out HLE.out T1.out).mono ?_
    rintro e w5 ⟨rfl, hb5⟩
    have hb5' : Below wr.heap.size wr w5 := by first | exact hb5 | exact Drawn0.below hb5
    have HS2 := Aside0.mk (HS1.out.below hb5')
    have HQ2 := Aside0.mk (HQ.out.then_ (Kept.of_below hb5' (Wq g (.slice Ao out'.length co'))) HF.out.sub)
    have HB2 := Aside0.mk (HB.out.trans (hb5'.mono HB.out.size))
    have HX2 := Aside0.mk (HX.out.below hb5')
    clear hb5 hb5'
    go_wp2_with fail
    refine (impl_adjacent.calls x y true _ T2.out).mono ?_
    rintro e w6 ⟨rfl, hd6⟩
    have hb6 : Below w5.heap.size w5 w6 := by first | exact hd6 | exact Drawn0.below hd6
    have n0_ := Aside0.mk (HS2.out.below hb6)
    have n1_ := Aside0.mk (HQ2.out.then_ (Kept.of_below hb6 (Wq g (.slice Ao out'.length co'))) HF.out.sub)
    have n2_ := Aside0.mk (HB2.out.trans (hb6.mono HB2.out.size))
    have n3_ := Aside0.mk (HX2.out.below hb6)
    clear HS2 HQ2 HB2 HX2 hd6 hb6
    have HS2 := n0_
    have HQ2 := n1_
    have HB2 := n2_
    have HX2 := n3_
    clear n0_ n1_ n2_ n3_
    have ho6 : w6.cell? ⟨g.bo, 0, none⟩ = some (.slice Ao out'.length co') := (blk_cell HS2.out.o 0).trans rfl
    go_upto_region 13 with (first | ((with_reducible refine gate_builtin (b := .append) (xs := #[.tmp 60, .tmp 62]) rfl ?_); at_builtin; refine Kd.R_append (Kd.int .i64) (w0 := w0) w0.heap.size rfl (.tmp 60) (.tmp 62) 38 3 (.int .i64 0) 8 rfl Try.underlying38 info3 rfl (by decide) (by omega) (.slice Ao out'.length co') out' i [.int .i64 i] g.Ok (fun _ => False) rfl (by first | (go_simp; done) | (go_simp; rfl)) ?aP (fun _ hk => hk.elim) ?aF ?aO ?aB ?aS ?aL ?_; (case aP => exact rfl); (case aB => exact HB2.out); (case aF => exact HS2.out.fresh); (case aO => exact HS2.out.r); (case aS => exact HB2.out.size); (case aL => have := CP.out; omega); intro v8 w8 ho8 hb8 hg8 hat8; obtain ⟨A8, c8, e8⟩ := Kd.R_slice ho8; rw [List.length_append, show [i].length = 1 from rfl] at e8; subst e8; have HS4 := Aside0.mk (HS2.out.app ho8 hg8); have HQ4 := Aside0.mk (kq_setO (g := g) (vo := (.slice Ao out'.length co')) (kq_app (g := g) (vo := (.slice Ao out'.length co')) (Kept.refl w6 _) hg8) (.slice A8 (out'.length + 1) c8)); have FR4 := Aside0.mk (show Fr w6 (.slice Ao out'.length co') (.slice A8 (out'.length + 1) c8) from Fr.new hat8); have HB4 := Aside0.mk (below_setO HS2.out hb8 (.slice A8 (out'.length + 1) c8)); have hoc : w8.cell? ⟨g.bo, 0, none⟩ = some (.slice Ao out'.length co') := (blk_cell (HS2.out.appO hg8) 0).trans rfl; have hof := blk_frozen (HS2.out.appO hg8) 0; clear ho8 hb8 hg8 hat8))
    have n0_ := Aside0.mk HS4.out.drew
    have n1_ := Aside0.mk (HQ4.out.drewN 1)
    have n2_ := Aside0.mk (below_drew1 HB4.out)
    clear HS4 HQ4 HB4 ho6 hoc hof
    have HS4 := n0_
    have HQ4 := Aside0.mk (show Kept w6 (World.drew _) (Wq g (.slice Ao out'.length co')) from n1_.out)
    have HB4 := n2_
    clear n0_ n1_ n2_
    refine start_ (n := 6) (S := fun w' => w'.cell? ⟨g.be, 0, none⟩ = some (.func (.func 38) #[] #[.pointer (some ⟨g.bo, 0, none⟩), .pointer (some ⟨g.bv, 0, none⟩), .pointer (some ⟨g.bm, 0, none⟩), .pointer (some ⟨g.be, 0, none⟩)])) (ds := []) #[false, false, false, false, false, false] (by kernel_rfl) rfl rfl ((blk_cell HS4.out.env.e 0).trans rfl) (fun hHeld => ?_)
    generalize World.drew _ = w12 at HS4 HQ4 HB4 hHeld ⊢
    refine pure_ (i := 1) (N := some 65) (v := ?_) (a' := ?_) #[false, true, false, false, false, false] rfl rfl (by kernel_rfl) (fun _ _ _ h => h) (Or.inl ⟨by rfl, ?_⟩) ?_ ?_
    rotate_left
    ·intro w'
     go_simp
     with_reducible rfl
    rotate_left
    ·simp only [Act.put, List.setIfInBounds_toArray, List.set_cons_zero, List.set_cons_succ, i64_w, i32_w]
     rfl
    refine pure_ (i := 2) (N := some 66) (v := ?_) (a' := ?_) #[false, true, true, false, false, false] rfl rfl (by kernel_rfl) (fun _ _ _ h => h) (Or.inl ⟨by rfl, ?_⟩) ?_ ?_
    rotate_left
    ·intro w'
     go_simp
     with_reducible rfl
    rotate_left
    ·simp only [Act.put, List.setIfInBounds_toArray, List.set_cons_zero, List.set_cons_succ, i64_w, i32_w]
     rfl
    refine pure_ (i := 3) (N := some 67) (v := ?_) (a' := ?_) #[false, true, true, true, false, false] rfl rfl (by kernel_rfl) (fun _ _ _ h => h) (Or.inl ⟨by rfl, ?_⟩) ?_ ?_
    rotate_left
    ·intro w'
     go_simp
     with_reducible rfl
    rotate_left
    ·simp only [Act.put, List.setIfInBounds_toArray, List.set_cons_zero, List.set_cons_succ, i64_w, i32_w]
     rfl
    refine pure_ (i := 4) (N := some 68) (v := ?_) (a' := ?_) #[false, true, true, true, true, false] rfl rfl (by kernel_rfl) (fun _ _ _ h => h) (Or.inl ⟨by rfl, ?_⟩) ?_ ?_
    rotate_left
    ·intro w'
     go_simp
     with_reducible rfl
    rotate_left
    ·simp only [Act.put, List.setIfInBounds_toArray, List.set_cons_zero, List.set_cons_succ, i64_w, i32_w]
     rfl
    refine take_ (i := 0) (N := some 64) (v := ?_) (a' := ?_) #[true, true, true, true, true, false] rfl rfl (by kernel_rfl) (fun _ _ _ h => h) (Or.inl ⟨by rfl, ?_⟩) hHeld ?_ ?_
    rotate_left
    ·intro w' s0
     go_simp
     with_reducible rfl
    rotate_left
    ·simp only [Act.put, List.setIfInBounds_toArray, List.set_cons_zero, List.set_cons_succ, i64_w, i32_w]
     rfl
    refine one_ (i := 5) (N := some 69) #[true, true, true, true, true, true] rfl rfl (by kernel_rfl) (by decide) (fun K hK => ?_)
    refine goesV_ Try.func38 (by kernel_rfl) rfl #[.int .i64 (bits .or .i64 u (wrap64 (2 ^ i.toNat)))] (by rfl) rfl rfl (by rfl) (by simp only [List.map_toArray, List.map_cons, List.map_nil]; rfl) ?_
    simp only [List.append_toArray, List.cons_append, List.nil_append]
    refine (IH.out k1 (by have := HK1.out; omega) w0 g _ cL L (bits .or .i64 u (wrap64 (2 ^ i.toNat))) M' (out' ++ [i]) _ (true, M2, o2) _ HL.out HCL.out HS4.out HB4.out HE.out).mono ?_
    rintro e w9 ⟨v9, rfl, hs9, hk9, hf9, hb9⟩
    refine ⟨_, rfl, ?_⟩
    have HS9 := Aside0.mk hs9
    have HQ9 := Aside0.mk (HQ2.out.then_ (HQ4.out.then_ hk9 FR4.out.sub) HF.out.sub)
    have HF9 := Aside0.mk (HF.out.trans (FR4.out.trans hf9 HQ4.out.1) HQ2.out.1)
    have HB9 := Aside0.mk hb9
    have HX9 := Aside0.mk ((HX2.out.kept HQ4.out FR4.out).kept hk9 hf9)
    clear hs9 hk9 hf9 hb9 HS4 HQ4 FR4 HB4
    refine hK.out _ _ ((blk_cell HS9.out.env.e 0).trans rfl) (fun hHeld => ?_)
    clear hK K
    refine norm_ (a' := ?_) ?_ ?_
    rotate_left
    ·show Act.put _ (some 69) _ = _
     simp only [Act.put, List.setIfInBounds_toArray, List.set_cons_zero, List.set_cons_succ, i64_w, i32_w]
     rfl
    refine done_ (by kernel_rfl) ?_
    go_wp2
    go_ret
    first | exact ⟨v9, rfl, HS9.out, HQ9.out, HF9.out, HB9.out⟩ | exact ⟨rfl, v9, HS9.out, HQ9.out, HF9.out, HB9.out⟩
   simp only [Bool.false_eq_true, if_false] at H
   by_cases cn : 0 < o2.length ∧ o2.length < 1000000
   rotate_left
   ·rw [if_neg cn] at H; cases H
   rw [if_pos cn] at H
   have H' := Aside0.mk H
   have CN := Aside0.mk cn
   clear H cn
   go_wp2_with fail
   refine (impl_exchange.calls k1 As cs2 (rd_L1 L s) Al cl (rd_L1 L i) x y true _ HIS.out HLS.out HIE.out HLE.out T1.out).mono ?_
   rintro e w5 ⟨rfl, hb5⟩
   have hb5' : Below wr.heap.size wr w5 := by first | exact hb5 | exact Drawn0.below hb5
   have HS2 := Aside0.mk (HS1.out.below hb5')
   have HQ2 := Aside0.mk (HQ.out.then_ (Kept.of_below hb5' (Wq g (.slice Ao out'.length co'))) HF.out.sub)
   have HB2 := Aside0.mk (HB.out.trans (hb5'.mono HB.out.size))
   have HX2 := Aside0.mk (HX.out.below hb5')
   clear hb5 hb5'
   go_wp2_with fail
   refine (impl_adjacent.calls x y true _ T2.out).mono ?_
   rintro e w6 ⟨rfl, hd6⟩
   have hb6 : Below w5.heap.size w5 w6 := by first | exact hd6 | exact Drawn0.below hd6
   have n0_ := Aside0.mk (HS2.out.below hb6)
   have n1_ := Aside0.mk (HQ2.out.then_ (Kept.of_below hb6 (Wq g (.slice Ao out'.length co'))) HF.out.sub)
   have n2_ := Aside0.mk (HB2.out.trans (hb6.mono HB2.out.size))
   have n3_ := Aside0.mk (HX2.out.below hb6)
   clear HS2 HQ2 HB2 HX2 hd6 hb6
   have HS2 := n0_
   have HQ2 := n1_
   have HB2 := n2_
   have HX2 := n3_
   clear n0_ n1_ n2_ n3_
   have ho6 : w6.cell? ⟨g.bo, 0, none⟩ = some (.slice Ao out'.length co') := (blk_cell HS2.out.o 0).trans rfl
   go_upto_region 13 with (first | ((with_reducible refine gate_builtin (b := .append) (xs := #[.tmp 60, .tmp 62]) rfl ?_); at_builtin; refine Kd.R_append (Kd.int .i64) (w0 := w0) w0.heap.size rfl (.tmp 60) (.tmp 62) 38 3 (.int .i64 0) 8 rfl Try.underlying38 info3 rfl (by decide) (by omega) (.slice Ao out'.length co') out' i [.int .i64 i] g.Ok (fun _ => False) rfl (by first | (go_simp; done) | (go_simp; rfl)) ?aP (fun _ hk => hk.elim) ?aF ?aO ?aB ?aS ?aL ?_; (case aP => exact rfl); (case aB => exact HB2.out); (case aF => exact HS2.out.fresh); (case aO => exact HS2.out.r); (case aS => exact HB2.out.size); (case aL => have := CP.out; omega); intro v8 w8 ho8 hb8 hg8 hat8; obtain ⟨A8, c8, e8⟩ := Kd.R_slice ho8; rw [List.length_append, show [i].length = 1 from rfl] at e8; subst e8; have HS4 := Aside0.mk (HS2.out.app ho8 hg8); have HQ4 := Aside0.mk (kq_setO (g := g) (vo := (.slice Ao out'.length co')) (kq_app (g := g) (vo := (.slice Ao out'.length co')) (Kept.refl w6 _) hg8) (.slice A8 (out'.length + 1) c8)); have FR4 := Aside0.mk (show Fr w6 (.slice Ao out'.length co') (.slice A8 (out'.length + 1) c8) from Fr.new hat8); have HB4 := Aside0.mk (below_setO HS2.out hb8 (.slice A8 (out'.length + 1) c8)); have hoc : w8.cell? ⟨g.bo, 0, none⟩ = some (.slice Ao out'.length co') := (blk_cell (HS2.out.appO hg8) 0).trans rfl; have hof := blk_frozen (HS2.out.appO hg8) 0; clear ho8 hb8 hg8 hat8))
   have n0_ := Aside0.mk HS4.out.drew
   have n1_ := Aside0.mk (HQ4.out.drewN 1)
   have n2_ := Aside0.mk (below_drew1 HB4.out)
   clear HS4 HQ4 HB4 ho6 hoc hof
   have HS4 := n0_
   have HQ4 := Aside0.mk (show Kept w6 (World.drew _) (Wq g (.slice Ao out'.length co')) from n1_.out)
   have HB4 := n2_
   clear n0_ n1_ n2_
   refine start_ (n := 6) (S := fun w' => w'.cell? ⟨g.be, 0, none⟩ = some (.func (.func 38) #[] #[.pointer (some ⟨g.bo, 0, none⟩), .pointer (some ⟨g.bv, 0, none⟩), .pointer (some ⟨g.bm, 0, none⟩), .pointer (some ⟨g.be, 0, none⟩)])) (ds := []) #[false, false, false, false, false, false] (by kernel_rfl) rfl rfl ((blk_cell HS4.out.env.e 0).trans rfl) (fun hHeld => ?_)
   generalize World.drew _ = w12 at HS4 HQ4 HB4 hHeld ⊢
   refine pure_ (i := 1) (N := some 65) (v := ?_) (a' := ?_) #[false, true, false, false, false, false] rfl rfl (by kernel_rfl) (fun _ _ _ h => h) (Or.inl ⟨by rfl, ?_⟩) ?_ ?_
   rotate_left
   ·intro w'
    go_simp
    with_reducible rfl
   rotate_left
   ·simp only [Act.put, List.setIfInBounds_toArray, List.set_cons_zero, List.set_cons_succ, i64_w, i32_w]
    rfl
   refine pure_ (i := 2) (N := some 66) (v := ?_) (a' := ?_) #[false, true, true, false, false, false] rfl rfl (by kernel_rfl) (fun _ _ _ h => h) (Or.inl ⟨by rfl, ?_⟩) ?_ ?_
   rotate_left
   ·intro w'
    go_simp
    with_reducible rfl
   rotate_left
   ·simp only [Act.put, List.setIfInBounds_toArray, List.set_cons_zero, List.set_cons_succ, i64_w, i32_w]
    rfl
   refine pure_ (i := 3) (N := some 67) (v := ?_) (a' := ?_) #[false, true, true, true, false, false] rfl rfl (by kernel_rfl) (fun _ _ _ h => h) (Or.inl ⟨by rfl, ?_⟩) ?_ ?_
   rotate_left
   ·intro w'
    go_simp
    with_reducible rfl
   rotate_left
   ·simp only [Act.put, List.setIfInBounds_toArray, List.set_cons_zero, List.set_cons_succ, i64_w, i32_w]
    rfl
   refine pure_ (i := 4) (N := some 68) (v := ?_) (a' := ?_) #[false, true, true, true, true, false] rfl rfl (by kernel_rfl) (fun _ _ _ h => h) (Or.inl ⟨by rfl, ?_⟩) ?_ ?_
   rotate_left
   ·intro w'
    go_simp
    with_reducible rfl
   rotate_left
   ·simp only [Act.put, List.setIfInBounds_toArray, List.set_cons_zero, List.set_cons_succ, i64_w, i32_w]
    rfl
   refine take_ (i := 0) (N := some 64) (v := ?_) (a' := ?_) #[true, true, true, true, true, false] rfl rfl (by kernel_rfl) (fun _ _ _ h => h) (Or.inl ⟨by rfl, ?_⟩) hHeld ?_ ?_
   rotate_left
   ·intro w' s0
    go_simp
    with_reducible rfl
   rotate_left
   ·simp only [Act.put, List.setIfInBounds_toArray, List.set_cons_zero, List.set_cons_succ, i64_w, i32_w]
    rfl
   refine one_ (i := 5) (N := some 69) #[true, true, true, true, true, true] rfl rfl (by kernel_rfl) (by decide) (fun K hK => ?_)
   refine goesV_ Try.func38 (by kernel_rfl) rfl #[.int .i64 (bits .or .i64 u (wrap64 (2 ^ i.toNat)))] (by rfl) rfl rfl (by rfl) (by simp only [List.map_toArray, List.map_cons, List.map_nil]; rfl) ?_
   simp only [List.append_toArray, List.cons_append, List.nil_append]
   refine (IH.out k1 (by have := HK1.out; omega) w0 g _ cL L (bits .or .i64 u (wrap64 (2 ^ i.toNat))) M' (out' ++ [i]) _ (false, M2, o2) _ HL.out HCL.out HS4.out HB4.out HE.out).mono ?_
   rintro e w9 ⟨v9, rfl, hs9, hk9, hf9, hb9⟩
   refine ⟨_, rfl, ?_⟩
   have HS9 := Aside0.mk hs9
   have HQ9 := Aside0.mk (HQ2.out.then_ (HQ4.out.then_ hk9 FR4.out.sub) HF.out.sub)
   have HF9 := Aside0.mk (HF.out.trans (FR4.out.trans hf9 HQ4.out.1) HQ2.out.1)
   have HB9 := Aside0.mk hb9
   have HX9 := Aside0.mk ((HX2.out.kept HQ4.out FR4.out).kept hk9 hf9)
   clear hs9 hk9 hf9 hb9 HS4 HQ4 FR4 HB4
   refine hK.out _ _ ((blk_cell HS9.out.env.e 0).trans rfl) (fun hHeld => ?_)
   clear hK K
   refine norm_ (a' := ?_) ?_ ?_
   rotate_left
   ·show Act.put _ (some 69) _ = _
    simp only [Act.put, List.setIfInBounds_toArray, List.set_cons_zero, List.set_cons_succ, i64_w, i32_w]
    rfl
   refine done_ (by kernel_rfl) ?_
   dsimp only at HS9
   obtain ⟨A9, c9, e9⟩ := Kd.R_slice HS9.out.r
   subst e9
   obtain ⟨ii, hinf, hz0, hz1, hz2⟩ := info_parts info3
   clear hz0 hz1 hz2
   have hsub : IntKind.i64.wrap ((o2.length : Int) - 1) = (o2.length : Int) - 1 := IntWalk.i64_in _ (by have := CN.out; omega)
   have hsub' : wrap64 ((o2.length : Int) - 1) = (o2.length : Int) - 1 := by have := CN.out; unfold wrap64; omega
   have hcut := cut_to (P := Try.prog) 38 3 .i64 Try.underlying38 hinf A9 o2.length c9 ((o2.length : Int) - 1) (by have := CN.out; omega) (by omega) (Kd.R_reads' HS9.out.r).2.1
   have hto : ((o2.length : Int) - 1).toNat = o2.length - 1 := by omega
   rw [hto] at hcut
   have ho9 : w9.cell? ⟨g.bo, 0, none⟩ = some (.slice A9 o2.length c9) := (blk_cell HS9.out.o 0).trans rfl
   have hof9 := blk_frozen HS9.out.o 0
   clear hinf
   go_wp2
   have hr : (Kd.int .i64).R 3 w9 w0.heap.size g.Ok (.slice A9 (o2.length - 1) c9) (o2.take (o2.length - 1)) := Kd.R_take HS9.out.r (by omega)
   have HFT := Aside0.mk (show Fr w9 (.slice A9 o2.length c9) (.slice A9 (o2.length - 1) c9) from fun k_ hk_ => .inl (by first | exact hk_ | (cases A9 <;> exact hk_)))
   go_roundg k1
   case measure => have := HK1.out; omega
   case rel => exact ⟨wrap64 (i + 1), M2, o2.take (o2.length - 1), _, rfl, H', ⟨by have := HK1.out; omega⟩, ⟨HS9.out.setO hr⟩, ⟨kq_setO HQ9.out _⟩, ⟨HF9.out.trans HFT.out HQ9.out.1⟩, ⟨below_setO HS9.out HB9.out _⟩, ⟨HX9.out.kept (kq_setO (g := g) (vo := .slice A9 o2.length c9) (Kept.refl w9 _) _) HFT.out⟩⟩
open Go.Proofs.Ytmkokfljonbcmaa.PrS Go.Proofs.Ytmkokfljonbcmaa.AlW in
set_option maxHeartbeats 8000000 in
set_option maxRecDepth 100000 in
theorem impl_AdjacentList.calls (k : Nat) (a0 a1 : Int) (r1 : List (List Int)) (r2 : Bool) (w : World) (h : impl_AdjacentList.f k a0 a1 = some (r1, r2)) :
  Calls Try.prog 7 #[.int .i64 a0, .int .i64 a1] w fun e w' => ∃ v0_ : Value, e = .returned (.tuple #[v0_, .bool r2]) ∧ Kd.S (Kd.slice 3 (Kd.int .i64)) 38 w' w.heap.size (fun _ => True) v0_ r1 ∧ Below w.heap.size w w' := by
 unfold impl_AdjacentList.f at h
 obtain ⟨⟨ev, od, ok⟩, h1, H⟩ := Option.bind_eq_some_iff.mp h
 have T1 := Aside0.mk h1
 clear h h1
 dsimp only at H
 cases ok
 ·simp only [Bool.false_eq_true, if_false, Option.some.injEq, Prod.mk.injEq] at H
  obtain ⟨rfl, rfl⟩ := H
  go_enter Try.func7, Try.ntmps7
  go_wp2_with fail
  refine (impl_AdjacentHalves.calls k a0 a1 ev od false _ T1.out).mono ?_
  rintro e w1 ⟨rfl, hb1⟩
  have HB := Aside0.mk hb1
  clear hb1
  go_wp2
  go_ret2
  exact ⟨_, rfl, Kd.S_nil _ _ _ _ _, HB.out⟩
 simp only [if_true] at H
 by_cases cg : 6 < a0
 ·rw [if_pos cg] at H
  simp only [Option.some.injEq, Prod.mk.injEq] at H
  obtain ⟨rfl, rfl⟩ := H
  have cgb : decide (6 < a0) = true := decide_eq_true cg
  clear cg
  go_enter Try.func7, Try.ntmps7
  go_wp2_with fail
  refine (impl_AdjacentHalves.calls k a0 a1 ev od true _ T1.out).mono ?_
  rintro e w1 ⟨rfl, hb1⟩
  have HB := Aside0.mk hb1
  clear hb1
  go_wp2
  go_ret2
  exact ⟨_, rfl, Kd.S_nil _ _ _ _ _, HB.out⟩
 rw [if_neg cg] at H
 have cgb : decide (6 < a0) = false := decide_eq_false cg
 obtain ⟨mx, hmx⟩ : ∃ m_ : Int, (if wrap64 (ev - od) < wrap64 (od - ev) then wrap64 (od - ev) else wrap64 (ev - od)) = m_ := ⟨_, rfl⟩
 rw [hmx] at H
 by_cases cx : mx > 1
 ·rw [if_pos cx] at H
  simp only [Option.some.injEq, Prod.mk.injEq] at H
  obtain ⟨rfl, rfl⟩ := H
  have cxb : decide (1 < mx) = true := decide_eq_true cx
  clear cx cg
  go_enter Try.func7, Try.ntmps7
  go_wp2_with fail
  refine (impl_AdjacentHalves.calls k a0 a1 ev od true _ T1.out).mono ?_
  rintro e w1 ⟨rfl, hb1⟩
  have HB := Aside0.mk hb1
  clear hb1
  go_wp2
  go_ret2
  exact ⟨_, rfl, Kd.S_nil _ _ _ _ _, HB.out⟩
 rw [if_neg cx] at H
 have cxb : decide (1 < mx) = false := decide_eq_false cx
 clear cx cg
 replace H := Option.bind_eq_some_iff.mp H
 obtain ⟨L, h2, H⟩ := H
 replace H := Option.bind_eq_some_iff.mp H
 obtain ⟨⟨fd, M2, o2⟩, h3, H⟩ := H
 have T2 := Aside0.mk h2
 have T3 := Aside0.mk h3
 clear h2 h3
 dsimp only at H
 have HH := Aside0.mk H
 clear H
 cases fd
 ·have H := HH.out
  simp only [Bool.false_eq_true, if_false, Option.some.injEq, Prod.mk.injEq] at H
  obtain ⟨rfl, rfl⟩ := H
  clear HH
  go_enter Try.func7, Try.ntmps7
  go_wp2_with fail
  refine (impl_AdjacentHalves.calls k a0 a1 ev od true _ T1.out).mono ?_
  rintro e w1 ⟨rfl, hb1⟩
  have HB := Aside0.mk hb1
  clear hb1
  go_wp2_with fail
  refine (impl_allCombinations.calls k a0 a1 L _ T2.out).mono ?_
  rintro e w2 ⟨vL, rfl, hSL, hb2⟩
  obtain ⟨AL, cL, rfl⟩ := Kd.S_slice hSL
  have HSL := Aside0.mk hSL
  have HB2 := Aside0.mk (HB.out.trans (hb2.mono HB.out.size))
  have HW := Aside0.mk hb2.size
  have HW0 := Aside0.mk HB.out.size
  clear hSL hb2
  go_upto_region 5 with (first | ((with_reducible refine gate_dst (N := 9) rfl ?_); refine box_event ?hg (N := 9) ?hd (cs := #[.slice none 0 0]) (t := 22) ?hr ?_; (case hd => rfl); (case hg => rfl); (case hr => first | (go_simp; done) | (go_simp; rfl)); intro gv hg w3 hbox hb; have BV := Aside0.mk hbox; have HG := Aside0.mk hg; have HB3 := Aside0.mk hb; have hcv : w3.cell? ⟨gv, 0, none⟩ = some (.slice none 0 0) := (blk_cell hbox 0).trans rfl; have hfv := blk_frozen hbox 0; clear hb hbox hg))
  have HB4 := Aside0.mk (show Below w2.heap.size w2 (w3.setCell ⟨gv, 0, none⟩ (.slice AL L.length cL)) from below_set HB3.out (by rw [HG.out]; exact Nat.le_refl _))
  have BV4 := Aside0.mk (show (w3.setCell ⟨gv, 0, none⟩ (.slice AL L.length cL)).heap[gv]? = some (.cells #[.slice AL L.length cL] 22 (0, 0)) from blk_put BV.out 0 _ rfl)
  have LV := Aside0.mk (show w2.heap.size ≤ gv by rw [HG.out]; exact Nat.le_refl _)
  clear BV HG HB3 hcv hfv
  generalize w3.setCell ⟨gv, 0, none⟩ (.slice AL L.length cL) = w4 at HB4 BV4 ⊢
  have hmm := @run_makeMap Try.prog
  go_upto_region 6 with (first | ((with_reducible refine gate_dst (N := 10) rfl ?_); refine box_event ?hg (N := 10) ?hd (cs := #[.map none]) (t := 53) ?hr ?_; (case hd => rfl); (case hg => rfl); (case hr => first | (go_simp; done) | (go_simp; rfl)); intro gm hg w5 hbox hb; have BM := Aside0.mk hbox; have HG := Aside0.mk hg; have HB5 := Aside0.mk hb; have hcm : w5.cell? ⟨gm, 0, none⟩ = some (.map none) := (blk_cell hbox 0).trans rfl; have hfm := blk_frozen hbox 0; clear hb hbox hg))
  have n0_ := Aside0.mk (show Below w2.heap.size w2 (w5.setCell ⟨gm, 0, none⟩ (.map (some w4.heap.size))) from below_set (below_step (below_alloc HB4.out _) HB5.out) (by rw [HG.out]; have := HB4.out.size; have := (Below.refl w4.heap.size w4).size; have h2 := (below_alloc (Below.refl w4.heap.size w4) (.map #[] 0)).size; omega))
  have GM := Aside0.mk (show w4.heap.size < gm by rw [HG.out]; exact (PSet.made w4 Try.prog 56 4).lt)
  have n1_ := Aside0.mk (show (w5.setCell ⟨gm, 0, none⟩ (.map (some w4.heap.size))).heap[gv]? = some (.cells #[.slice AL L.length cL] 22 (0, 0)) from blk_far (blk_below (blk_alloc BV4.out _) HB5.out) (by have h1 := blk_lt BV4.out; have h2 := GM.out; show gv ≠ gm; omega) _)
  have n2_ := Aside0.mk (show (w5.setCell ⟨gm, 0, none⟩ (.map (some w4.heap.size))).heap[gm]? = some (.cells #[.map (some w4.heap.size)] 53 (0, 0)) from blk_put BM.out 0 _ rfl)
  have HM := Aside0.mk (((PSet.made w4 Try.prog 56 4).below HB5.out).setCell (a := ⟨gm, 0, none⟩) (by have h2 := GM.out; show w4.heap.size ≠ gm; omega) (.map (some w4.heap.size)))
  have LQ := Aside0.mk HB4.out.size
  have LV2 := Aside0.mk (blk_lt BV4.out)
  clear HB4 BV4 BM HG HB5 hcm hfm hmm
  have HB6 := n0_
  have BV6 := n1_
  have BM6 := n2_
  clear n0_ n1_ n2_
  generalize w5.setCell ⟨gm, 0, none⟩ (.map (some w4.heap.size)) = w6 at HB6 BV6 BM6 HM ⊢
  have LM6 := Aside0.mk (blk_lt BM6.out)
  go_upto_region 7 with (first | ((with_reducible refine gate_dst (N := 43) rfl ?_); refine Kd.R_lit (Kd.int .i64) (w0 := w2) w2.heap.size 3 ?hg (N := 43) ?hd (xs := ([0] : List Int)) (inner := [.int .i64 0]) (ok := fun k_ => w6.heap.size ≤ k_) (okp := fun _ => False) ?hr ?hp (fun _ hk => hk.elim) (Nat.le_refl _) HB6.out HB6.out.size (by simp) ?_; (case hd => rfl); (case hg => rfl); (case hr => first | (go_simp; done) | (go_simp; rfl)); (case hp => exact (Reps.one rfl (Reps.none _ _))); intro vr w7 ho hb hg hnew; obtain ⟨Ar, cr, er⟩ := Kd.R_slice ho; rw [show ([0] : List Int).length = 1 from rfl] at er; subst er; have HO := Aside0.mk ho; have HB7 := Aside0.mk hb; have HG7 := Aside0.mk hg; clear ho hb hg hnew) | ((with_reducible refine gate_dst (N := 11) rfl ?_); refine box_event ?hg (N := 11) ?hd (cs := #[.slice none 0 0]) (t := 38) ?hr ?_; (case hd => rfl); (case hg => rfl); (case hr => first | (go_simp; done) | (go_simp; rfl)); intro go hg w8 hbox hb; have BO := Aside0.mk hbox; have HGO := Aside0.mk hg; have HB8 := Aside0.mk hb; have hco : w8.cell? ⟨go, 0, none⟩ = some (.slice none 0 0) := (blk_cell hbox 0).trans rfl; have hfo := blk_frozen hbox 0; clear hb hbox hg))
  have GO := Aside0.mk (show w6.heap.size ≤ go by rw [HGO.out]; exact HG7.out.size)
  have n0_ := Aside0.mk (show Below w2.heap.size w2 (w8.setCell ⟨go, 0, none⟩ (.slice Ar 1 cr)) from below_set (below_step HB7.out HB8.out) (by have h1 := GO.out; have h2 := HB6.out.size; omega))
  have n1_ := Aside0.mk (show (w8.setCell ⟨go, 0, none⟩ (.slice Ar 1 cr)).heap[gv]? = some (.cells #[.slice AL L.length cL] 22 (0, 0)) from blk_far (blk_below (blk_grown BV6.out HG7.out (fun e_ => by cases e_)) HB8.out) (by have h1 := blk_lt BV6.out; have h2 := GO.out; show gv ≠ go; omega) _)
  have n2_ := Aside0.mk (show (w8.setCell ⟨go, 0, none⟩ (.slice Ar 1 cr)).heap[gm]? = some (.cells #[.map (some w4.heap.size)] 53 (0, 0)) from blk_far (blk_below (blk_grown BM6.out HG7.out (fun e_ => by cases e_)) HB8.out) (by have h1 := blk_lt BM6.out; have h2 := GO.out; show gm ≠ go; omega) _)
  have n3_ := Aside0.mk (((HM.out.kept HG7.out (fun e_ => by cases e_)).below HB8.out).setCell (a := ⟨go, 0, none⟩) (by have h1 := HM.out.lt; have h2 := GO.out; show w4.heap.size ≠ go; omega) (.slice Ar 1 cr))
  have n4_ := Aside0.mk (show (w8.setCell ⟨go, 0, none⟩ (.slice Ar 1 cr)).heap[go]? = some (.cells #[.slice Ar 1 cr] 38 (0, 0)) from blk_put BO.out 0 _ rfl)
  have n5_ := Aside0.mk (Kd.R_far (Kd.R_below (Kd.R_mono (ok' := fun k_ => w6.heap.size ≤ k_ ∧ k_ ≠ go) (Kd.R_bound HO.out) (fun k_ hk_ => ⟨hk_.1, by have h1 := hk_.2.2.1; have h2 := HGO.out; omega⟩)) HB8.out) (p := ⟨go, 0, none⟩) (fun k_ hk_ => hk_.2) (.slice Ar 1 cr))
  clear HB6 BV6 BM6 HM HO HB7 HG7 BO HGO HB8 hco hfo
  have HB9 := n0_
  have BV9 := n1_
  have BM9 := n2_
  have HM9 := n3_
  have BO9 := n4_
  have HO9 := n5_
  clear n0_ n1_ n2_ n3_ n4_ n5_
  generalize w8.setCell ⟨go, 0, none⟩ (.slice Ar 1 cr) = w9 at HB9 BV9 BM9 HM9 BO9 HO9 ⊢
  have hsf := @run_store_func Try.prog
  have hmf : ∀ (fn : Fn) (first cap : Array Value) (w : World), (Instr.makeFunc fn first cap).run Try.prog w = .ok (.func fn first cap) w := fun _ _ _ _ => rfl
  go_upto_region 9 with (first | ((with_reducible refine gate_dst (N := 12) rfl ?_); refine box_event ?hg (N := 12) ?hd (cs := #[.nilFunc]) (t := 54) ?hr ?_; (case hd => rfl); (case hg => rfl); (case hr => first | (go_simp; done) | (go_simp; rfl)); intro ge hg w11 hbox hb; have BE := Aside0.mk hbox; have HGE := Aside0.mk hg; have HB11 := Aside0.mk hb; have hce : w11.cell? ⟨ge, 0, none⟩ = some .nilFunc := (blk_cell hbox 0).trans rfl; have hfe := blk_frozen hbox 0; clear hb hbox hg))
  have GE := Aside0.mk (show w9.heap.size ≤ ge by rw [HGE.out]; exact Nat.le_refl _)
  have L1 := Aside0.mk (blk_lt BV9.out)
  have L2 := Aside0.mk (blk_lt BM9.out)
  have L3 := Aside0.mk (blk_lt BO9.out)
  have L4 := Aside0.mk HM9.out.lt
  have L5 := Aside0.mk HB9.out.size
  have n0_ := Aside0.mk (show Below w2.heap.size w2 (w11.setCell ⟨ge, 0, none⟩ (.func (.func 38) #[] #[.pointer (some ⟨go, 0, none⟩), .pointer (some ⟨gv, 0, none⟩), .pointer (some ⟨gm, 0, none⟩), .pointer (some ⟨ge, 0, none⟩)])) from below_set (below_step HB9.out HB11.out) (by have h1 := GE.out; have h2 := L5.out; omega))
  have HS := Aside0.mk (show St Try.prog 56 4 (w11.setCell ⟨ge, 0, none⟩ (.func (.func 38) #[] #[.pointer (some ⟨go, 0, none⟩), .pointer (some ⟨gv, 0, none⟩), .pointer (some ⟨gm, 0, none⟩), .pointer (some ⟨ge, 0, none⟩)])) w2.heap.size (⟨w4.heap.size, gm, gv, go, ge⟩ : Bl) (impl_AdjacentList.cs AL L.length cL (⟨w4.heap.size, gm, gv, go, ge⟩ : Bl)) [] [0] (.slice Ar 1 cr) from by
   have q1 := L1.out
   have q2 := L2.out
   have q3 := L3.out
   have q4 := L4.out
   have q5 := GE.out
   have q6 := LQ.out
   have q7 := LV.out
   have q8 := LV2.out
   have q9 := GM.out
   have q10 := GO.out
   have q11 := LM6.out
   refine ⟨⟨?_, ?_, ?_⟩, ⟨⟨?_, ?_, ?_⟩, ⟨?_, ?_⟩⟩, ?_, ?_, ?_⟩
   ·exact blk_far (blk_below BM9.out HB11.out) (by show gm ≠ ge; omega) _
   ·exact blk_far (blk_below BV9.out HB11.out) (by show gv ≠ ge; omega) _
   ·exact blk_put BE.out 0 _ rfl
   ·show gm ≠ go; omega
   ·show gv ≠ go; omega
   ·show ge ≠ go; omega
   ·show w2.heap.size ≤ w4.heap.size; omega
   ·show w2.heap.size ≤ go; omega
   ·exact blk_far (blk_below BO9.out HB11.out) (by show go ≠ ge; omega) _
   ·exact (HM9.out.below HB11.out).setCell (a := ⟨ge, 0, none⟩) (by show w4.heap.size ≠ ge; omega) _
   ·refine Kd.R_far (Kd.R_below (Kd.R_mono (Kd.R_bound HO9.out) (fun k_ hk_ => ?_)) HB11.out) (p := ⟨ge, 0, none⟩) (fun k_ hk_ => hk_.2.2.2.2) _
    obtain ⟨⟨h1, h2⟩, h3, h4, _⟩ := hk_
    refine ⟨?_, ?_, ?_, h2, ?_⟩
    ·show k_ ≠ w4.heap.size; omega
    ·show k_ ≠ gm; omega
    ·show k_ ≠ gv; omega
    ·show k_ ≠ ge; omega)
  clear HB9 BV9 BM9 HM9 BO9 HO9 BE HGE HB11 hce hfe hmf hsf L1 L2 L3 L4 L5 LQ LV LV2 GM GO LM6 GE
  have HBS := n0_
  clear n0_
  generalize w11.setCell ⟨ge, 0, none⟩ (.func (.func 38) #[] #[.pointer (some ⟨go, 0, none⟩), .pointer (some ⟨gv, 0, none⟩), .pointer (some ⟨gm, 0, none⟩), .pointer (some ⟨ge, 0, none⟩)]) = w12 at HBS HS ⊢
  have hbe : w12.cell? ⟨ge, 0, none⟩ = some (.func (.func 38) #[] #[.pointer (some ⟨go, 0, none⟩), .pointer (some ⟨gv, 0, none⟩), .pointer (some ⟨gm, 0, none⟩), .pointer (some ⟨ge, 0, none⟩)]) := (blk_cell HS.out.env.e 0).trans rfl
  go_wp2_with fail
  refine (impl_AdjacentList.ext k w2 (⟨w4.heap.size, gm, gv, go, ge⟩ : Bl) AL cL L 1 [] [0] (.slice Ar 1 cr) (false, M2, o2) _ (Kd.S_reads' HSL.out).2.2 (Kd.S_reads' HSL.out).2.1 HS.out HBS.out T3.out).mono ?_
  rintro e w13 ⟨v13, rfl, hs13, _, _, hb13⟩
  clear HS HBS hbe
  have HS := Aside0.mk hs13
  have HBS := Aside0.mk hb13
  clear hs13 hb13
  have HB := Aside0.mk (HB2.out.trans (HBS.out.mono HB2.out.size))
  go_wp2
  go_ret2
  exact ⟨_, rfl, Kd.S_nil _ _ _ _ _, HB.out⟩
 have H := HH.out
 simp only [if_true] at H
 clear HH
 by_cases cn : o2.Nodup
 rotate_left
 ·rw [if_neg cn] at H; cases H
 rw [if_pos cn] at H
 have CN := Aside0.mk cn
 clear cn
 replace H := Option.bind_eq_some_iff.mp H
 obtain ⟨o, h4, H⟩ := H
 simp only [Option.some.injEq, Prod.mk.injEq] at H
 obtain ⟨rfl, rfl⟩ := H
 have T4 := Aside0.mk h4
 clear h4
 go_enter Try.func7, Try.ntmps7
 go_wp2_with fail
 refine (impl_AdjacentHalves.calls k a0 a1 ev od true _ T1.out).mono ?_
 rintro e w1 ⟨rfl, hb1⟩
 have HB := Aside0.mk hb1
 clear hb1
 go_wp2_with fail
 refine (impl_allCombinations.calls k a0 a1 L _ T2.out).mono ?_
 rintro e w2 ⟨vL, rfl, hSL, hb2⟩
 obtain ⟨AL, cL, rfl⟩ := Kd.S_slice hSL
 have HSL := Aside0.mk hSL
 have HB2 := Aside0.mk (HB.out.trans (hb2.mono HB.out.size))
 have HW := Aside0.mk hb2.size
 have HW0 := Aside0.mk HB.out.size
 clear hSL hb2
 go_upto_region 5 with (first | ((with_reducible refine gate_dst (N := 9) rfl ?_); refine box_event ?hg (N := 9) ?hd (cs := #[.slice none 0 0]) (t := 22) ?hr ?_; (case hd => rfl); (case hg => rfl); (case hr => first | (go_simp; done) | (go_simp; rfl)); intro gv hg w3 hbox hb; have BV := Aside0.mk hbox; have HG := Aside0.mk hg; have HB3 := Aside0.mk hb; have hcv : w3.cell? ⟨gv, 0, none⟩ = some (.slice none 0 0) := (blk_cell hbox 0).trans rfl; have hfv := blk_frozen hbox 0; clear hb hbox hg))
 have HB4 := Aside0.mk (show Below w2.heap.size w2 (w3.setCell ⟨gv, 0, none⟩ (.slice AL L.length cL)) from below_set HB3.out (by rw [HG.out]; exact Nat.le_refl _))
 have BV4 := Aside0.mk (show (w3.setCell ⟨gv, 0, none⟩ (.slice AL L.length cL)).heap[gv]? = some (.cells #[.slice AL L.length cL] 22 (0, 0)) from blk_put BV.out 0 _ rfl)
 have LV := Aside0.mk (show w2.heap.size ≤ gv by rw [HG.out]; exact Nat.le_refl _)
 clear BV HG HB3 hcv hfv
 generalize w3.setCell ⟨gv, 0, none⟩ (.slice AL L.length cL) = w4 at HB4 BV4 ⊢
 have hmm := @run_makeMap Try.prog
 go_upto_region 6 with (first | ((with_reducible refine gate_dst (N := 10) rfl ?_); refine box_event ?hg (N := 10) ?hd (cs := #[.map none]) (t := 53) ?hr ?_; (case hd => rfl); (case hg => rfl); (case hr => first | (go_simp; done) | (go_simp; rfl)); intro gm hg w5 hbox hb; have BM := Aside0.mk hbox; have HG := Aside0.mk hg; have HB5 := Aside0.mk hb; have hcm : w5.cell? ⟨gm, 0, none⟩ = some (.map none) := (blk_cell hbox 0).trans rfl; have hfm := blk_frozen hbox 0; clear hb hbox hg))
 have n0_ := Aside0.mk (show Below w2.heap.size w2 (w5.setCell ⟨gm, 0, none⟩ (.map (some w4.heap.size))) from below_set (below_step (below_alloc HB4.out _) HB5.out) (by rw [HG.out]; have := HB4.out.size; have := (Below.refl w4.heap.size w4).size; have h2 := (below_alloc (Below.refl w4.heap.size w4) (.map #[] 0)).size; omega))
 have GM := Aside0.mk (show w4.heap.size < gm by rw [HG.out]; exact (PSet.made w4 Try.prog 56 4).lt)
 have n1_ := Aside0.mk (show (w5.setCell ⟨gm, 0, none⟩ (.map (some w4.heap.size))).heap[gv]? = some (.cells #[.slice AL L.length cL] 22 (0, 0)) from blk_far (blk_below (blk_alloc BV4.out _) HB5.out) (by have h1 := blk_lt BV4.out; have h2 := GM.out; show gv ≠ gm; omega) _)
 have n2_ := Aside0.mk (show (w5.setCell ⟨gm, 0, none⟩ (.map (some w4.heap.size))).heap[gm]? = some (.cells #[.map (some w4.heap.size)] 53 (0, 0)) from blk_put BM.out 0 _ rfl)
 have HM := Aside0.mk (((PSet.made w4 Try.prog 56 4).below HB5.out).setCell (a := ⟨gm, 0, none⟩) (by have h2 := GM.out; show w4.heap.size ≠ gm; omega) (.map (some w4.heap.size)))
 have LQ := Aside0.mk HB4.out.size
 have LV2 := Aside0.mk (blk_lt BV4.out)
 clear HB4 BV4 BM HG HB5 hcm hfm hmm
 have HB6 := n0_
 have BV6 := n1_
 have BM6 := n2_
 clear n0_ n1_ n2_
 generalize w5.setCell ⟨gm, 0, none⟩ (.map (some w4.heap.size)) = w6 at HB6 BV6 BM6 HM ⊢
 have LM6 := Aside0.mk (blk_lt BM6.out)
 go_upto_region 7 with (first | ((with_reducible refine gate_dst (N := 43) rfl ?_); refine Kd.R_lit (Kd.int .i64) (w0 := w2) w2.heap.size 3 ?hg (N := 43) ?hd (xs := ([0] : List Int)) (inner := [.int .i64 0]) (ok := fun k_ => w6.heap.size ≤ k_) (okp := fun _ => False) ?hr ?hp (fun _ hk => hk.elim) (Nat.le_refl _) HB6.out HB6.out.size (by simp) ?_; (case hd => rfl); (case hg => rfl); (case hr => first | (go_simp; done) | (go_simp; rfl)); (case hp => exact (Reps.one rfl (Reps.none _ _))); intro vr w7 ho hb hg hnew; obtain ⟨Ar, cr, er⟩ := Kd.R_slice ho; rw [show ([0] : List Int).length = 1 from rfl] at er; subst er; have HO := Aside0.mk ho; have HB7 := Aside0.mk hb; have HG7 := Aside0.mk hg; clear ho hb hg hnew) | ((with_reducible refine gate_dst (N := 11) rfl ?_); refine box_event ?hg (N := 11) ?hd (cs := #[.slice none 0 0]) (t := 38) ?hr ?_; (case hd => rfl); (case hg => rfl); (case hr => first | (go_simp; done) | (go_simp; rfl)); intro go hg w8 hbox hb; have BO := Aside0.mk hbox; have HGO := Aside0.mk hg; have HB8 := Aside0.mk hb; have hco : w8.cell? ⟨go, 0, none⟩ = some (.slice none 0 0) := (blk_cell hbox 0).trans rfl; have hfo := blk_frozen hbox 0; clear hb hbox hg))
 have GO := Aside0.mk (show w6.heap.size ≤ go by rw [HGO.out]; exact HG7.out.size)
 have n0_ := Aside0.mk (show Below w2.heap.size w2 (w8.setCell ⟨go, 0, none⟩ (.slice Ar 1 cr)) from below_set (below_step HB7.out HB8.out) (by have h1 := GO.out; have h2 := HB6.out.size; omega))
 have n1_ := Aside0.mk (show (w8.setCell ⟨go, 0, none⟩ (.slice Ar 1 cr)).heap[gv]? = some (.cells #[.slice AL L.length cL] 22 (0, 0)) from blk_far (blk_below (blk_grown BV6.out HG7.out (fun e_ => by cases e_)) HB8.out) (by have h1 := blk_lt BV6.out; have h2 := GO.out; show gv ≠ go; omega) _)
 have n2_ := Aside0.mk (show (w8.setCell ⟨go, 0, none⟩ (.slice Ar 1 cr)).heap[gm]? = some (.cells #[.map (some w4.heap.size)] 53 (0, 0)) from blk_far (blk_below (blk_grown BM6.out HG7.out (fun e_ => by cases e_)) HB8.out) (by have h1 := blk_lt BM6.out; have h2 := GO.out; show gm ≠ go; omega) _)
 have n3_ := Aside0.mk (((HM.out.kept HG7.out (fun e_ => by cases e_)).below HB8.out).setCell (a := ⟨go, 0, none⟩) (by have h1 := HM.out.lt; have h2 := GO.out; show w4.heap.size ≠ go; omega) (.slice Ar 1 cr))
 have n4_ := Aside0.mk (show (w8.setCell ⟨go, 0, none⟩ (.slice Ar 1 cr)).heap[go]? = some (.cells #[.slice Ar 1 cr] 38 (0, 0)) from blk_put BO.out 0 _ rfl)
 have n5_ := Aside0.mk (Kd.R_far (Kd.R_below (Kd.R_mono (ok' := fun k_ => w6.heap.size ≤ k_ ∧ k_ ≠ go) (Kd.R_bound HO.out) (fun k_ hk_ => ⟨hk_.1, by have h1 := hk_.2.2.1; have h2 := HGO.out; omega⟩)) HB8.out) (p := ⟨go, 0, none⟩) (fun k_ hk_ => hk_.2) (.slice Ar 1 cr))
 clear HB6 BV6 BM6 HM HO HB7 HG7 BO HGO HB8 hco hfo
 have HB9 := n0_
 have BV9 := n1_
 have BM9 := n2_
 have HM9 := n3_
 have BO9 := n4_
 have HO9 := n5_
 clear n0_ n1_ n2_ n3_ n4_ n5_
 generalize w8.setCell ⟨go, 0, none⟩ (.slice Ar 1 cr) = w9 at HB9 BV9 BM9 HM9 BO9 HO9 ⊢
 have hsf := @run_store_func Try.prog
 have hmf : ∀ (fn : Fn) (first cap : Array Value) (w : World), (Instr.makeFunc fn first cap).run Try.prog w = .ok (.func fn first cap) w := fun _ _ _ _ => rfl
 go_upto_region 9 with (first | ((with_reducible refine gate_dst (N := 12) rfl ?_); refine box_event ?hg (N := 12) ?hd (cs := #[.nilFunc]) (t := 54) ?hr ?_; (case hd => rfl); (case hg => rfl); (case hr => first | (go_simp; done) | (go_simp; rfl)); intro ge hg w11 hbox hb; have BE := Aside0.mk hbox; have HGE := Aside0.mk hg; have HB11 := Aside0.mk hb; have hce : w11.cell? ⟨ge, 0, none⟩ = some .nilFunc := (blk_cell hbox 0).trans rfl; have hfe := blk_frozen hbox 0; clear hb hbox hg))
 have GE := Aside0.mk (show w9.heap.size ≤ ge by rw [HGE.out]; exact Nat.le_refl _)
 have L1 := Aside0.mk (blk_lt BV9.out)
 have L2 := Aside0.mk (blk_lt BM9.out)
 have L3 := Aside0.mk (blk_lt BO9.out)
 have L4 := Aside0.mk HM9.out.lt
 have L5 := Aside0.mk HB9.out.size
 have n0_ := Aside0.mk (show Below w2.heap.size w2 (w11.setCell ⟨ge, 0, none⟩ (.func (.func 38) #[] #[.pointer (some ⟨go, 0, none⟩), .pointer (some ⟨gv, 0, none⟩), .pointer (some ⟨gm, 0, none⟩), .pointer (some ⟨ge, 0, none⟩)])) from below_set (below_step HB9.out HB11.out) (by have h1 := GE.out; have h2 := L5.out; omega))
 have HS := Aside0.mk (show St Try.prog 56 4 (w11.setCell ⟨ge, 0, none⟩ (.func (.func 38) #[] #[.pointer (some ⟨go, 0, none⟩), .pointer (some ⟨gv, 0, none⟩), .pointer (some ⟨gm, 0, none⟩), .pointer (some ⟨ge, 0, none⟩)])) w2.heap.size (⟨w4.heap.size, gm, gv, go, ge⟩ : Bl) (impl_AdjacentList.cs AL L.length cL (⟨w4.heap.size, gm, gv, go, ge⟩ : Bl)) [] [0] (.slice Ar 1 cr) from by
  have q1 := L1.out
  have q2 := L2.out
  have q3 := L3.out
  have q4 := L4.out
  have q5 := GE.out
  have q6 := LQ.out
  have q7 := LV.out
  have q8 := LV2.out
  have q9 := GM.out
  have q10 := GO.out
  have q11 := LM6.out
  refine ⟨⟨?_, ?_, ?_⟩, ⟨⟨?_, ?_, ?_⟩, ⟨?_, ?_⟩⟩, ?_, ?_, ?_⟩
  ·exact blk_far (blk_below BM9.out HB11.out) (by show gm ≠ ge; omega) _
  ·exact blk_far (blk_below BV9.out HB11.out) (by show gv ≠ ge; omega) _
  ·exact blk_put BE.out 0 _ rfl
  ·show gm ≠ go; omega
  ·show gv ≠ go; omega
  ·show ge ≠ go; omega
  ·show w2.heap.size ≤ w4.heap.size; omega
  ·show w2.heap.size ≤ go; omega
  ·exact blk_far (blk_below BO9.out HB11.out) (by show go ≠ ge; omega) _
  ·exact (HM9.out.below HB11.out).setCell (a := ⟨ge, 0, none⟩) (by show w4.heap.size ≠ ge; omega) _
  ·refine Kd.R_far (Kd.R_below (Kd.R_mono (Kd.R_bound HO9.out) (fun k_ hk_ => ?_)) HB11.out) (p := ⟨ge, 0, none⟩) (fun k_ hk_ => hk_.2.2.2.2) _
   obtain ⟨⟨h1, h2⟩, h3, h4, _⟩ := hk_
   refine ⟨?_, ?_, ?_, h2, ?_⟩
   ·show k_ ≠ w4.heap.size; omega
   ·show k_ ≠ gm; omega
   ·show k_ ≠ gv; omega
   ·show k_ ≠ ge; omega)
 clear HB9 BV9 BM9 HM9 BO9 HO9 BE HGE HB11 hce hfe hmf hsf L1 L2 L3 L4 L5 LQ LV LV2 GM GO LM6 GE
 have HBS := n0_
 clear n0_
 generalize w11.setCell ⟨ge, 0, none⟩ (.func (.func 38) #[] #[.pointer (some ⟨go, 0, none⟩), .pointer (some ⟨gv, 0, none⟩), .pointer (some ⟨gm, 0, none⟩), .pointer (some ⟨ge, 0, none⟩)]) = w12 at HBS HS ⊢
 have hbe : w12.cell? ⟨ge, 0, none⟩ = some (.func (.func 38) #[] #[.pointer (some ⟨go, 0, none⟩), .pointer (some ⟨gv, 0, none⟩), .pointer (some ⟨gm, 0, none⟩), .pointer (some ⟨ge, 0, none⟩)]) := (blk_cell HS.out.env.e 0).trans rfl
 go_wp2_with fail
 refine (impl_AdjacentList.ext k w2 (⟨w4.heap.size, gm, gv, go, ge⟩ : Bl) AL cL L 1 [] [0] (.slice Ar 1 cr) (true, M2, o2) _ (Kd.S_reads' HSL.out).2.2 (Kd.S_reads' HSL.out).2.1 HS.out HBS.out T3.out).mono ?_
 rintro e w13 ⟨v13, rfl, hs13, _, _, hb13⟩
 clear HS HBS hbe
 have HS := Aside0.mk hs13
 have HBS := Aside0.mk hb13
 clear hs13 hb13
 have HB := Aside0.mk (HB2.out.trans (HBS.out.mono HB2.out.size))
 obtain ⟨f_, hf_⟩ := HSL.out
 have HF := Aside0.mk (show (Kd.tag f_ (Kd.slice 3 (Kd.int .i64))).R 38 w2 w.heap.size (fun k_ => k_ < w2.heap.size) (.slice AL L.length cL) L.zipIdx from Kd.R_mono (Kd.R_lower (Kd.R_bound hf_) HW0.out) (fun k_ hk_ => hk_.2.2.1))
 clear hf_
 obtain ⟨A13, c13, e13⟩ := Kd.R_slice HS.out.r
 subst e13
 have HWY := Aside0.mk (Kd.R_reads' HS.out.r).2.2
 have HV := Aside0.mk HS.out.env.v
 have ho13 : w13.cell? ⟨go, 0, none⟩ = some (.slice A13 o2.length c13) := (blk_cell HS.out.o 0).trans rfl
 go_wp2_with (first | ((with_reducible refine gate_dst (N := 48) rfl ?_); refine Kd.R_lit (Kd.tag f_ (Kd.slice 3 (Kd.int .i64))) (w0 := w) w.heap.size 38 ?hg (N := 48) ?hd (xs := ([] : List (List Int × Nat))) (inner := []) (ok := fun _ => True) (okp := fun _ => False) ?hr ?hp (fun _ hk => hk.elim) trivial HB.out HB.out.size (by simp) ?_; (case hd => rfl); (case hg => rfl); (case hr => first | (go_simp; done) | (go_simp; rfl)); (case hp => exact (Reps.none _ _)); intro vq w14 ho hb hg hnew; obtain ⟨Aq, cq, eq⟩ := Kd.R_slice ho; rw [List.length_nil] at eq; subst eq; have HQ := Aside0.mk ho; have HW14 := Aside0.mk ((Below.refl w13.heap.size w13).grown hg (Nat.le_refl _) (fun j_ hj_ => by cases hj_)); have HO14 := Aside0.mk (show ∀ k_, (Value.slice Aq 0 cq).ownBlock = some k_ → w13.heap.size ≤ k_ from fun k_ hk_ => (by obtain ⟨b_, h1_, h2_⟩ := hnew; rw [h1_] at hk_; cases hk_; exact h2_)); have ho14 : w14.cell? ⟨go, 0, none⟩ = some (.slice A13 o2.length c13) := (blk_cell (blk_grown HS.out.o hg (fun e_ => by cases e_)) 0).trans rfl; clear ho hb hg hnew))
 go_loopg [13, 51] k (fun kq v13 v51 w' => ∃ (j : Int) (acc : List (List Int)) (Aq : Option Addr) (cq : Nat), v13 = .slice Aq acc.length cq ∧ v51 = .int .i64 j ∧ Aside0 (impl_AdjacentList.g kq L o2 j acc = some o) ∧ Aside0 (kq ≤ k) ∧ Aside0 (0 ≤ j ∧ acc = (o2.take j.toNat).map (fun i_ => rd_L1 L i_)) ∧ Aside0 (∀ i ∈ o2.take j.toNat, 0 ≤ i) ∧ Aside0 ((Kd.tag f_ (Kd.slice 3 (Kd.int .i64))).R 38 w' w.heap.size (fun _ => True) (.slice Aq acc.length cq) ((o2.take j.toNat).map fun i_ => (rd_L1 L i_, i_.toNat))) ∧ Aside0 (∀ k_, (Value.slice Aq acc.length cq).ownBlock = some k_ → w13.heap.size ≤ k_) ∧ Aside0 (Below w13.heap.size w13 w'))
 case atStart => exact ⟨0, [], Aq, cq, rfl, rfl, T4, ⟨Nat.le_refl _⟩, ⟨⟨Int.le_refl _, rfl⟩⟩, ⟨by simp⟩, HQ, HO14, HW14⟩
 case round =>
  clear T4 HQ HO14 HW14 ho13 ho14
  obtain ⟨j, acc, Aq, cq, rfl, rfl, HA, HK1, HJ, HN, HQ, HO, HWP⟩ := hrel
  have HBW := Aside0.mk (HB.out.trans (HWP.out.mono HB.out.size))
  cases gk with
  | zero => exact absurd HA.out (by simp [impl_AdjacentList.g])
  | succ k1 =>
   have H := HA.out
   clear HA
   simp only [impl_AdjacentList.g] at H
   by_cases c3 : j < (o2.length : Int)
   rotate_left
   ·rw [if_neg c3] at H
    obtain rfl := Option.some.inj H
    have c3b0 : decide (j < (o2.length : Int)) = false := decide_eq_false c3
    have htk : o2.take j.toNat = o2 := List.take_of_length_le (by omega)
    have hq := HQ.out
    have hn := HN.out
    have hj := HJ.out.2
    rw [htk] at hq hn hj
    have HR := Aside0.mk (show Kd.S (Kd.slice 3 (Kd.int .i64)) 38 wr w.heap.size (fun _ => True) (.slice Aq acc.length cq) acc from hj.symm ▸ S_of_way (rdl := fun i_ => rd_L1 L i_) CN.out hn (hj ▸ hq))
    clear c3 H hq hn htk
    go_wp2
    go_ret2
    exact ⟨_, rfl, HR.out, HBW.out⟩
   rw [if_pos c3] at H
   have c3b0 : decide (j < (o2.length : Int)) = true := decide_eq_true c3
   by_cases c4 : 0 ≤ j
   rotate_left
   ·rw [if_neg c4] at H; cases H
   rw [if_pos c4] at H
   by_cases c5 : 0 ≤ rd o2 j ∧ rd o2 j < (L.length : Int)
   rotate_left
   ·rw [if_neg c5] at H; cases H
   rw [if_pos c5] at H
   by_cases c6 : acc.length < 1000000
   rotate_left
   ·rw [if_neg c6] at H; cases H
   rw [if_pos c6] at H
   have H' := Aside0.mk H
   have C6 := Aside0.mk c6
   have C4 := Aside0.mk (And.intro c4 c3)
   have C5 := Aside0.mk c5
   have HAL := Aside0.mk (show (((o2.take j.toNat).map fun i_ => (rd_L1 L i_, i_.toNat))).length = acc.length by rw [HJ.out.2, List.length_map, List.length_map])
   have HAJ := Aside0.mk (show (acc.length : Int) = j by rw [HJ.out.2, List.length_map, List.length_take]; omega)
   obtain ⟨ad, ead, hx0⟩ := Kd.at_int (Kd.C_below HWY.out HWP.out) j c4 c3
   cases ead
   have HB2W := Aside0.mk (HBS.out.trans (HWP.out.mono HBS.out.size))
   obtain ⟨aX, Al, cl, eaX, hx4, hle4, hie4⟩ := at_L1 (Kd.C_below (Kd.S_reads' HSL.out).2.2 HB2W.out) (rd o2 j) c5.1 c5.2
   cases eaX
   have hcv : wr.cell? ⟨gv, 0, none⟩ = some (.slice (some aX) L.length cL) := (blk_cell (blk_below HV.out HWP.out) 0).trans rfl
   obtain ⟨c_, hcl, hM, hcc⟩ := Kd.R_getA (Kd.R_below HF.out HB2W.out) (([] : List Int), 0) (rd o2 j) c5.1 (by omega)
   rw [zip_getD L [] _ (by omega)] at hM
   have hc1 : c_ = [.slice Al (rd_L1 L (rd o2 j)).length cl] := by
    match c_, hcl with
    | [v_], _ =>
     have h1_ := hcc 0 v_ rfl
     rw [show (rd o2 j).toNat * (Kd.tag f_ (Kd.slice 3 (Kd.int .i64))).sz + 0 = (rd o2 j).toNat from by show (rd o2 j).toNat * 1 + 0 = _; omega, hx4] at h1_
     injection h1_ with h1_
     rw [h1_]
   rw [hc1] at hM
   have HME := Aside0.mk (show (Kd.tag f_ (Kd.slice 3 (Kd.int .i64))).M wr w.heap.size (fun k_ => k_ < w2.heap.size) (rd_L1 L (rd o2 j), (rd o2 j).toNat) [.slice Al (rd_L1 L (rd o2 j)).length cl] from (Kd.tag f_ (Kd.slice 3 (Kd.int .i64))).M_mono (fun _ hk_ => hk_.1) hM)
   have p4 : (0 ≤ j) = True := eq_true c4
   have p3 : (j < (o2.length : Int)) = True := eq_true c3
   have p5 : (0 ≤ rd o2 j) = True := eq_true c5.1
   have p6 : (rd o2 j < (L.length : Int)) = True := eq_true c5.2
   clear c3 c4 c5 c6 H hM hc1 hcc hcl hle4 hie4
   go_wp2_with (first | ((with_reducible refine gate_builtin (b := .append) (xs := #[.tmp 55, .tmp 60]) rfl ?_); at_builtin; refine Kd.R_append (Kd.tag f_ (Kd.slice 3 (Kd.int .i64))) (w0 := w) w.heap.size rfl (.tmp 55) (.tmp 60) 22 38 (.slice none 0 0) 24 rfl Try.underlying22 info38 rfl (show 0 < 1 from Nat.one_pos) (by omega) (.slice Aq acc.length cq) ((o2.take j.toNat).map fun i_ => (rd_L1 L i_, i_.toNat)) (rd_L1 L (rd o2 j), (rd o2 j).toNat) [.slice Al (rd_L1 L (rd o2 j)).length cl] (fun _ => True) (fun k_ => k_ < w2.heap.size) rfl (by first | (go_simp; done) | (go_simp; rfl)) ?aP ?aK (fun _ _ => trivial) HQ.out ?aB ?aS ?aL ?_; (case aP => exact HME.out); (case aK => exact fun k_ hk_ => ⟨trivial, fun e_ => by have h1 := HO.out k_ e_.symm; have h2 := HBS.out.size; omega⟩); (case aB => exact HBW.out); (case aS => exact HBW.out.size); (case aL => have h1 := C6.out; have h2 := HAL.out; omega); intro v8 w8 ho8 hb8 hg8 hat8; obtain ⟨A8, c8, e8⟩ := Kd.R_slice ho8; rw [show (((o2.take j.toNat).map fun i_ => (rd_L1 L i_, i_.toNat)) ++ [(rd_L1 L (rd o2 j), (rd o2 j).toNat)]).length = (acc ++ [rd_L1 L (rd o2 j)]).length from by rw [List.length_append, HAL.out, List.length_append]; rfl] at e8; subst e8; have HQ8 := Aside0.mk ho8; have HW8 := Aside0.mk (HWP.out.grown hg8 HWP.out.size (fun j_ hj_ => HO.out j_ hj_)); have HO8 := Aside0.mk (show ∀ k_, (Value.slice A8 (acc ++ [rd_L1 L (rd o2 j)]).length c8).ownBlock = some k_ → w13.heap.size ≤ k_ from fun k_ hk_ => hat8.elim (fun h_ => HO.out k_ (h_ ▸ hk_)) (fun ⟨q_, h_, h2_⟩ => by rw [h_] at hk_; cases hk_; exact Nat.le_trans HWP.out.size h2_)); clear ho8 hb8 hg8 hat8))
   have ew : wrap64 (j + 1) = j + 1 := by have h1 := HAJ.out; have h2 := C6.out; have h3 := C4.out; unfold wrap64; omega
   have etk := take_rdA o2 j C4.out.1 C4.out.2
   rw [ew] at H'
   go_roundg k1
   case measure => have := HK1.out; omega
   case rel => exact ⟨j + 1, acc ++ [rd_L1 L (rd o2 j)], A8, c8, by first | rfl | (rw [List.length_append]; rfl), by first | rfl | (rw [ew]), H', ⟨by have := HK1.out; omega⟩, ⟨⟨by have := C4.out; omega, by rw [etk, List.map_append, HJ.out.2]; rfl⟩⟩, ⟨by rw [etk]; intro i hi; exact (List.mem_append.1 hi).elim (fun hi => HN.out i hi) (fun hi => by rw [List.mem_singleton.1 hi]; exact C5.out.1)⟩, ⟨by rw [etk, List.map_append]; exact HQ8.out⟩, HO8, HW8⟩
end Go.Proofs.Ytmkokfljonbcmaa.MFnAdjacentLists
