/- Functions of the program as Lean functions, each with the proof that its call comes to just that: laid for this claim by this session's own program. -/
import Derived.Test.YtllhnnjkonghlaaMFnExactFirstPathx0
import Derived.Test.YtllhnnjkonghlaaMFnExactFirstPathx5
import Derived.Test.YtllhnnjkonghlaaMFnExactFirstPathx6
namespace Go.Proofs.Ytllhnnjkonghlaa.MFnExactFirstPath
open Go.RowKit Go.Proofs.YtllhnnjkonghlaaW.PrintWords Go.Proofs.YtllhnnjkonghlaaW.PrintLast Go.Proofs.YtllhnnjkonghlaaW.PrintMore
attribute [local go_sem] max2_int min2_int max_two min_two max_three min_three max_four min_four   -- for this text's walks alone
set_option linter.unusedVariables false
set_option linter.unusedSimpArgs false

/-! ### impl_FirstPath: function 9 -/
theorem impl_FirstPath.zeroB (w : World) : (zeroValue 4).run Try.prog w = .ok (.bool false) w := by kernel_rfl
theorem impl_FirstPath.mt : Try.prog.underlying 73 = some (.map 3 4) := Try.underlying73
theorem impl_FirstPath.mk_ : Try.prog.underlying 3 = some (.int .i64) := Try.underlying3
theorem impl_FirstPath.me : Try.prog.underlying 4 = some .bool := Try.underlying4
mutual
/-- The search from a list on: found? may it go on? and what is met, put, gathered. -/
def impl_FirstPath.e : Nat → Int → Int → List (S45) → List Int → List Int → Int → List Int → Option (Bool × Bool × List Int × Int × List Int)
  | 0, _, _, _, _, _, _, _ => none
  | k + 1, n, bud, L, l, M, put, out => (impl_factorial.f k n).bind fun t => if (M.length : Int) = t then some (true, true, M, put, out) else impl_FirstPath.l k n bud L l 0 M put out
def impl_FirstPath.l : Nat → Int → Int → List (S45) → List Int → Int → List Int → Int → List Int → Option (Bool × Bool × List Int × Int × List Int)
  | 0, _, _, _, _, _, _, _, _ => none
  | k + 1, n, bud, L, l, i, M, put, out => if i < (L.length : Int) then (if 0 ≤ i then ((impl_moved.f k l (rd_T45 L i).f0 (rd_T45 L i).f1 (rd_T45 L i).f2).bind fun nx => ((impl_permutationRank.f k nx).bind fun r => (if (Lit.int .i64 r).wf = true then (if r ∈ M then (impl_FirstPath.l k n bud L l (wrap64 (i + 1)) M put out) else (if (-1000 ≤ put ∧ put ≤ 1000000) ∧ M.length < 1000000 ∧ out.length < 1000000 then (if bud < put + 1 then some (false, false, M, put + 1, out) else ((impl_FirstPath.e k n bud L nx (r :: M) (put + 1) (out ++ [i])).bind fun z => (if z.1 = true then some z else (if z.2.1 = false then some z else (if z.2.2.1.Nodup ∧ 0 < z.2.2.2.2.length ∧ z.2.2.2.2.length < 1000000 then (impl_FirstPath.l k n bud L l (wrap64 (i + 1)) (z.2.2.1.erase r) z.2.2.2.1 (z.2.2.2.2.take (z.2.2.2.2.length - 1))) else none))))) else none)) else none))) else none) else some (false, true, M, put, out)
end
def impl_FirstPath.f (k : Nat) (a0 : Int) (l1 : List (S45)) (a2 : Int) : Option (List Int × Bool) := (impl_areMoves.f k a0 l1).bind fun t => (if t = true then (if 4 < a0 then some ([], false) else ((impl_within.f a2 1 4000).bind fun b => (if b = true then ((impl_identity.f k a0).bind fun s => ((impl_FirstPath.e k a0 a2 l1 s [0] 1 []).bind fun z => (if z.1 = true then some (z.2.2.2.2, true) else some ([], false)))) else some ([], false)))) else some ([], false))
theorem impl_FirstPath.mono_l : ∀ k, (∀ y0 y1 y2 y3 y4 y5 y6, LeO (impl_FirstPath.e k y0 y1 y2 y3 y4 y5 y6) (impl_FirstPath.e (k + 1) y0 y1 y2 y3 y4 y5 y6)) ∧ (∀ y0 y1 y2 y3 y4 y5 y6 y7, LeO (impl_FirstPath.l k y0 y1 y2 y3 y4 y5 y6 y7) (impl_FirstPath.l (k + 1) y0 y1 y2 y3 y4 y5 y6 y7))
  | 0 => ⟨fun _ _ _ _ _ _ _ r h => by simp [impl_FirstPath.e] at h, fun _ _ _ _ _ _ _ _ r h => by simp [impl_FirstPath.l] at h⟩
  | k + 1 => by
    obtain ⟨ih0, ih1⟩ := impl_FirstPath.mono_l k
    refine ⟨?_, ?_⟩
    · intro y0 y1 y2 y3 y4 y5 y6
      unfold impl_FirstPath.e
      repeat' first
      | (with_reducible exact ih0 _ _ _ _ _ _ _)
      | (with_reducible exact ih1 _ _ _ _ _ _ _ _)
      | (with_reducible exact impl_areMoves.mono _ _ _)
      | (with_reducible exact impl_factorial.mono _ _)
      | (with_reducible exact impl_identity.mono _ _)
      | (with_reducible exact impl_moved.mono _ _ _ _ _)
      | (with_reducible exact impl_permutationRank.mono _ _)
      | (with_reducible exact LeO.refl _)
      | (with_reducible exact LeO.none _)
      | (with_reducible refine LeO.ite ?_ ?_)
      | (with_reducible refine LeO.bind ?_ (fun _ => ?_))
      | exact ih0 _ _ _ _ _ _ _
      | exact ih1 _ _ _ _ _ _ _ _
      | exact impl_areMoves.mono _ _ _
      | exact impl_factorial.mono _ _
      | exact impl_identity.mono _ _
      | exact impl_moved.mono _ _ _ _ _
      | exact impl_permutationRank.mono _ _
      | exact LeO.none _
      | refine LeO.ite ?_ ?_
      | refine LeO.bind ?_ (fun _ => ?_)
    · intro y0 y1 y2 y3 y4 y5 y6 y7
      unfold impl_FirstPath.l
      repeat' first
      | (with_reducible exact ih0 _ _ _ _ _ _ _)
      | (with_reducible exact ih1 _ _ _ _ _ _ _ _)
      | (with_reducible exact impl_areMoves.mono _ _ _)
      | (with_reducible exact impl_factorial.mono _ _)
      | (with_reducible exact impl_identity.mono _ _)
      | (with_reducible exact impl_moved.mono _ _ _ _ _)
      | (with_reducible exact impl_permutationRank.mono _ _)
      | (with_reducible exact LeO.refl _)
      | (with_reducible exact LeO.none _)
      | (with_reducible refine LeO.ite ?_ ?_)
      | (with_reducible refine LeO.bind ?_ (fun _ => ?_))
      | exact ih0 _ _ _ _ _ _ _
      | exact ih1 _ _ _ _ _ _ _ _
      | exact impl_areMoves.mono _ _ _
      | exact impl_factorial.mono _ _
      | exact impl_identity.mono _ _
      | exact impl_moved.mono _ _ _ _ _
      | exact impl_permutationRank.mono _ _
      | exact LeO.none _
      | refine LeO.ite ?_ ?_
      | refine LeO.bind ?_ (fun _ => ?_)
theorem impl_FirstPath.mono : ∀ a0 a1 a2 k, LeO (impl_FirstPath.f k a0 a1 a2) (impl_FirstPath.f (k + 1) a0 a1 a2) := by
  intro a0 a1 a2 k
  obtain ⟨ih0, ih1⟩ := impl_FirstPath.mono_l k
  unfold impl_FirstPath.f
  repeat' first
      | (with_reducible exact ih0 _ _ _ _ _ _ _)
      | (with_reducible exact ih1 _ _ _ _ _ _ _ _)
      | (with_reducible exact impl_areMoves.mono _ _ _)
      | (with_reducible exact impl_factorial.mono _ _)
      | (with_reducible exact impl_identity.mono _ _)
      | (with_reducible exact impl_moved.mono _ _ _ _ _)
      | (with_reducible exact impl_permutationRank.mono _ _)
      | (with_reducible exact LeO.refl _)
      | (with_reducible exact LeO.none _)
      | (with_reducible refine LeO.ite ?_ ?_)
      | (with_reducible refine LeO.bind ?_ (fun _ => ?_))
      | exact ih0 _ _ _ _ _ _ _
      | exact ih1 _ _ _ _ _ _ _ _
      | exact impl_areMoves.mono _ _ _
      | exact impl_factorial.mono _ _
      | exact impl_identity.mono _ _
      | exact impl_moved.mono _ _ _ _ _
      | exact impl_permutationRank.mono _ _
      | exact LeO.none _
      | refine LeO.ite ?_ ?_
      | refine LeO.bind ?_ (fun _ => ?_)
open Go.Proofs.Ytllhnnjkonghlaa.FpW in
def impl_FirstPath.cs (n bud : Int) (AL : Option Addr) (nL cL : Nat) (g : Bl) : Cs := ⟨73, 3, 27, 24, 74, .int .i64 n, .slice AL nL cL, .int .i64 bud, .func (.func 49) #[] #[.pointer (some ⟨g.bm, 0, none⟩), .pointer (some ⟨g.bn, 0, none⟩), .pointer (some ⟨g.bv, 0, none⟩), .pointer (some ⟨g.bp, 0, none⟩), .pointer (some ⟨g.bb, 0, none⟩), .pointer (some ⟨g.bo, 0, none⟩), .pointer (some ⟨g.be, 0, none⟩)]⟩
open Go.Proofs.Ytllhnnjkonghlaa.MapSet Go.Proofs.Ytllhnnjkonghlaa.FpW in
set_option maxHeartbeats 8000000 in
set_option maxRecDepth 100000 in
theorem impl_FirstPath.ext : ∀ (k : Nat) (w0 : World) (g : Bl) (AL : Option Addr) (cL : Nat) (L : List (S45)) (n bud : Int) (Al : Option Addr) (cl : Nat) (l : List Int) (M : List Int) (put : Int) (out : List Int) (vo : Value) (z : Bool × Bool × List Int × Int × List Int) (w : World) (hL : Kd.C k45 w0 AL L.length L) (hcL : L.length ≤ cL) (hl : ∀ W', Kept w W' (Wq g vo) → Kd.C (Kd.int .i64) W' Al l.length l) (hcl : l.length ≤ cl) (hs : St Try.prog 3 4 w w0.heap.size g (impl_FirstPath.cs n bud AL L.length cL g) (M) (put) (out) (vo)) (hb : Below w0.heap.size w0 w) (h : impl_FirstPath.e k n bud L l M put out = some z),
    Calls Try.prog 49 #[.slice Al l.length cl, .pointer (some ⟨g.bm, 0, none⟩), .pointer (some ⟨g.bn, 0, none⟩), .pointer (some ⟨g.bv, 0, none⟩), .pointer (some ⟨g.bp, 0, none⟩), .pointer (some ⟨g.bb, 0, none⟩), .pointer (some ⟨g.bo, 0, none⟩), .pointer (some ⟨g.be, 0, none⟩)] w fun e w' => ∃ vo' : Value, e = .returned (.tuple #[.bool z.1, .bool z.2.1]) ∧ St Try.prog 3 4 w' w0.heap.size g (impl_FirstPath.cs n bud AL L.length cL g) (z.2.2.1) (z.2.2.2.1) (z.2.2.2.2) (vo') ∧ Kept w w' (Wq g vo) ∧ Fr w vo vo' ∧ Below w0.heap.size w0 w' := by
  intro k
  induction k using Nat.strongRecOn with
  | ind k ih =>
  intro w0 g AL cL L n bud Al cl l M put out vo z w hL hcL hl hcl hs hb h
  have hu := Try.underlying45
  cases k with
  | zero => simp [impl_FirstPath.e] at h
  | succ k =>
  have IH := Aside0.mk ih
  clear ih
  simp only [impl_FirstPath.e] at h
  obtain ⟨t, h1, h⟩ := Option.bind_eq_some_iff.mp h
  have H1 := Aside0.mk h1
  have HL := Aside0.mk hL
  have HCL := Aside0.mk hcL
  have Hl := Aside0.mk hl
  have HCl := Aside0.mk hcl
  have HS := Aside0.mk hs
  have HB := Aside0.mk hb
  have hm : w.cell? ⟨g.bm, 0, none⟩ = some (.map (some g.q)) := (blk_cell hs.env.m 0).trans rfl
  have hn : w.cell? ⟨g.bn, 0, none⟩ = some (.int .i64 n) := (blk_cell hs.env.n 0).trans rfl
  have hv : ∀ m, (w.drewN m).cell? ⟨g.bv, 0, none⟩ = some (.slice AL L.length cL) := fun m => (blk_cell (hs.drewN m).env.v 0).trans rfl
  clear h1 hL hcL hl hcl hs hb
  by_cases ct : (M.length : Int) = t
  · rw [if_pos ct] at h
    obtain rfl := Option.some.inj h
    have cb : ((M.length : Int) == t) = true := beq_iff_eq.mpr ct
    clear h ct hv
    go_enter Try.func49, Try.ntmps49
    go_wp2_with (first | (with_reducible refine wpList_len rfl (.tmp 17) rfl impl_FirstPath.mt rfl HS.out.s ?_))
    refine (impl_factorial.calls k n t _ H1.out).mono ?_
    rintro e w1 ⟨rfl, ⟨nd, rfl⟩⟩
    go_wp2
    go_ret2
    exact ⟨vo, rfl, HS.out.drewN nd, (Kept.refl w _).drewN nd, Fr.refl w vo, pw_below_drewN HB.out nd⟩
  rw [if_neg ct] at h
  have cb : ((M.length : Int) == t) = false := beq_eq_false_iff_ne.mpr ct
  have H' := Aside0.mk h
  clear h ct
  go_enter Try.func49, Try.ntmps49
  go_wp2_with (first | (with_reducible refine wpList_len rfl (.tmp 17) rfl impl_FirstPath.mt rfl HS.out.s ?_))
  refine (impl_factorial.calls k n t _ H1.out).mono ?_
  rintro e w1 ⟨rfl, ⟨nd, rfl⟩⟩
  replace hv := hv nd
  have HS1 := Aside0.mk (HS.out.drewN nd)
  have HK1 := Aside0.mk ((Kept.refl w (Wq g vo)).drewN nd)
  have HB1 := Aside0.mk (pw_below_drewN HB.out nd)
  clear HB
  generalize w.drewN nd = w1 at hv HS1 HK1 HB1 ⊢
  go_wp2
  clear hm hn cb
  go_loopg [24] k (fun kq v24 w' => ∃ (i : Int) (M' : List Int) (put' : Int) (out' : List Int) (vo' : Value), v24 = .int .i64 i ∧ Aside0 (impl_FirstPath.l kq n bud L l i M' put' out' = some z) ∧ Aside0 (kq ≤ k) ∧ Aside0 (St Try.prog 3 4 w' w0.heap.size g (impl_FirstPath.cs n bud AL L.length cL g) (M') (put') (out') (vo')) ∧ Aside0 (Kept w w' (Wq g vo)) ∧ Aside0 (Fr w vo vo') ∧ Aside0 (Below w0.heap.size w0 w'))
  case atStart => exact ⟨0, M, put, out, vo, rfl, H', ⟨Nat.le_refl _⟩, HS1, HK1, ⟨Fr.refl w vo⟩, HB1⟩
  case round =>
    clear H' HS1 HK1 HB1 hv H1
    obtain ⟨i, M', put', out', vo', rfl, HA, HK1, HS1, HK, HF, HB⟩ := hrel
    cases gk with
    | zero => exact absurd HA.out (by simp [impl_FirstPath.l])
    | succ k1 =>
      have H := HA.out
      clear HA
      simp only [impl_FirstPath.l] at H
      by_cases c3 : i < (L.length : Int)
      rotate_left
      · rw [if_neg c3] at H
        obtain rfl := Option.some.inj H
        have c3b0 : decide (i < (L.length : Int)) = false := decide_eq_false c3
        clear c3 H
        go_wp2
        go_ret2
        first | exact ⟨vo', rfl, HS1.out, HK.out, HF.out, HB.out⟩ | exact ⟨rfl, vo', HS1.out, HK.out, HF.out, HB.out⟩
      rw [if_pos c3] at H
      have c3b0 : decide (i < (L.length : Int)) = true := decide_eq_true c3
      by_cases c4 : 0 ≤ i
      rotate_left
      · rw [if_neg c4] at H; cases H
      rw [if_pos c4] at H
      replace H := Option.bind_eq_some_iff.mp H
      obtain ⟨nx, h1, H⟩ := H
      replace H := Option.bind_eq_some_iff.mp H
      obtain ⟨r, h2, H⟩ := H
      by_cases cw : (Lit.int .i64 r).wf = true
      rotate_left
      · rw [if_neg cw] at H; cases H
      rw [if_pos cw] at H
      have T1 := Aside0.mk h1
      have T2 := Aside0.mk h2
      have HW := Aside0.mk cw
      obtain ⟨ad, ead, hx0, hx1, hx2⟩ := at_T45 HL.out i c4 c3
      cases ead
      replace hx0 := (HB.out.cell (World.block_lt_of_cell? w0 _ hx0)).trans hx0
      replace hx1 := (HB.out.cell (World.block_lt_of_cell? w0 _ hx1)).trans hx1
      replace hx2 := (HB.out.cell (World.block_lt_of_cell? w0 _ hx2)).trans hx2
      have c4b : (0 ≤ i) = True := eq_true c4
      have c3b : (i < (L.length : Int)) = True := eq_true c3
      clear h1 h2 cw c3 c4
      by_cases cm : r ∈ M'
      · rw [if_pos cm] at H
        have H' := Aside0.mk H
        have cmb : decide (r ∈ M') = true := decide_eq_true cm
        clear H cm
        go_wp2_with (first | ((with_reducible refine gate_dst (N := 12) rfl ?_); refine box_event ?hg (N := 12) ?hd (cs := #[.int .i64 0, .int .i64 0, .int .i64 0]) (t := 45) ?hr ?_; (case hd => rfl); (case hg => rfl); (case hr => first | (go_simp; done) | (go_simp; rfl)); intro gb hg w3 hbox hb; have BX := Aside0.mk hb; have GX := Aside0.mk (show wr.heap.size ≤ gb by rw [hg]; exact Nat.le_refl _); have hcz0 : w3.cell? ⟨gb, 0, none⟩ = some (.int .i64 0) := (blk_cell hbox 0).trans rfl; have hcz1 : w3.cell? ⟨gb, 1, none⟩ = some (.int .i64 0) := (blk_cell hbox 1).trans rfl; have hcz2 : w3.cell? ⟨gb, 2, none⟩ = some (.int .i64 0) := (blk_cell hbox 2).trans rfl; have hfz0 := blk_frozen hbox 0; have hfz1 := blk_frozen hbox 1; have hfz2 := blk_frozen hbox 2; clear hb hbox hg))
        have b3 : Below wr.heap.size wr (((w3.setCell ⟨gb, 0, none⟩ (.int .i64 (rd_T45 L i).f0)).setCell ⟨gb, 1, none⟩ (.int .i64 (rd_T45 L i).f1)).setCell ⟨gb, 2, none⟩ (.int .i64 (rd_T45 L i).f2)) := below_set (below_set (below_set BX.out GX.out) GX.out) GX.out
        have B3 := Aside0.mk b3
        clear b3 BX GX hcz0 hcz1 hcz2 hfz0 hfz1 hfz2 hx0 hx1 hx2
        generalize (((w3.setCell ⟨gb, 0, none⟩ (.int .i64 (rd_T45 L i).f0)).setCell ⟨gb, 1, none⟩ (.int .i64 (rd_T45 L i).f1)).setCell ⟨gb, 2, none⟩ (.int .i64 (rd_T45 L i).f2)) = w4 at B3 ⊢
        refine (impl_moved.calls k1 Al cl l (rd_T45 L i).f0 (rd_T45 L i).f1 (rd_T45 L i).f2 nx w4 (Hl.out w4 (HK.out.below B3.out)) HCl.out T1.out).mono ?_
        rintro e w5 ⟨v5, rfl, ho5, hb5⟩
        obtain ⟨A5, c5, rfl⟩ := Kd.R_slice ho5
        have HN := Aside0.mk (nx_new HS1.out ho5 B3.out.size)
        have B5 := Aside0.mk (below_step B3.out hb5)
        clear ho5 hb5 B3
        go_wp2_with fail
        refine (impl_permutationRank.calls k1 A5 c5 nx r _ (Kd.R_reads' HN.out).2.2 (Kd.R_reads' HN.out).2.1 T2.out).mono ?_
        rintro e w6 ⟨rfl, hd6⟩
        have hb6 : Below w5.heap.size w5 w6 := by first | exact hd6 | exact Drawn0.below hd6
        have n0_ := Aside0.mk (Kd.R_below HN.out hb6)
        have HB2 := Aside0.mk (below_step B5.out hb6)
        clear HN hd6 hb6 B5
        have HN := n0_
        clear n0_
        have HS2 := Aside0.mk (HS1.out.below HB2.out)
        have HQ := Aside0.mk (Kept.of_below HB2.out (Wq g vo'))
        have B2 := Aside0.mk (HB.out.trans (HB2.out.mono HB.out.size))
        clear HB2
        have hm : w6.cell? ⟨g.bm, 0, none⟩ = some (.map (some g.q)) := (blk_cell HS2.out.env.m 0).trans rfl
        have hp : w6.cell? ⟨g.bp, 0, none⟩ = some (.int .i64 put') := (blk_cell HS2.out.p 0).trans rfl
        have hpf : w6.frozen? ⟨g.bp, 0, none⟩ = false := blk_frozen HS2.out.p 0
        have hbd : w6.cell? ⟨g.bb, 0, none⟩ = some (.int .i64 bud) := (blk_cell HS2.out.env.b 0).trans rfl
        have hnb : g.bb ≠ g.bp := HS2.out.di.p.2.2.2.1
        have hnb' : g.bp ≠ g.bb := Ne.symm hnb
        go_wp2_with (first | (with_reducible refine wpList_lookup rfl (.tmp 34) (.tmp 35) rfl impl_FirstPath.mt impl_FirstPath.mk_ impl_FirstPath.me (impl_FirstPath.zeroB _) rfl HS2.out.s r HW.out rfl ?_; rw [cmb]))
        go_roundg k1
        case measure => have := HK1.out; omega
        case rel => exact ⟨wrap64 (i + 1), M', put', out', vo', rfl, H', ⟨by have := HK1.out; omega⟩, HS2, ⟨HK.out.then_ HQ.out (HF.out.sub)⟩, HF, B2⟩
      rw [if_neg cm] at H
      have cmb : decide (r ∈ M') = false := decide_eq_false cm
      have cm0 := cm
      clear cm
      by_cases cp : (-1000 ≤ put' ∧ put' ≤ 1000000) ∧ M'.length < 1000000 ∧ out'.length < 1000000
      rotate_left
      · rw [if_neg cp] at H; cases H
      rw [if_pos cp] at H
      have CP := Aside0.mk cp
      have pw : IntKind.i64.wrap (put' + 1) = put' + 1 := IntWalk.i64_in _ (by omega)
      have pw' : wrap64 (put' + 1) = put' + 1 := by unfold wrap64; omega
      clear cp
      by_cases cb : bud < put' + 1
      · rw [if_pos cb] at H
        obtain rfl := Option.some.inj H
        have cbb : decide (bud < put' + 1) = true := decide_eq_true cb
        clear H cb
        go_wp2_with (first | ((with_reducible refine gate_dst (N := 12) rfl ?_); refine box_event ?hg (N := 12) ?hd (cs := #[.int .i64 0, .int .i64 0, .int .i64 0]) (t := 45) ?hr ?_; (case hd => rfl); (case hg => rfl); (case hr => first | (go_simp; done) | (go_simp; rfl)); intro gb hg w3 hbox hb; have BX := Aside0.mk hb; have GX := Aside0.mk (show wr.heap.size ≤ gb by rw [hg]; exact Nat.le_refl _); have hcz0 : w3.cell? ⟨gb, 0, none⟩ = some (.int .i64 0) := (blk_cell hbox 0).trans rfl; have hcz1 : w3.cell? ⟨gb, 1, none⟩ = some (.int .i64 0) := (blk_cell hbox 1).trans rfl; have hcz2 : w3.cell? ⟨gb, 2, none⟩ = some (.int .i64 0) := (blk_cell hbox 2).trans rfl; have hfz0 := blk_frozen hbox 0; have hfz1 := blk_frozen hbox 1; have hfz2 := blk_frozen hbox 2; clear hb hbox hg))
        have b3 : Below wr.heap.size wr (((w3.setCell ⟨gb, 0, none⟩ (.int .i64 (rd_T45 L i).f0)).setCell ⟨gb, 1, none⟩ (.int .i64 (rd_T45 L i).f1)).setCell ⟨gb, 2, none⟩ (.int .i64 (rd_T45 L i).f2)) := below_set (below_set (below_set BX.out GX.out) GX.out) GX.out
        have B3 := Aside0.mk b3
        clear b3 BX GX hcz0 hcz1 hcz2 hfz0 hfz1 hfz2 hx0 hx1 hx2
        generalize (((w3.setCell ⟨gb, 0, none⟩ (.int .i64 (rd_T45 L i).f0)).setCell ⟨gb, 1, none⟩ (.int .i64 (rd_T45 L i).f1)).setCell ⟨gb, 2, none⟩ (.int .i64 (rd_T45 L i).f2)) = w4 at B3 ⊢
        refine (impl_moved.calls k1 Al cl l (rd_T45 L i).f0 (rd_T45 L i).f1 (rd_T45 L i).f2 nx w4 (Hl.out w4 (HK.out.below B3.out)) HCl.out T1.out).mono ?_
        rintro e w5 ⟨v5, rfl, ho5, hb5⟩
        obtain ⟨A5, c5, rfl⟩ := Kd.R_slice ho5
        have HN := Aside0.mk (nx_new HS1.out ho5 B3.out.size)
        have B5 := Aside0.mk (below_step B3.out hb5)
        clear ho5 hb5 B3
        go_wp2_with fail
        refine (impl_permutationRank.calls k1 A5 c5 nx r _ (Kd.R_reads' HN.out).2.2 (Kd.R_reads' HN.out).2.1 T2.out).mono ?_
        rintro e w6 ⟨rfl, hd6⟩
        have hb6 : Below w5.heap.size w5 w6 := by first | exact hd6 | exact Drawn0.below hd6
        have n0_ := Aside0.mk (Kd.R_below HN.out hb6)
        have HB2 := Aside0.mk (below_step B5.out hb6)
        clear HN hd6 hb6 B5
        have HN := n0_
        clear n0_
        have HS2 := Aside0.mk (HS1.out.below HB2.out)
        have HQ := Aside0.mk (Kept.of_below HB2.out (Wq g vo'))
        have B2 := Aside0.mk (HB.out.trans (HB2.out.mono HB.out.size))
        clear HB2
        have hm : w6.cell? ⟨g.bm, 0, none⟩ = some (.map (some g.q)) := (blk_cell HS2.out.env.m 0).trans rfl
        have hp : w6.cell? ⟨g.bp, 0, none⟩ = some (.int .i64 put') := (blk_cell HS2.out.p 0).trans rfl
        have hpf : w6.frozen? ⟨g.bp, 0, none⟩ = false := blk_frozen HS2.out.p 0
        have hbd : w6.cell? ⟨g.bb, 0, none⟩ = some (.int .i64 bud) := (blk_cell HS2.out.env.b 0).trans rfl
        have hnb : g.bb ≠ g.bp := HS2.out.di.p.2.2.2.1
        have hnb' : g.bp ≠ g.bb := Ne.symm hnb
        go_wp2_with (first | (with_reducible refine wpList_lookup rfl (.tmp 34) (.tmp 35) rfl impl_FirstPath.mt impl_FirstPath.mk_ impl_FirstPath.me (impl_FirstPath.zeroB _) rfl HS2.out.s r HW.out rfl ?_; rw [cmb]))
        go_ret2
        first | exact ⟨vo', rfl, HS2.out.setP _, HK.out.then_ (kq_setP HQ.out _) (HF.out.sub), HF.out, below_setP HS2.out B2.out _⟩ | exact ⟨rfl, vo', HS2.out.setP _, HK.out.then_ (kq_setP HQ.out _) (HF.out.sub), HF.out, below_setP HS2.out B2.out _⟩
      rw [if_neg cb] at H
      have cbb : decide (bud < put' + 1) = false := decide_eq_false cb
      clear cb
      replace H := Option.bind_eq_some_iff.mp H
      obtain ⟨⟨fd, mo, M2, p2, o2⟩, he, H⟩ := H
      have HE := Aside0.mk he
      clear he
      dsimp only at H
      have CM := Aside0.mk cm0
      obtain ⟨Ao, co, eo⟩ := Kd.R_slice HS1.out.r
      subst eo
      clear cm0
      cases fd
      rotate_left
      · simp only [if_true] at H
        obtain rfl := Option.some.inj H
        clear H
        cases mo
        ·
          go_wp2_with (first | ((with_reducible refine gate_dst (N := 12) rfl ?_); refine box_event ?hg (N := 12) ?hd (cs := #[.int .i64 0, .int .i64 0, .int .i64 0]) (t := 45) ?hr ?_; (case hd => rfl); (case hg => rfl); (case hr => first | (go_simp; done) | (go_simp; rfl)); intro gb hg w3 hbox hb; have BX := Aside0.mk hb; have GX := Aside0.mk (show wr.heap.size ≤ gb by rw [hg]; exact Nat.le_refl _); have hcz0 : w3.cell? ⟨gb, 0, none⟩ = some (.int .i64 0) := (blk_cell hbox 0).trans rfl; have hcz1 : w3.cell? ⟨gb, 1, none⟩ = some (.int .i64 0) := (blk_cell hbox 1).trans rfl; have hcz2 : w3.cell? ⟨gb, 2, none⟩ = some (.int .i64 0) := (blk_cell hbox 2).trans rfl; have hfz0 := blk_frozen hbox 0; have hfz1 := blk_frozen hbox 1; have hfz2 := blk_frozen hbox 2; clear hb hbox hg))
          have b3 : Below wr.heap.size wr (((w3.setCell ⟨gb, 0, none⟩ (.int .i64 (rd_T45 L i).f0)).setCell ⟨gb, 1, none⟩ (.int .i64 (rd_T45 L i).f1)).setCell ⟨gb, 2, none⟩ (.int .i64 (rd_T45 L i).f2)) := below_set (below_set (below_set BX.out GX.out) GX.out) GX.out
          have B3 := Aside0.mk b3
          clear b3 BX GX hcz0 hcz1 hcz2 hfz0 hfz1 hfz2 hx0 hx1 hx2
          generalize (((w3.setCell ⟨gb, 0, none⟩ (.int .i64 (rd_T45 L i).f0)).setCell ⟨gb, 1, none⟩ (.int .i64 (rd_T45 L i).f1)).setCell ⟨gb, 2, none⟩ (.int .i64 (rd_T45 L i).f2)) = w4 at B3 ⊢
          refine (impl_moved.calls k1 Al cl l (rd_T45 L i).f0 (rd_T45 L i).f1 (rd_T45 L i).f2 nx w4 (Hl.out w4 (HK.out.below B3.out)) HCl.out T1.out).mono ?_
          rintro e w5 ⟨v5, rfl, ho5, hb5⟩
          obtain ⟨A5, c5, rfl⟩ := Kd.R_slice ho5
          have HN := Aside0.mk (nx_new HS1.out ho5 B3.out.size)
          have B5 := Aside0.mk (below_step B3.out hb5)
          clear ho5 hb5 B3
          go_wp2_with fail
          refine (impl_permutationRank.calls k1 A5 c5 nx r _ (Kd.R_reads' HN.out).2.2 (Kd.R_reads' HN.out).2.1 T2.out).mono ?_
          rintro e w6 ⟨rfl, hd6⟩
          have hb6 : Below w5.heap.size w5 w6 := by first | exact hd6 | exact Drawn0.below hd6
          have n0_ := Aside0.mk (Kd.R_below HN.out hb6)
          have HB2 := Aside0.mk (below_step B5.out hb6)
          clear HN hd6 hb6 B5
          have HN := n0_
          clear n0_
          have HS2 := Aside0.mk (HS1.out.below HB2.out)
          have HQ := Aside0.mk (Kept.of_below HB2.out (Wq g (.slice Ao out'.length co)))
          have B2 := Aside0.mk (HB.out.trans (HB2.out.mono HB.out.size))
          clear HB2
          have hm : w6.cell? ⟨g.bm, 0, none⟩ = some (.map (some g.q)) := (blk_cell HS2.out.env.m 0).trans rfl
          have hp : w6.cell? ⟨g.bp, 0, none⟩ = some (.int .i64 put') := (blk_cell HS2.out.p 0).trans rfl
          have hpf : w6.frozen? ⟨g.bp, 0, none⟩ = false := blk_frozen HS2.out.p 0
          have hbd : w6.cell? ⟨g.bb, 0, none⟩ = some (.int .i64 bud) := (blk_cell HS2.out.env.b 0).trans rfl
          have hnb : g.bb ≠ g.bp := HS2.out.di.p.2.2.2.1
          have hnb' : g.bp ≠ g.bb := Ne.symm hnb
          have hmo : (w6.setCell ⟨g.bp, 0, none⟩ (.int .i64 (put' + 1))).cell? ⟨g.bm, 0, none⟩ = some (.map (some g.q)) := (blk_cell (HS2.out.setP (put' + 1)).env.m 0).trans rfl
          have hpo : (w6.setCell ⟨g.bp, 0, none⟩ (.int .i64 (put' + 1))).cell? ⟨g.bb, 0, none⟩ = some (.int .i64 bud) := (blk_cell (HS2.out.setP (put' + 1)).env.b 0).trans rfl
          go_wp2_with (first | (with_reducible refine wpList_lookup rfl (.tmp 34) (.tmp 35) rfl impl_FirstPath.mt impl_FirstPath.mk_ impl_FirstPath.me (impl_FirstPath.zeroB _) rfl HS2.out.s r HW.out rfl ?_; rw [cmb]) | ((with_reducible refine wpList_store rfl (.tmp 42) (.tmp 43) (.const (.bool true)) rfl impl_FirstPath.mt impl_FirstPath.mk_ impl_FirstPath.me ?hmm (HS2.out.setP (put' + 1)).s ?hnn r HW.out ?hxx rfl ?_); (case hmm => rfl); (case hxx => rfl); (case hnn => have := CP.out; unfold maxLen; omega); intro w7 hm7 hg7; rw [if_neg CM.out] at hm7; have HS3 := Aside0.mk ((HS2.out.setP (put' + 1)).upd hm7 hg7); have HN3 := Aside0.mk (nx_upd (nx_setP (u := .int .i64 (put' + 1)) HN.out) hg7); have HQ3 := Aside0.mk (kq_upd (kq_setP HQ.out (.int .i64 (put' + 1))) hg7); have B3 := Aside0.mk (below_upd HS2.out (below_setP HS2.out B2.out (.int .i64 (put' + 1))) hg7); have ho3 : w7.cell? ⟨g.bo, 0, none⟩ = some (.slice Ao out'.length co) := (blk_cell HS3.out.o 0).trans rfl; clear hm7 hg7 hmo hpo) | ((with_reducible refine gate_builtin (b := .append) (xs := #[.tmp 44, .tmp 46]) rfl ?_); at_builtin; refine Kd.R_append (Kd.int .i64) (w0 := w0) w0.heap.size rfl (.tmp 44) (.tmp 46) 24 3 (.int .i64 0) 8 rfl Try.underlying24 info3 rfl (by decide) (by omega) (.slice Ao out'.length co) out' i [.int .i64 i] g.Ok (fun _ => False) rfl (by first | (go_simp; done) | (go_simp; rfl)) ?aP (fun _ hk => hk.elim) ?aF ?aO ?aB ?aS ?aL ?_; (case aP => exact rfl); (case aB => exact B3.out); (case aF => exact HS3.out.fresh); (case aO => exact HS3.out.r); (case aS => exact B3.out.size); (case aL => have := CP.out; omega); intro v8 w8 ho8 hb8 hg8 hat8; obtain ⟨A8, c8, e8⟩ := Kd.R_slice ho8; rw [List.length_append, show [i].length = 1 from rfl] at e8; subst e8; have HS4 := Aside0.mk (HS3.out.app ho8 hg8); have HN4 := Aside0.mk (nx_setO (u := .slice A8 (out'.length + 1) c8) (nx_app HN3.out hg8 hat8)); have HQ4 := Aside0.mk (kq_setO (kq_app HQ3.out hg8) (.slice A8 (out'.length + 1) c8)); have FR4 := Aside0.mk ((Fr.new hat8).up HQ3.out.1); have B4 := Aside0.mk (below_setO HS3.out hb8 (.slice A8 (out'.length + 1) c8)); have hoc : w8.cell? ⟨g.bo, 0, none⟩ = some (.slice Ao out'.length co) := (blk_cell (HS3.out.appO hg8) 0).trans rfl; have hof := blk_frozen (HS3.out.appO hg8) 0; have hbe : (w8.setCell ⟨g.bo, 0, none⟩ (.slice A8 (out'.length + 1) c8)).cell? ⟨g.be, 0, none⟩ = some (.func (.func 49) #[] #[.pointer (some ⟨g.bm, 0, none⟩), .pointer (some ⟨g.bn, 0, none⟩), .pointer (some ⟨g.bv, 0, none⟩), .pointer (some ⟨g.bp, 0, none⟩), .pointer (some ⟨g.bb, 0, none⟩), .pointer (some ⟨g.bo, 0, none⟩), .pointer (some ⟨g.be, 0, none⟩)]) := (blk_cell HS4.out.env.e 0).trans rfl; clear ho8 hb8 hg8 hat8))
          refine (IH.out k1 (by have := HK1.out; omega) w0 g _ cL L n bud A5 c5 nx (r :: M') (put' + 1) (out' ++ [i]) _ (true, false, M2, p2, o2) _ HL.out HCL.out (nx_hl HN4.out) (Kd.R_reads' HN4.out).2.1 HS4.out B4.out HE.out).mono ?_
          rintro e w9 ⟨v9, rfl, hs9, hk9, hf9, hb9⟩
          have HS9 := Aside0.mk hs9
          have HK9 := Aside0.mk (HK.out.then_ (HQ4.out.then_ hk9 FR4.out.sub) HF.out.sub)
          have HF9 := Aside0.mk (HF.out.trans (FR4.out.trans hf9 HQ4.out.1) HK.out.1)
          have HB9 := Aside0.mk hb9
          clear hs9 hk9 hf9 hb9 hm hp hpf hbd HS4 HN4 HQ4 FR4 B4 HS3 HN3 HQ3 B3 HS2 HQ B2 HN
          go_wp2
          go_ret2
          first | exact ⟨v9, rfl, HS9.out, HK9.out, HF9.out, HB9.out⟩ | exact ⟨rfl, v9, HS9.out, HK9.out, HF9.out, HB9.out⟩
        ·
          go_wp2_with (first | ((with_reducible refine gate_dst (N := 12) rfl ?_); refine box_event ?hg (N := 12) ?hd (cs := #[.int .i64 0, .int .i64 0, .int .i64 0]) (t := 45) ?hr ?_; (case hd => rfl); (case hg => rfl); (case hr => first | (go_simp; done) | (go_simp; rfl)); intro gb hg w3 hbox hb; have BX := Aside0.mk hb; have GX := Aside0.mk (show wr.heap.size ≤ gb by rw [hg]; exact Nat.le_refl _); have hcz0 : w3.cell? ⟨gb, 0, none⟩ = some (.int .i64 0) := (blk_cell hbox 0).trans rfl; have hcz1 : w3.cell? ⟨gb, 1, none⟩ = some (.int .i64 0) := (blk_cell hbox 1).trans rfl; have hcz2 : w3.cell? ⟨gb, 2, none⟩ = some (.int .i64 0) := (blk_cell hbox 2).trans rfl; have hfz0 := blk_frozen hbox 0; have hfz1 := blk_frozen hbox 1; have hfz2 := blk_frozen hbox 2; clear hb hbox hg))
          have b3 : Below wr.heap.size wr (((w3.setCell ⟨gb, 0, none⟩ (.int .i64 (rd_T45 L i).f0)).setCell ⟨gb, 1, none⟩ (.int .i64 (rd_T45 L i).f1)).setCell ⟨gb, 2, none⟩ (.int .i64 (rd_T45 L i).f2)) := below_set (below_set (below_set BX.out GX.out) GX.out) GX.out
          have B3 := Aside0.mk b3
          clear b3 BX GX hcz0 hcz1 hcz2 hfz0 hfz1 hfz2 hx0 hx1 hx2
          generalize (((w3.setCell ⟨gb, 0, none⟩ (.int .i64 (rd_T45 L i).f0)).setCell ⟨gb, 1, none⟩ (.int .i64 (rd_T45 L i).f1)).setCell ⟨gb, 2, none⟩ (.int .i64 (rd_T45 L i).f2)) = w4 at B3 ⊢
          refine (impl_moved.calls k1 Al cl l (rd_T45 L i).f0 (rd_T45 L i).f1 (rd_T45 L i).f2 nx w4 (Hl.out w4 (HK.out.below B3.out)) HCl.out T1.out).mono ?_
          rintro e w5 ⟨v5, rfl, ho5, hb5⟩
          obtain ⟨A5, c5, rfl⟩ := Kd.R_slice ho5
          have HN := Aside0.mk (nx_new HS1.out ho5 B3.out.size)
          have B5 := Aside0.mk (below_step B3.out hb5)
          clear ho5 hb5 B3
          go_wp2_with fail
          refine (impl_permutationRank.calls k1 A5 c5 nx r _ (Kd.R_reads' HN.out).2.2 (Kd.R_reads' HN.out).2.1 T2.out).mono ?_
          rintro e w6 ⟨rfl, hd6⟩
          have hb6 : Below w5.heap.size w5 w6 := by first | exact hd6 | exact Drawn0.below hd6
          have n0_ := Aside0.mk (Kd.R_below HN.out hb6)
          have HB2 := Aside0.mk (below_step B5.out hb6)
          clear HN hd6 hb6 B5
          have HN := n0_
          clear n0_
          have HS2 := Aside0.mk (HS1.out.below HB2.out)
          have HQ := Aside0.mk (Kept.of_below HB2.out (Wq g (.slice Ao out'.length co)))
          have B2 := Aside0.mk (HB.out.trans (HB2.out.mono HB.out.size))
          clear HB2
          have hm : w6.cell? ⟨g.bm, 0, none⟩ = some (.map (some g.q)) := (blk_cell HS2.out.env.m 0).trans rfl
          have hp : w6.cell? ⟨g.bp, 0, none⟩ = some (.int .i64 put') := (blk_cell HS2.out.p 0).trans rfl
          have hpf : w6.frozen? ⟨g.bp, 0, none⟩ = false := blk_frozen HS2.out.p 0
          have hbd : w6.cell? ⟨g.bb, 0, none⟩ = some (.int .i64 bud) := (blk_cell HS2.out.env.b 0).trans rfl
          have hnb : g.bb ≠ g.bp := HS2.out.di.p.2.2.2.1
          have hnb' : g.bp ≠ g.bb := Ne.symm hnb
          have hmo : (w6.setCell ⟨g.bp, 0, none⟩ (.int .i64 (put' + 1))).cell? ⟨g.bm, 0, none⟩ = some (.map (some g.q)) := (blk_cell (HS2.out.setP (put' + 1)).env.m 0).trans rfl
          have hpo : (w6.setCell ⟨g.bp, 0, none⟩ (.int .i64 (put' + 1))).cell? ⟨g.bb, 0, none⟩ = some (.int .i64 bud) := (blk_cell (HS2.out.setP (put' + 1)).env.b 0).trans rfl
          go_wp2_with (first | (with_reducible refine wpList_lookup rfl (.tmp 34) (.tmp 35) rfl impl_FirstPath.mt impl_FirstPath.mk_ impl_FirstPath.me (impl_FirstPath.zeroB _) rfl HS2.out.s r HW.out rfl ?_; rw [cmb]) | ((with_reducible refine wpList_store rfl (.tmp 42) (.tmp 43) (.const (.bool true)) rfl impl_FirstPath.mt impl_FirstPath.mk_ impl_FirstPath.me ?hmm (HS2.out.setP (put' + 1)).s ?hnn r HW.out ?hxx rfl ?_); (case hmm => rfl); (case hxx => rfl); (case hnn => have := CP.out; unfold maxLen; omega); intro w7 hm7 hg7; rw [if_neg CM.out] at hm7; have HS3 := Aside0.mk ((HS2.out.setP (put' + 1)).upd hm7 hg7); have HN3 := Aside0.mk (nx_upd (nx_setP (u := .int .i64 (put' + 1)) HN.out) hg7); have HQ3 := Aside0.mk (kq_upd (kq_setP HQ.out (.int .i64 (put' + 1))) hg7); have B3 := Aside0.mk (below_upd HS2.out (below_setP HS2.out B2.out (.int .i64 (put' + 1))) hg7); have ho3 : w7.cell? ⟨g.bo, 0, none⟩ = some (.slice Ao out'.length co) := (blk_cell HS3.out.o 0).trans rfl; clear hm7 hg7 hmo hpo) | ((with_reducible refine gate_builtin (b := .append) (xs := #[.tmp 44, .tmp 46]) rfl ?_); at_builtin; refine Kd.R_append (Kd.int .i64) (w0 := w0) w0.heap.size rfl (.tmp 44) (.tmp 46) 24 3 (.int .i64 0) 8 rfl Try.underlying24 info3 rfl (by decide) (by omega) (.slice Ao out'.length co) out' i [.int .i64 i] g.Ok (fun _ => False) rfl (by first | (go_simp; done) | (go_simp; rfl)) ?aP (fun _ hk => hk.elim) ?aF ?aO ?aB ?aS ?aL ?_; (case aP => exact rfl); (case aB => exact B3.out); (case aF => exact HS3.out.fresh); (case aO => exact HS3.out.r); (case aS => exact B3.out.size); (case aL => have := CP.out; omega); intro v8 w8 ho8 hb8 hg8 hat8; obtain ⟨A8, c8, e8⟩ := Kd.R_slice ho8; rw [List.length_append, show [i].length = 1 from rfl] at e8; subst e8; have HS4 := Aside0.mk (HS3.out.app ho8 hg8); have HN4 := Aside0.mk (nx_setO (u := .slice A8 (out'.length + 1) c8) (nx_app HN3.out hg8 hat8)); have HQ4 := Aside0.mk (kq_setO (kq_app HQ3.out hg8) (.slice A8 (out'.length + 1) c8)); have FR4 := Aside0.mk ((Fr.new hat8).up HQ3.out.1); have B4 := Aside0.mk (below_setO HS3.out hb8 (.slice A8 (out'.length + 1) c8)); have hoc : w8.cell? ⟨g.bo, 0, none⟩ = some (.slice Ao out'.length co) := (blk_cell (HS3.out.appO hg8) 0).trans rfl; have hof := blk_frozen (HS3.out.appO hg8) 0; have hbe : (w8.setCell ⟨g.bo, 0, none⟩ (.slice A8 (out'.length + 1) c8)).cell? ⟨g.be, 0, none⟩ = some (.func (.func 49) #[] #[.pointer (some ⟨g.bm, 0, none⟩), .pointer (some ⟨g.bn, 0, none⟩), .pointer (some ⟨g.bv, 0, none⟩), .pointer (some ⟨g.bp, 0, none⟩), .pointer (some ⟨g.bb, 0, none⟩), .pointer (some ⟨g.bo, 0, none⟩), .pointer (some ⟨g.be, 0, none⟩)]) := (blk_cell HS4.out.env.e 0).trans rfl; clear ho8 hb8 hg8 hat8))
          refine (IH.out k1 (by have := HK1.out; omega) w0 g _ cL L n bud A5 c5 nx (r :: M') (put' + 1) (out' ++ [i]) _ (true, true, M2, p2, o2) _ HL.out HCL.out (nx_hl HN4.out) (Kd.R_reads' HN4.out).2.1 HS4.out B4.out HE.out).mono ?_
          rintro e w9 ⟨v9, rfl, hs9, hk9, hf9, hb9⟩
          have HS9 := Aside0.mk hs9
          have HK9 := Aside0.mk (HK.out.then_ (HQ4.out.then_ hk9 FR4.out.sub) HF.out.sub)
          have HF9 := Aside0.mk (HF.out.trans (FR4.out.trans hf9 HQ4.out.1) HK.out.1)
          have HB9 := Aside0.mk hb9
          clear hs9 hk9 hf9 hb9 hm hp hpf hbd HS4 HN4 HQ4 FR4 B4 HS3 HN3 HQ3 B3 HS2 HQ B2 HN
          go_wp2
          go_ret2
          first | exact ⟨v9, rfl, HS9.out, HK9.out, HF9.out, HB9.out⟩ | exact ⟨rfl, v9, HS9.out, HK9.out, HF9.out, HB9.out⟩
      simp only [Bool.false_eq_true, if_false] at H
      cases mo
      · simp only [if_true] at H
        obtain rfl := Option.some.inj H
        clear H
        go_wp2_with (first | ((with_reducible refine gate_dst (N := 12) rfl ?_); refine box_event ?hg (N := 12) ?hd (cs := #[.int .i64 0, .int .i64 0, .int .i64 0]) (t := 45) ?hr ?_; (case hd => rfl); (case hg => rfl); (case hr => first | (go_simp; done) | (go_simp; rfl)); intro gb hg w3 hbox hb; have BX := Aside0.mk hb; have GX := Aside0.mk (show wr.heap.size ≤ gb by rw [hg]; exact Nat.le_refl _); have hcz0 : w3.cell? ⟨gb, 0, none⟩ = some (.int .i64 0) := (blk_cell hbox 0).trans rfl; have hcz1 : w3.cell? ⟨gb, 1, none⟩ = some (.int .i64 0) := (blk_cell hbox 1).trans rfl; have hcz2 : w3.cell? ⟨gb, 2, none⟩ = some (.int .i64 0) := (blk_cell hbox 2).trans rfl; have hfz0 := blk_frozen hbox 0; have hfz1 := blk_frozen hbox 1; have hfz2 := blk_frozen hbox 2; clear hb hbox hg))
        have b3 : Below wr.heap.size wr (((w3.setCell ⟨gb, 0, none⟩ (.int .i64 (rd_T45 L i).f0)).setCell ⟨gb, 1, none⟩ (.int .i64 (rd_T45 L i).f1)).setCell ⟨gb, 2, none⟩ (.int .i64 (rd_T45 L i).f2)) := below_set (below_set (below_set BX.out GX.out) GX.out) GX.out
        have B3 := Aside0.mk b3
        clear b3 BX GX hcz0 hcz1 hcz2 hfz0 hfz1 hfz2 hx0 hx1 hx2
        generalize (((w3.setCell ⟨gb, 0, none⟩ (.int .i64 (rd_T45 L i).f0)).setCell ⟨gb, 1, none⟩ (.int .i64 (rd_T45 L i).f1)).setCell ⟨gb, 2, none⟩ (.int .i64 (rd_T45 L i).f2)) = w4 at B3 ⊢
        refine (impl_moved.calls k1 Al cl l (rd_T45 L i).f0 (rd_T45 L i).f1 (rd_T45 L i).f2 nx w4 (Hl.out w4 (HK.out.below B3.out)) HCl.out T1.out).mono ?_
        rintro e w5 ⟨v5, rfl, ho5, hb5⟩
        obtain ⟨A5, c5, rfl⟩ := Kd.R_slice ho5
        have HN := Aside0.mk (nx_new HS1.out ho5 B3.out.size)
        have B5 := Aside0.mk (below_step B3.out hb5)
        clear ho5 hb5 B3
        go_wp2_with fail
        refine (impl_permutationRank.calls k1 A5 c5 nx r _ (Kd.R_reads' HN.out).2.2 (Kd.R_reads' HN.out).2.1 T2.out).mono ?_
        rintro e w6 ⟨rfl, hd6⟩
        have hb6 : Below w5.heap.size w5 w6 := by first | exact hd6 | exact Drawn0.below hd6
        have n0_ := Aside0.mk (Kd.R_below HN.out hb6)
        have HB2 := Aside0.mk (below_step B5.out hb6)
        clear HN hd6 hb6 B5
        have HN := n0_
        clear n0_
        have HS2 := Aside0.mk (HS1.out.below HB2.out)
        have HQ := Aside0.mk (Kept.of_below HB2.out (Wq g (.slice Ao out'.length co)))
        have B2 := Aside0.mk (HB.out.trans (HB2.out.mono HB.out.size))
        clear HB2
        have hm : w6.cell? ⟨g.bm, 0, none⟩ = some (.map (some g.q)) := (blk_cell HS2.out.env.m 0).trans rfl
        have hp : w6.cell? ⟨g.bp, 0, none⟩ = some (.int .i64 put') := (blk_cell HS2.out.p 0).trans rfl
        have hpf : w6.frozen? ⟨g.bp, 0, none⟩ = false := blk_frozen HS2.out.p 0
        have hbd : w6.cell? ⟨g.bb, 0, none⟩ = some (.int .i64 bud) := (blk_cell HS2.out.env.b 0).trans rfl
        have hnb : g.bb ≠ g.bp := HS2.out.di.p.2.2.2.1
        have hnb' : g.bp ≠ g.bb := Ne.symm hnb
        have hmo : (w6.setCell ⟨g.bp, 0, none⟩ (.int .i64 (put' + 1))).cell? ⟨g.bm, 0, none⟩ = some (.map (some g.q)) := (blk_cell (HS2.out.setP (put' + 1)).env.m 0).trans rfl
        have hpo : (w6.setCell ⟨g.bp, 0, none⟩ (.int .i64 (put' + 1))).cell? ⟨g.bb, 0, none⟩ = some (.int .i64 bud) := (blk_cell (HS2.out.setP (put' + 1)).env.b 0).trans rfl
        go_wp2_with (first | (with_reducible refine wpList_lookup rfl (.tmp 34) (.tmp 35) rfl impl_FirstPath.mt impl_FirstPath.mk_ impl_FirstPath.me (impl_FirstPath.zeroB _) rfl HS2.out.s r HW.out rfl ?_; rw [cmb]) | ((with_reducible refine wpList_store rfl (.tmp 42) (.tmp 43) (.const (.bool true)) rfl impl_FirstPath.mt impl_FirstPath.mk_ impl_FirstPath.me ?hmm (HS2.out.setP (put' + 1)).s ?hnn r HW.out ?hxx rfl ?_); (case hmm => rfl); (case hxx => rfl); (case hnn => have := CP.out; unfold maxLen; omega); intro w7 hm7 hg7; rw [if_neg CM.out] at hm7; have HS3 := Aside0.mk ((HS2.out.setP (put' + 1)).upd hm7 hg7); have HN3 := Aside0.mk (nx_upd (nx_setP (u := .int .i64 (put' + 1)) HN.out) hg7); have HQ3 := Aside0.mk (kq_upd (kq_setP HQ.out (.int .i64 (put' + 1))) hg7); have B3 := Aside0.mk (below_upd HS2.out (below_setP HS2.out B2.out (.int .i64 (put' + 1))) hg7); have ho3 : w7.cell? ⟨g.bo, 0, none⟩ = some (.slice Ao out'.length co) := (blk_cell HS3.out.o 0).trans rfl; clear hm7 hg7 hmo hpo) | ((with_reducible refine gate_builtin (b := .append) (xs := #[.tmp 44, .tmp 46]) rfl ?_); at_builtin; refine Kd.R_append (Kd.int .i64) (w0 := w0) w0.heap.size rfl (.tmp 44) (.tmp 46) 24 3 (.int .i64 0) 8 rfl Try.underlying24 info3 rfl (by decide) (by omega) (.slice Ao out'.length co) out' i [.int .i64 i] g.Ok (fun _ => False) rfl (by first | (go_simp; done) | (go_simp; rfl)) ?aP (fun _ hk => hk.elim) ?aF ?aO ?aB ?aS ?aL ?_; (case aP => exact rfl); (case aB => exact B3.out); (case aF => exact HS3.out.fresh); (case aO => exact HS3.out.r); (case aS => exact B3.out.size); (case aL => have := CP.out; omega); intro v8 w8 ho8 hb8 hg8 hat8; obtain ⟨A8, c8, e8⟩ := Kd.R_slice ho8; rw [List.length_append, show [i].length = 1 from rfl] at e8; subst e8; have HS4 := Aside0.mk (HS3.out.app ho8 hg8); have HN4 := Aside0.mk (nx_setO (u := .slice A8 (out'.length + 1) c8) (nx_app HN3.out hg8 hat8)); have HQ4 := Aside0.mk (kq_setO (kq_app HQ3.out hg8) (.slice A8 (out'.length + 1) c8)); have FR4 := Aside0.mk ((Fr.new hat8).up HQ3.out.1); have B4 := Aside0.mk (below_setO HS3.out hb8 (.slice A8 (out'.length + 1) c8)); have hoc : w8.cell? ⟨g.bo, 0, none⟩ = some (.slice Ao out'.length co) := (blk_cell (HS3.out.appO hg8) 0).trans rfl; have hof := blk_frozen (HS3.out.appO hg8) 0; have hbe : (w8.setCell ⟨g.bo, 0, none⟩ (.slice A8 (out'.length + 1) c8)).cell? ⟨g.be, 0, none⟩ = some (.func (.func 49) #[] #[.pointer (some ⟨g.bm, 0, none⟩), .pointer (some ⟨g.bn, 0, none⟩), .pointer (some ⟨g.bv, 0, none⟩), .pointer (some ⟨g.bp, 0, none⟩), .pointer (some ⟨g.bb, 0, none⟩), .pointer (some ⟨g.bo, 0, none⟩), .pointer (some ⟨g.be, 0, none⟩)]) := (blk_cell HS4.out.env.e 0).trans rfl; clear ho8 hb8 hg8 hat8))
        refine (IH.out k1 (by have := HK1.out; omega) w0 g _ cL L n bud A5 c5 nx (r :: M') (put' + 1) (out' ++ [i]) _ (false, false, M2, p2, o2) _ HL.out HCL.out (nx_hl HN4.out) (Kd.R_reads' HN4.out).2.1 HS4.out B4.out HE.out).mono ?_
        rintro e w9 ⟨v9, rfl, hs9, hk9, hf9, hb9⟩
        have HS9 := Aside0.mk hs9
        have HK9 := Aside0.mk (HK.out.then_ (HQ4.out.then_ hk9 FR4.out.sub) HF.out.sub)
        have HF9 := Aside0.mk (HF.out.trans (FR4.out.trans hf9 HQ4.out.1) HK.out.1)
        have HB9 := Aside0.mk hb9
        clear hs9 hk9 hf9 hb9 hm hp hpf hbd HS4 HN4 HQ4 FR4 B4 HS3 HN3 HQ3 B3 HS2 HQ B2 HN
        go_wp2
        go_ret2
        first | exact ⟨v9, rfl, HS9.out, HK9.out, HF9.out, HB9.out⟩ | exact ⟨rfl, v9, HS9.out, HK9.out, HF9.out, HB9.out⟩
      simp only [Bool.true_eq_false, if_false] at H
      by_cases cn : M2.Nodup ∧ 0 < o2.length ∧ o2.length < 1000000
      rotate_left
      · rw [if_neg cn] at H; cases H
      rw [if_pos cn] at H
      have H' := Aside0.mk H
      have CN := Aside0.mk cn
      clear H cn
      go_wp2_with (first | ((with_reducible refine gate_dst (N := 12) rfl ?_); refine box_event ?hg (N := 12) ?hd (cs := #[.int .i64 0, .int .i64 0, .int .i64 0]) (t := 45) ?hr ?_; (case hd => rfl); (case hg => rfl); (case hr => first | (go_simp; done) | (go_simp; rfl)); intro gb hg w3 hbox hb; have BX := Aside0.mk hb; have GX := Aside0.mk (show wr.heap.size ≤ gb by rw [hg]; exact Nat.le_refl _); have hcz0 : w3.cell? ⟨gb, 0, none⟩ = some (.int .i64 0) := (blk_cell hbox 0).trans rfl; have hcz1 : w3.cell? ⟨gb, 1, none⟩ = some (.int .i64 0) := (blk_cell hbox 1).trans rfl; have hcz2 : w3.cell? ⟨gb, 2, none⟩ = some (.int .i64 0) := (blk_cell hbox 2).trans rfl; have hfz0 := blk_frozen hbox 0; have hfz1 := blk_frozen hbox 1; have hfz2 := blk_frozen hbox 2; clear hb hbox hg))
      have b3 : Below wr.heap.size wr (((w3.setCell ⟨gb, 0, none⟩ (.int .i64 (rd_T45 L i).f0)).setCell ⟨gb, 1, none⟩ (.int .i64 (rd_T45 L i).f1)).setCell ⟨gb, 2, none⟩ (.int .i64 (rd_T45 L i).f2)) := below_set (below_set (below_set BX.out GX.out) GX.out) GX.out
      have B3 := Aside0.mk b3
      clear b3 BX GX hcz0 hcz1 hcz2 hfz0 hfz1 hfz2 hx0 hx1 hx2
      generalize (((w3.setCell ⟨gb, 0, none⟩ (.int .i64 (rd_T45 L i).f0)).setCell ⟨gb, 1, none⟩ (.int .i64 (rd_T45 L i).f1)).setCell ⟨gb, 2, none⟩ (.int .i64 (rd_T45 L i).f2)) = w4 at B3 ⊢
      refine (impl_moved.calls k1 Al cl l (rd_T45 L i).f0 (rd_T45 L i).f1 (rd_T45 L i).f2 nx w4 (Hl.out w4 (HK.out.below B3.out)) HCl.out T1.out).mono ?_
      rintro e w5 ⟨v5, rfl, ho5, hb5⟩
      obtain ⟨A5, c5, rfl⟩ := Kd.R_slice ho5
      have HN := Aside0.mk (nx_new HS1.out ho5 B3.out.size)
      have B5 := Aside0.mk (below_step B3.out hb5)
      clear ho5 hb5 B3
      go_wp2_with fail
      refine (impl_permutationRank.calls k1 A5 c5 nx r _ (Kd.R_reads' HN.out).2.2 (Kd.R_reads' HN.out).2.1 T2.out).mono ?_
      rintro e w6 ⟨rfl, hd6⟩
      have hb6 : Below w5.heap.size w5 w6 := by first | exact hd6 | exact Drawn0.below hd6
      have n0_ := Aside0.mk (Kd.R_below HN.out hb6)
      have HB2 := Aside0.mk (below_step B5.out hb6)
      clear HN hd6 hb6 B5
      have HN := n0_
      clear n0_
      have HS2 := Aside0.mk (HS1.out.below HB2.out)
      have HQ := Aside0.mk (Kept.of_below HB2.out (Wq g (.slice Ao out'.length co)))
      have B2 := Aside0.mk (HB.out.trans (HB2.out.mono HB.out.size))
      clear HB2
      have hm : w6.cell? ⟨g.bm, 0, none⟩ = some (.map (some g.q)) := (blk_cell HS2.out.env.m 0).trans rfl
      have hp : w6.cell? ⟨g.bp, 0, none⟩ = some (.int .i64 put') := (blk_cell HS2.out.p 0).trans rfl
      have hpf : w6.frozen? ⟨g.bp, 0, none⟩ = false := blk_frozen HS2.out.p 0
      have hbd : w6.cell? ⟨g.bb, 0, none⟩ = some (.int .i64 bud) := (blk_cell HS2.out.env.b 0).trans rfl
      have hnb : g.bb ≠ g.bp := HS2.out.di.p.2.2.2.1
      have hnb' : g.bp ≠ g.bb := Ne.symm hnb
      have hmo : (w6.setCell ⟨g.bp, 0, none⟩ (.int .i64 (put' + 1))).cell? ⟨g.bm, 0, none⟩ = some (.map (some g.q)) := (blk_cell (HS2.out.setP (put' + 1)).env.m 0).trans rfl
      have hpo : (w6.setCell ⟨g.bp, 0, none⟩ (.int .i64 (put' + 1))).cell? ⟨g.bb, 0, none⟩ = some (.int .i64 bud) := (blk_cell (HS2.out.setP (put' + 1)).env.b 0).trans rfl
      go_wp2_with (first | (with_reducible refine wpList_lookup rfl (.tmp 34) (.tmp 35) rfl impl_FirstPath.mt impl_FirstPath.mk_ impl_FirstPath.me (impl_FirstPath.zeroB _) rfl HS2.out.s r HW.out rfl ?_; rw [cmb]) | ((with_reducible refine wpList_store rfl (.tmp 42) (.tmp 43) (.const (.bool true)) rfl impl_FirstPath.mt impl_FirstPath.mk_ impl_FirstPath.me ?hmm (HS2.out.setP (put' + 1)).s ?hnn r HW.out ?hxx rfl ?_); (case hmm => rfl); (case hxx => rfl); (case hnn => have := CP.out; unfold maxLen; omega); intro w7 hm7 hg7; rw [if_neg CM.out] at hm7; have HS3 := Aside0.mk ((HS2.out.setP (put' + 1)).upd hm7 hg7); have HN3 := Aside0.mk (nx_upd (nx_setP (u := .int .i64 (put' + 1)) HN.out) hg7); have HQ3 := Aside0.mk (kq_upd (kq_setP HQ.out (.int .i64 (put' + 1))) hg7); have B3 := Aside0.mk (below_upd HS2.out (below_setP HS2.out B2.out (.int .i64 (put' + 1))) hg7); have ho3 : w7.cell? ⟨g.bo, 0, none⟩ = some (.slice Ao out'.length co) := (blk_cell HS3.out.o 0).trans rfl; clear hm7 hg7 hmo hpo) | ((with_reducible refine gate_builtin (b := .append) (xs := #[.tmp 44, .tmp 46]) rfl ?_); at_builtin; refine Kd.R_append (Kd.int .i64) (w0 := w0) w0.heap.size rfl (.tmp 44) (.tmp 46) 24 3 (.int .i64 0) 8 rfl Try.underlying24 info3 rfl (by decide) (by omega) (.slice Ao out'.length co) out' i [.int .i64 i] g.Ok (fun _ => False) rfl (by first | (go_simp; done) | (go_simp; rfl)) ?aP (fun _ hk => hk.elim) ?aF ?aO ?aB ?aS ?aL ?_; (case aP => exact rfl); (case aB => exact B3.out); (case aF => exact HS3.out.fresh); (case aO => exact HS3.out.r); (case aS => exact B3.out.size); (case aL => have := CP.out; omega); intro v8 w8 ho8 hb8 hg8 hat8; obtain ⟨A8, c8, e8⟩ := Kd.R_slice ho8; rw [List.length_append, show [i].length = 1 from rfl] at e8; subst e8; have HS4 := Aside0.mk (HS3.out.app ho8 hg8); have HN4 := Aside0.mk (nx_setO (u := .slice A8 (out'.length + 1) c8) (nx_app HN3.out hg8 hat8)); have HQ4 := Aside0.mk (kq_setO (kq_app HQ3.out hg8) (.slice A8 (out'.length + 1) c8)); have FR4 := Aside0.mk ((Fr.new hat8).up HQ3.out.1); have B4 := Aside0.mk (below_setO HS3.out hb8 (.slice A8 (out'.length + 1) c8)); have hoc : w8.cell? ⟨g.bo, 0, none⟩ = some (.slice Ao out'.length co) := (blk_cell (HS3.out.appO hg8) 0).trans rfl; have hof := blk_frozen (HS3.out.appO hg8) 0; have hbe : (w8.setCell ⟨g.bo, 0, none⟩ (.slice A8 (out'.length + 1) c8)).cell? ⟨g.be, 0, none⟩ = some (.func (.func 49) #[] #[.pointer (some ⟨g.bm, 0, none⟩), .pointer (some ⟨g.bn, 0, none⟩), .pointer (some ⟨g.bv, 0, none⟩), .pointer (some ⟨g.bp, 0, none⟩), .pointer (some ⟨g.bb, 0, none⟩), .pointer (some ⟨g.bo, 0, none⟩), .pointer (some ⟨g.be, 0, none⟩)]) := (blk_cell HS4.out.env.e 0).trans rfl; clear ho8 hb8 hg8 hat8))
      refine (IH.out k1 (by have := HK1.out; omega) w0 g _ cL L n bud A5 c5 nx (r :: M') (put' + 1) (out' ++ [i]) _ (false, true, M2, p2, o2) _ HL.out HCL.out (nx_hl HN4.out) (Kd.R_reads' HN4.out).2.1 HS4.out B4.out HE.out).mono ?_
      rintro e w9 ⟨v9, rfl, hs9, hk9, hf9, hb9⟩
      have HS9 := Aside0.mk hs9
      have HK9 := Aside0.mk (HK.out.then_ (HQ4.out.then_ hk9 FR4.out.sub) HF.out.sub)
      have HF9 := Aside0.mk (HF.out.trans (FR4.out.trans hf9 HQ4.out.1) HK.out.1)
      have HB9 := Aside0.mk hb9
      clear hs9 hk9 hf9 hb9 hm hp hpf hbd HS4 HN4 HQ4 FR4 B4 HS3 HN3 HQ3 B3 HS2 HQ B2 HN
      dsimp only at HS9
      obtain ⟨A9, c9, e9⟩ := Kd.R_slice HS9.out.r
      subst e9
      obtain ⟨ii, hinf, hz0, hz1, hz2⟩ := info_parts info3
      clear hz0 hz1 hz2
      have hsub : IntKind.i64.wrap ((o2.length : Int) - 1) = (o2.length : Int) - 1 := IntWalk.i64_in _ (by have := CN.out; omega)
      have hsub' : wrap64 ((o2.length : Int) - 1) = (o2.length : Int) - 1 := by have := CN.out; unfold wrap64; omega
      have hcut := cut_to (P := Try.prog) 24 3 .i64 Try.underlying24 hinf A9 o2.length c9 ((o2.length : Int) - 1) (by have := CN.out; omega) (by omega) (Kd.R_reads' HS9.out.r).2.1
      have hto : ((o2.length : Int) - 1).toNat = o2.length - 1 := by omega
      rw [hto] at hcut
      have hm : w9.cell? ⟨g.bm, 0, none⟩ = some (.map (some g.q)) := (blk_cell HS9.out.env.m 0).trans rfl
      clear hinf
      go_wp2_with (first | ((with_reducible refine wpList_delete rfl (.tmp 61) (.tmp 62) rfl impl_FirstPath.mt impl_FirstPath.mk_ ?hmm HS9.out.s CN.out.1 r HW.out ?hxx ?_); (case hmm => rfl); (case hxx => rfl); intro w10 hm10 hg10; have HS10 := Aside0.mk (HS9.out.upd hm10 hg10); have HK10 := Aside0.mk (Kept.of_grown hg10 HK9.out (fun k hk => .inl (.inl (Option.some.inj hk).symm))); have HB10 := Aside0.mk (below_upd HS9.out HB9.out hg10); have ho10 : w10.cell? ⟨g.bo, 0, none⟩ = some (.slice A9 o2.length c9) := (blk_cell HS10.out.o 0).trans rfl; have hof10 := blk_frozen HS10.out.o 0; clear hm10 hg10))
      have hr : (Kd.int .i64).R 3 w10 w0.heap.size g.Ok (.slice A9 (o2.length - 1) c9) (o2.take (o2.length - 1)) := Kd.R_take HS10.out.r (by omega)
      go_roundg k1
      case measure => have := HK1.out; omega
      case rel => exact ⟨wrap64 (i + 1), M2.erase r, p2, o2.take (o2.length - 1), _, rfl, H', ⟨by have := HK1.out; omega⟩, ⟨HS10.out.setO hr⟩, ⟨kq_setO HK10.out _⟩, ⟨fun k_ hk_ => HF9.out k_ (by first | exact hk_ | (cases A9 <;> exact hk_))⟩, ⟨below_setO HS10.out HB10.out _⟩⟩
open Go.Proofs.Ytllhnnjkonghlaa.MapSet Go.Proofs.Ytllhnnjkonghlaa.FpW in
set_option maxHeartbeats 8000000 in
set_option maxRecDepth 100000 in
theorem impl_FirstPath.calls (k : Nat) (a0 : Int) (A1 : Option Addr) (c1 : Nat) (l1 : List (S45)) (a2 : Int) (r1 : List Int) (r2 : Bool) (w : World) (hr1 : Kd.C k45 w A1 l1.length l1) (hc1 : l1.length ≤ c1) (h : impl_FirstPath.f k a0 l1 a2 = some (r1, r2)) :
    Calls Try.prog 9 #[.int .i64 a0, .slice A1 l1.length c1, .int .i64 a2] w fun e w' => ∃ v0_ : Value, e = .returned (.tuple #[v0_, .bool r2]) ∧ Kd.R (Kd.int .i64) 3 w' w.heap.size (fun _ => True) v0_ r1 ∧ Below w.heap.size w w' := by
  have HR1 := Aside0.mk hr1
  have HC1 := Aside0.mk hc1
  unfold impl_FirstPath.f at h
  obtain ⟨t1, h1, H⟩ := Option.bind_eq_some_iff.mp h
  have T1 := Aside0.mk h1
  clear h h1 hr1 hc1
  have HB := Aside0.mk (Below.refl w.heap.size w)
  cases t1
  · simp only [Bool.false_eq_true, if_false, Option.some.injEq, Prod.mk.injEq] at H
    obtain ⟨rfl, rfl⟩ := H
    go_enter Try.func9, Try.ntmps9
    go_wp2_with (first | ((with_reducible refine gate_dst (N := 3) rfl ?_); refine box_event ?hg (N := 3) ?hd (cs := #[.int .i64 a0]) (t := 3) ?hr ?_; (case hd => rfl); (case hg => rfl); (case hr => first | (go_simp; done) | (go_simp; rfl)); intro gn hg w1 hbox hb; have BN := Aside0.mk hbox; have LN := Aside0.mk (show w.heap.size ≤ gn by rw [hg]; exact Nat.le_refl _); have HB := Aside0.mk hb; have hxn : w1.cell? ⟨gn, 0, none⟩ = some (.int .i64 a0) := (blk_cell hbox 0).trans rfl; clear hb hbox hg) | ((with_reducible refine gate_dst (N := 4) rfl ?_); refine box_event ?hg (N := 4) ?hd (cs := #[.slice A1 l1.length c1]) (t := 27) ?hr ?_; (case hd => rfl); (case hg => rfl); (case hr => first | (go_simp; done) | (go_simp; rfl)); intro gv hg w2 hbox hb; have LV := Aside0.mk (show gn < gv by rw [hg]; exact blk_lt BN.out); have BV := Aside0.mk hbox; have m0_ := Aside0.mk (blk_below BN.out hb); have m1_ := Aside0.mk (below_step HB.out hb); clear BN HB; have BN := m0_; have HB := m1_; clear m0_ m1_; have hxn : w2.cell? ⟨gn, 0, none⟩ = some (.int .i64 a0) := (blk_cell BN.out 0).trans rfl; have hxv : w2.cell? ⟨gv, 0, none⟩ = some (.slice A1 l1.length c1) := (blk_cell hbox 0).trans rfl; clear hb hbox hg) | ((with_reducible refine gate_dst (N := 5) rfl ?_); refine box_event ?hg (N := 5) ?hd (cs := #[.int .i64 a2]) (t := 3) ?hr ?_; (case hd => rfl); (case hg => rfl); (case hr => first | (go_simp; done) | (go_simp; rfl)); intro gb hg w3 hbox hb; have LB := Aside0.mk (show gv < gb by rw [hg]; exact blk_lt BV.out); have BB := Aside0.mk hbox; have m0_ := Aside0.mk (blk_below BN.out hb); have m1_ := Aside0.mk (blk_below BV.out hb); have m2_ := Aside0.mk (below_step HB.out hb); clear BN BV HB; have BN := m0_; have BV := m1_; have HB := m2_; clear m0_ m1_ m2_; have hxn : w3.cell? ⟨gn, 0, none⟩ = some (.int .i64 a0) := (blk_cell BN.out 0).trans rfl; have hxv : w3.cell? ⟨gv, 0, none⟩ = some (.slice A1 l1.length c1) := (blk_cell BV.out 0).trans rfl; have hxb : w3.cell? ⟨gb, 0, none⟩ = some (.int .i64 a2) := (blk_cell hbox 0).trans rfl; clear hb hbox hg))
    refine (impl_areMoves.calls k a0 A1 c1 l1 false _ (Kd.C_below HR1.out HB.out) HC1.out T1.out).mono ?_
    rintro e w4 ⟨rfl, hd4⟩
    have hb4 : Below w3.heap.size w3 w4 := by first | exact hd4 | exact Drawn0.below hd4
    have m0_ := Aside0.mk (blk_below BN.out hb4)
    have m1_ := Aside0.mk (blk_below BV.out hb4)
    have m2_ := Aside0.mk (blk_below BB.out hb4)
    have m3_ := Aside0.mk (below_step HB.out hb4)
    clear BN BV BB HB
    have BN := m0_
    have BV := m1_
    have BB := m2_
    have HB := m3_
    clear m0_ m1_ m2_ m3_
    clear hb4 hd4 hxn hxv hxb
    have hxn : w4.cell? ⟨gn, 0, none⟩ = some (.int .i64 a0) := (blk_cell BN.out 0).trans rfl
    have hxb : w4.cell? ⟨gb, 0, none⟩ = some (.int .i64 a2) := (blk_cell BB.out 0).trans rfl
    go_wp2
    go_ret2
    exact ⟨_, rfl, Kd.R_nil _ _ _ _ _, HB.out⟩
  simp only [if_true] at H
  by_cases cg : 4 < a0
  · rw [if_pos cg] at H
    simp only [Option.some.injEq, Prod.mk.injEq] at H
    obtain ⟨rfl, rfl⟩ := H
    have cgb : decide (4 < a0) = true := decide_eq_true cg
    go_enter Try.func9, Try.ntmps9
    go_wp2_with (first | ((with_reducible refine gate_dst (N := 3) rfl ?_); refine box_event ?hg (N := 3) ?hd (cs := #[.int .i64 a0]) (t := 3) ?hr ?_; (case hd => rfl); (case hg => rfl); (case hr => first | (go_simp; done) | (go_simp; rfl)); intro gn hg w1 hbox hb; have BN := Aside0.mk hbox; have LN := Aside0.mk (show w.heap.size ≤ gn by rw [hg]; exact Nat.le_refl _); have HB := Aside0.mk hb; have hxn : w1.cell? ⟨gn, 0, none⟩ = some (.int .i64 a0) := (blk_cell hbox 0).trans rfl; clear hb hbox hg) | ((with_reducible refine gate_dst (N := 4) rfl ?_); refine box_event ?hg (N := 4) ?hd (cs := #[.slice A1 l1.length c1]) (t := 27) ?hr ?_; (case hd => rfl); (case hg => rfl); (case hr => first | (go_simp; done) | (go_simp; rfl)); intro gv hg w2 hbox hb; have LV := Aside0.mk (show gn < gv by rw [hg]; exact blk_lt BN.out); have BV := Aside0.mk hbox; have m0_ := Aside0.mk (blk_below BN.out hb); have m1_ := Aside0.mk (below_step HB.out hb); clear BN HB; have BN := m0_; have HB := m1_; clear m0_ m1_; have hxn : w2.cell? ⟨gn, 0, none⟩ = some (.int .i64 a0) := (blk_cell BN.out 0).trans rfl; have hxv : w2.cell? ⟨gv, 0, none⟩ = some (.slice A1 l1.length c1) := (blk_cell hbox 0).trans rfl; clear hb hbox hg) | ((with_reducible refine gate_dst (N := 5) rfl ?_); refine box_event ?hg (N := 5) ?hd (cs := #[.int .i64 a2]) (t := 3) ?hr ?_; (case hd => rfl); (case hg => rfl); (case hr => first | (go_simp; done) | (go_simp; rfl)); intro gb hg w3 hbox hb; have LB := Aside0.mk (show gv < gb by rw [hg]; exact blk_lt BV.out); have BB := Aside0.mk hbox; have m0_ := Aside0.mk (blk_below BN.out hb); have m1_ := Aside0.mk (blk_below BV.out hb); have m2_ := Aside0.mk (below_step HB.out hb); clear BN BV HB; have BN := m0_; have BV := m1_; have HB := m2_; clear m0_ m1_ m2_; have hxn : w3.cell? ⟨gn, 0, none⟩ = some (.int .i64 a0) := (blk_cell BN.out 0).trans rfl; have hxv : w3.cell? ⟨gv, 0, none⟩ = some (.slice A1 l1.length c1) := (blk_cell BV.out 0).trans rfl; have hxb : w3.cell? ⟨gb, 0, none⟩ = some (.int .i64 a2) := (blk_cell hbox 0).trans rfl; clear hb hbox hg))
    refine (impl_areMoves.calls k a0 A1 c1 l1 true _ (Kd.C_below HR1.out HB.out) HC1.out T1.out).mono ?_
    rintro e w4 ⟨rfl, hd4⟩
    have hb4 : Below w3.heap.size w3 w4 := by first | exact hd4 | exact Drawn0.below hd4
    have m0_ := Aside0.mk (blk_below BN.out hb4)
    have m1_ := Aside0.mk (blk_below BV.out hb4)
    have m2_ := Aside0.mk (blk_below BB.out hb4)
    have m3_ := Aside0.mk (below_step HB.out hb4)
    clear BN BV BB HB
    have BN := m0_
    have BV := m1_
    have BB := m2_
    have HB := m3_
    clear m0_ m1_ m2_ m3_
    clear hb4 hd4 hxn hxv hxb
    have hxn : w4.cell? ⟨gn, 0, none⟩ = some (.int .i64 a0) := (blk_cell BN.out 0).trans rfl
    have hxb : w4.cell? ⟨gb, 0, none⟩ = some (.int .i64 a2) := (blk_cell BB.out 0).trans rfl
    go_wp2
    go_ret2
    exact ⟨_, rfl, Kd.R_nil _ _ _ _ _, HB.out⟩
  rw [if_neg cg] at H
  have cgb : decide (4 < a0) = false := decide_eq_false cg
  replace H := Option.bind_eq_some_iff.mp H
  obtain ⟨t2, h2, H⟩ := H
  have T2 := Aside0.mk h2
  clear h2
  cases t2
  · simp only [Bool.false_eq_true, if_false, Option.some.injEq, Prod.mk.injEq] at H
    obtain ⟨rfl, rfl⟩ := H
    go_enter Try.func9, Try.ntmps9
    go_wp2_with (first | ((with_reducible refine gate_dst (N := 3) rfl ?_); refine box_event ?hg (N := 3) ?hd (cs := #[.int .i64 a0]) (t := 3) ?hr ?_; (case hd => rfl); (case hg => rfl); (case hr => first | (go_simp; done) | (go_simp; rfl)); intro gn hg w1 hbox hb; have BN := Aside0.mk hbox; have LN := Aside0.mk (show w.heap.size ≤ gn by rw [hg]; exact Nat.le_refl _); have HB := Aside0.mk hb; have hxn : w1.cell? ⟨gn, 0, none⟩ = some (.int .i64 a0) := (blk_cell hbox 0).trans rfl; clear hb hbox hg) | ((with_reducible refine gate_dst (N := 4) rfl ?_); refine box_event ?hg (N := 4) ?hd (cs := #[.slice A1 l1.length c1]) (t := 27) ?hr ?_; (case hd => rfl); (case hg => rfl); (case hr => first | (go_simp; done) | (go_simp; rfl)); intro gv hg w2 hbox hb; have LV := Aside0.mk (show gn < gv by rw [hg]; exact blk_lt BN.out); have BV := Aside0.mk hbox; have m0_ := Aside0.mk (blk_below BN.out hb); have m1_ := Aside0.mk (below_step HB.out hb); clear BN HB; have BN := m0_; have HB := m1_; clear m0_ m1_; have hxn : w2.cell? ⟨gn, 0, none⟩ = some (.int .i64 a0) := (blk_cell BN.out 0).trans rfl; have hxv : w2.cell? ⟨gv, 0, none⟩ = some (.slice A1 l1.length c1) := (blk_cell hbox 0).trans rfl; clear hb hbox hg) | ((with_reducible refine gate_dst (N := 5) rfl ?_); refine box_event ?hg (N := 5) ?hd (cs := #[.int .i64 a2]) (t := 3) ?hr ?_; (case hd => rfl); (case hg => rfl); (case hr => first | (go_simp; done) | (go_simp; rfl)); intro gb hg w3 hbox hb; have LB := Aside0.mk (show gv < gb by rw [hg]; exact blk_lt BV.out); have BB := Aside0.mk hbox; have m0_ := Aside0.mk (blk_below BN.out hb); have m1_ := Aside0.mk (blk_below BV.out hb); have m2_ := Aside0.mk (below_step HB.out hb); clear BN BV HB; have BN := m0_; have BV := m1_; have HB := m2_; clear m0_ m1_ m2_; have hxn : w3.cell? ⟨gn, 0, none⟩ = some (.int .i64 a0) := (blk_cell BN.out 0).trans rfl; have hxv : w3.cell? ⟨gv, 0, none⟩ = some (.slice A1 l1.length c1) := (blk_cell BV.out 0).trans rfl; have hxb : w3.cell? ⟨gb, 0, none⟩ = some (.int .i64 a2) := (blk_cell hbox 0).trans rfl; clear hb hbox hg))
    refine (impl_areMoves.calls k a0 A1 c1 l1 true _ (Kd.C_below HR1.out HB.out) HC1.out T1.out).mono ?_
    rintro e w4 ⟨rfl, hd4⟩
    have hb4 : Below w3.heap.size w3 w4 := by first | exact hd4 | exact Drawn0.below hd4
    have m0_ := Aside0.mk (blk_below BN.out hb4)
    have m1_ := Aside0.mk (blk_below BV.out hb4)
    have m2_ := Aside0.mk (blk_below BB.out hb4)
    have m3_ := Aside0.mk (below_step HB.out hb4)
    clear BN BV BB HB
    have BN := m0_
    have BV := m1_
    have BB := m2_
    have HB := m3_
    clear m0_ m1_ m2_ m3_
    clear hb4 hd4 hxn hxv hxb
    have hxn : w4.cell? ⟨gn, 0, none⟩ = some (.int .i64 a0) := (blk_cell BN.out 0).trans rfl
    have hxb : w4.cell? ⟨gb, 0, none⟩ = some (.int .i64 a2) := (blk_cell BB.out 0).trans rfl
    go_wp2_with fail
    refine (impl_within.calls a2 1 4000 false _ T2.out).mono ?_
    rintro e w5 ⟨rfl, hd5⟩
    have hb5 : Below w4.heap.size w4 w5 := by first | exact hd5 | exact Drawn0.below hd5
    have m0_ := Aside0.mk (blk_below BN.out hb5)
    have m1_ := Aside0.mk (blk_below BV.out hb5)
    have m2_ := Aside0.mk (blk_below BB.out hb5)
    have m3_ := Aside0.mk (below_step HB.out hb5)
    clear BN BV BB HB
    have BN := m0_
    have BV := m1_
    have BB := m2_
    have HB := m3_
    clear m0_ m1_ m2_ m3_
    clear hb5 hd5 hxn hxb
    go_wp2
    go_ret2
    exact ⟨_, rfl, Kd.R_nil _ _ _ _ _, HB.out⟩
  simp only [if_true] at H
  replace H := Option.bind_eq_some_iff.mp H
  obtain ⟨s, h3, H⟩ := H
  replace H := Option.bind_eq_some_iff.mp H
  obtain ⟨⟨fd, mo, M2, p2, o2⟩, h4, H⟩ := H
  have T3 := Aside0.mk h3
  have T4 := Aside0.mk h4
  have HH := Aside0.mk H
  have hmm := @run_makeMap Try.prog
  have hsf := @run_store_func Try.prog
  have hmf : ∀ (fn : Fn) (first cap : Array Value) (w : World), (Instr.makeFunc fn first cap).run Try.prog w = .ok (.func fn first cap) w := fun _ _ _ _ => rfl
  clear h3 h4 H
  cases fd
  · have H := HH.out
    simp only [Bool.false_eq_true, if_false, Option.some.injEq, Prod.mk.injEq] at H
    obtain ⟨rfl, rfl⟩ := H
    go_enter Try.func9, Try.ntmps9
    go_wp2_with (first | ((with_reducible refine gate_dst (N := 3) rfl ?_); refine box_event ?hg (N := 3) ?hd (cs := #[.int .i64 a0]) (t := 3) ?hr ?_; (case hd => rfl); (case hg => rfl); (case hr => first | (go_simp; done) | (go_simp; rfl)); intro gn hg w1 hbox hb; have BN := Aside0.mk hbox; have LN := Aside0.mk (show w.heap.size ≤ gn by rw [hg]; exact Nat.le_refl _); have HB := Aside0.mk hb; have hxn : w1.cell? ⟨gn, 0, none⟩ = some (.int .i64 a0) := (blk_cell hbox 0).trans rfl; clear hb hbox hg) | ((with_reducible refine gate_dst (N := 4) rfl ?_); refine box_event ?hg (N := 4) ?hd (cs := #[.slice A1 l1.length c1]) (t := 27) ?hr ?_; (case hd => rfl); (case hg => rfl); (case hr => first | (go_simp; done) | (go_simp; rfl)); intro gv hg w2 hbox hb; have LV := Aside0.mk (show gn < gv by rw [hg]; exact blk_lt BN.out); have BV := Aside0.mk hbox; have m0_ := Aside0.mk (blk_below BN.out hb); have m1_ := Aside0.mk (below_step HB.out hb); clear BN HB; have BN := m0_; have HB := m1_; clear m0_ m1_; have hxn : w2.cell? ⟨gn, 0, none⟩ = some (.int .i64 a0) := (blk_cell BN.out 0).trans rfl; have hxv : w2.cell? ⟨gv, 0, none⟩ = some (.slice A1 l1.length c1) := (blk_cell hbox 0).trans rfl; clear hb hbox hg) | ((with_reducible refine gate_dst (N := 5) rfl ?_); refine box_event ?hg (N := 5) ?hd (cs := #[.int .i64 a2]) (t := 3) ?hr ?_; (case hd => rfl); (case hg => rfl); (case hr => first | (go_simp; done) | (go_simp; rfl)); intro gb hg w3 hbox hb; have LB := Aside0.mk (show gv < gb by rw [hg]; exact blk_lt BV.out); have BB := Aside0.mk hbox; have m0_ := Aside0.mk (blk_below BN.out hb); have m1_ := Aside0.mk (blk_below BV.out hb); have m2_ := Aside0.mk (below_step HB.out hb); clear BN BV HB; have BN := m0_; have BV := m1_; have HB := m2_; clear m0_ m1_ m2_; have hxn : w3.cell? ⟨gn, 0, none⟩ = some (.int .i64 a0) := (blk_cell BN.out 0).trans rfl; have hxv : w3.cell? ⟨gv, 0, none⟩ = some (.slice A1 l1.length c1) := (blk_cell BV.out 0).trans rfl; have hxb : w3.cell? ⟨gb, 0, none⟩ = some (.int .i64 a2) := (blk_cell hbox 0).trans rfl; clear hb hbox hg))
    refine (impl_areMoves.calls k a0 A1 c1 l1 true _ (Kd.C_below HR1.out HB.out) HC1.out T1.out).mono ?_
    rintro e w4 ⟨rfl, hd4⟩
    have hb4 : Below w3.heap.size w3 w4 := by first | exact hd4 | exact Drawn0.below hd4
    have m0_ := Aside0.mk (blk_below BN.out hb4)
    have m1_ := Aside0.mk (blk_below BV.out hb4)
    have m2_ := Aside0.mk (blk_below BB.out hb4)
    have m3_ := Aside0.mk (below_step HB.out hb4)
    clear BN BV BB HB
    have BN := m0_
    have BV := m1_
    have BB := m2_
    have HB := m3_
    clear m0_ m1_ m2_ m3_
    clear hb4 hd4 hxn hxv hxb
    have hxn : w4.cell? ⟨gn, 0, none⟩ = some (.int .i64 a0) := (blk_cell BN.out 0).trans rfl
    have hxb : w4.cell? ⟨gb, 0, none⟩ = some (.int .i64 a2) := (blk_cell BB.out 0).trans rfl
    go_wp2_with fail
    refine (impl_within.calls a2 1 4000 true _ T2.out).mono ?_
    rintro e w5 ⟨rfl, hd5⟩
    have hb5 : Below w4.heap.size w4 w5 := by first | exact hd5 | exact Drawn0.below hd5
    have m0_ := Aside0.mk (blk_below BN.out hb5)
    have m1_ := Aside0.mk (blk_below BV.out hb5)
    have m2_ := Aside0.mk (blk_below BB.out hb5)
    have m3_ := Aside0.mk (below_step HB.out hb5)
    clear BN BV BB HB
    have BN := m0_
    have BV := m1_
    have BB := m2_
    have HB := m3_
    clear m0_ m1_ m2_ m3_
    clear hb5 hd5 hxn hxb
    have LW := Aside0.mk HB.out.size
    go_wp2_with (first | ((with_reducible refine gate_dst (N := 27) rfl ?_); refine Kd.R_lit (Kd.int .i64) (w0 := w) w.heap.size 3 ?hg (N := 27) ?hd (xs := ([] : List Int)) (inner := []) (ok := fun k_ => k_ ≠ gn ∧ k_ ≠ gv ∧ k_ ≠ gb) (okp := fun _ => False) ?hr ?hp (fun _ hk => hk.elim) ⟨Nat.ne_of_gt (blk_lt BN.out), Nat.ne_of_gt (blk_lt BV.out), Nat.ne_of_gt (blk_lt BB.out)⟩ HB.out HB.out.size (by simp) ?_; (case hd => rfl); (case hg => rfl); (case hr => first | (go_simp; done) | (go_simp; rfl)); (case hp => exact (Reps.none _ _)); intro vr w6 ho hb hg hnew; obtain ⟨Ar, cr, er⟩ := Kd.R_slice ho; rw [List.length_nil] at er; subst er; have HO := Aside0.mk (show Kd.R (Kd.int .i64) 3 (w6.alloc (.map #[] 0)) w.heap.size (fun k_ => (k_ ≠ gn ∧ k_ ≠ gv ∧ k_ ≠ gb) ∧ k_ < w6.heap.size) (.slice Ar 0 cr) [] from Kd.R_alloc (Kd.R_mono (Kd.R_bound ho) (fun k_ hk => by first | exact ⟨hk.1, hk.2.2.1⟩ | (and_intros <;> first | exact hk.1 | exact hk.2 | exact hk.1.1 | exact hk.1.2 | exact hk.2.1 | exact hk.2.2 | exact hk.1.1.1 | exact hk.1.1.2 | exact hk.1.2.1 | exact hk.1.2.2 | exact hk.2.1.1 | exact hk.2.1.2 | exact hk.2.2.1 | exact hk.2.2.2 | trivial))) _); have HM := Aside0.mk (MSet.made w6 Try.prog 3 4); have GQ := Aside0.mk (show gb < w6.heap.size from Nat.lt_of_lt_of_le (blk_lt BB.out) hg.size); have GW := Aside0.mk hb.size; have n0_ := Aside0.mk (blk_alloc (blk_grown BN.out hg (fun e_ => by cases e_)) (.map #[] 0)); have n1_ := Aside0.mk (blk_alloc (blk_grown BV.out hg (fun e_ => by cases e_)) (.map #[] 0)); have n2_ := Aside0.mk (blk_alloc (blk_grown BB.out hg (fun e_ => by cases e_)) (.map #[] 0)); have n3_ := Aside0.mk (below_alloc hb (.map #[] 0)); clear BN BV BB HB ho hb hg hnew; have BN := n0_; have BV := n1_; have BB := n2_; have HB := n3_; clear n0_ n1_ n2_ n3_) | ((with_reducible refine wpList_insert rfl (.tmp 28) (.const (.int .i64 0)) (.const (.bool true)) rfl impl_FirstPath.mt impl_FirstPath.mk_ impl_FirstPath.me rfl HM.out (by unfold maxLen; decide) 0 (by decide) rfl rfl ?_); intro w7 hm7 hg7; have n4_ := Aside0.mk (show MSet Try.prog 3 4 w7 w6.heap.size [0] from hm7); have n5_ := Aside0.mk (Kd.R_grown HO.out hg7 (fun k_ hk e_ => by injection e_ with e_; rw [e_] at hk; exact Nat.lt_irrefl _ hk.2)); have n0_ := Aside0.mk (blk_grown BN.out hg7 (fun e_ => by injection e_ with e_; have h1_ := GQ.out; have h2_ := LV.out; have h3_ := LB.out; omega)); have n1_ := Aside0.mk (blk_grown BV.out hg7 (fun e_ => by injection e_ with e_; have h1_ := GQ.out; have h3_ := LB.out; omega)); have n2_ := Aside0.mk (blk_grown BB.out hg7 (fun e_ => by injection e_ with e_; have h1_ := GQ.out; omega)); have n3_ := Aside0.mk (HB.out.grown hg7 HB.out.size (fun j hj => by cases hj; exact GW.out)); clear BN BV BB HB HM HO hm7 hg7; have BN := n0_; have BV := n1_; have BB := n2_; have HB := n3_; have HM := n4_; have HO := n5_; clear n0_ n1_ n2_ n3_ n4_ n5_) | ((with_reducible refine gate_dst (N := 8) rfl ?_); refine box_event ?hg (N := 8) ?hd (cs := #[.slice none 0 0]) (t := 24) ?hr ?_; (case hd => rfl); (case hg => rfl); (case hr => first | (go_simp; done) | (go_simp; rfl)); intro go hg w8 hbox hb; have LO := Aside0.mk (show w6.heap.size < go by rw [hg]; exact HM.out.lt); have BO := Aside0.mk hbox; have m0_ := Aside0.mk (blk_below BN.out hb); have m1_ := Aside0.mk (blk_below BV.out hb); have m2_ := Aside0.mk (blk_below BB.out hb); have m3_ := Aside0.mk (below_step HB.out hb); have m4_ := Aside0.mk (HM.out.below hb); have m5_ := Aside0.mk (Kd.R_below HO.out hb); clear BN BV BB HB HM HO; have BN := m0_; have BV := m1_; have BB := m2_; have HB := m3_; have HM := m4_; have HO := m5_; clear m0_ m1_ m2_ m3_ m4_ m5_; clear hb hbox hg) | ((with_reducible refine gate_dst (N := 9) rfl ?_); refine box_event ?hg (N := 9) ?hd (cs := #[.map none]) (t := 73) ?hr ?_; (case hd => rfl); (case hg => rfl); (case hr => first | (go_simp; done) | (go_simp; rfl)); intro gm hg w9 hbox hb; have LM := Aside0.mk (show go < gm by rw [hg]; exact blk_lt BO.out); have BM := Aside0.mk hbox; have m0_ := Aside0.mk (blk_below BN.out hb); have m1_ := Aside0.mk (blk_below BV.out hb); have m2_ := Aside0.mk (blk_below BB.out hb); have m3_ := Aside0.mk (below_step HB.out hb); have m4_ := Aside0.mk (HM.out.below hb); have m5_ := Aside0.mk (Kd.R_below HO.out hb); have m6_ := Aside0.mk (blk_below BO.out hb); clear BN BV BB HB HM HO BO; have BN := m0_; have BV := m1_; have BB := m2_; have HB := m3_; have HM := m4_; have HO := m5_; have BO := m6_; clear m0_ m1_ m2_ m3_ m4_ m5_ m6_; clear hb hbox hg) | ((with_reducible refine gate_dst (N := 10) rfl ?_); refine box_event ?hg (N := 10) ?hd (cs := #[.int .i64 0]) (t := 3) ?hr ?_; (case hd => rfl); (case hg => rfl); (case hr => first | (go_simp; done) | (go_simp; rfl)); intro gp hg w10 hbox hb; have LP := Aside0.mk (show gm < gp by rw [hg]; exact blk_lt BM.out); have BP := Aside0.mk hbox; have m0_ := Aside0.mk (blk_below BN.out hb); have m1_ := Aside0.mk (blk_below BV.out hb); have m2_ := Aside0.mk (blk_below BB.out hb); have m3_ := Aside0.mk (below_step HB.out hb); have m4_ := Aside0.mk (HM.out.below hb); have m5_ := Aside0.mk (Kd.R_below HO.out hb); have m6_ := Aside0.mk (blk_below BO.out hb); have m7_ := Aside0.mk (blk_below BM.out hb); clear BN BV BB HB HM HO BO BM; have BN := m0_; have BV := m1_; have BB := m2_; have HB := m3_; have HM := m4_; have HO := m5_; have BO := m6_; have BM := m7_; clear m0_ m1_ m2_ m3_ m4_ m5_ m6_ m7_; have hco : w10.cell? ⟨go, 0, none⟩ = some (.slice none 0 0) := (blk_cell BO.out 0).trans rfl; have hcm : w10.cell? ⟨gm, 0, none⟩ = some (.map none) := (blk_cell BM.out 0).trans rfl; have hcp : w10.cell? ⟨gp, 0, none⟩ = some (.int .i64 0) := (blk_cell BP.out 0).trans rfl; have hfo := blk_frozen BO.out 0; have hfm := blk_frozen BM.out 0; have hfp := blk_frozen BP.out 0; have nq1 : go ≠ gm := Nat.ne_of_lt LM.out; have nq2 : gm ≠ go := Ne.symm nq1; have nq3 : gm ≠ gp := Nat.ne_of_lt LP.out; have nq4 : gp ≠ gm := Ne.symm nq3; have nq5 : go ≠ gp := Nat.ne_of_lt (Nat.lt_trans LM.out LP.out); have nq6 : gp ≠ go := Ne.symm nq5; clear hb hbox hg) | ((with_reducible refine gate_dst (N := 11) rfl ?_); refine box_event ?hg (N := 11) ?hd (cs := #[.nilFunc]) (t := 74) ?hr ?_; (case hd => rfl); (case hg => rfl); (case hr => first | (go_simp; done) | (go_simp; rfl)); intro ge hg w11 hbox hb; have LEb := Aside0.mk (show (((w10.setCell ⟨go, 0, none⟩ (.slice Ar 0 cr)).setCell ⟨gm, 0, none⟩ (.map (some w6.heap.size))).setCell ⟨gp, 0, none⟩ (.int .i64 1)).heap.size ≤ ge by rw [hg]; exact Nat.le_refl _); have BE := Aside0.mk hbox; have HE := Aside0.mk hb; have hce : w11.cell? ⟨ge, 0, none⟩ = some .nilFunc := (blk_cell hbox 0).trans rfl; have hfe := blk_frozen hbox 0; clear hb hbox hg))
    have hdi : Bl.Di (⟨w6.heap.size, gm, gn, gv, gp, gb, go, ge⟩ : Bl) w.heap.size := by
      have h0 := LN.out
      have h1 := LV.out
      have h2 := LB.out
      have h3 := GQ.out
      have h4 := GW.out
      have h5 := LO.out
      have h6 := LM.out
      have h7 := LP.out
      have h8 := blk_lt BP.out
      have h9 := LEb.out
      simp only [World.setCell, Array.size_modify] at h9
      refine ⟨⟨?_, ?_, ?_, ?_, ?_, ?_⟩, ⟨?_, ?_, ?_, ?_, ?_⟩, ?_, ?_, ?_⟩ <;> (dsimp only; omega)
    have hne : gn ≠ gm ∧ gv ≠ gm ∧ gb ≠ gm := by
      have h1 := LV.out
      have h2 := LB.out
      have h3 := GQ.out
      have h5 := LO.out
      have h6 := LM.out
      omega
    have hOk : ∀ k_, ((k_ ≠ gn ∧ k_ ≠ gv ∧ k_ ≠ gb) ∧ k_ < w6.heap.size) → Bl.Ok (⟨w6.heap.size, gm, gn, gv, gp, gb, go, ge⟩ : Bl) k_ := fun k_ hk => by
      have h5 := LO.out
      have h6 := LM.out
      have h7 := LP.out
      have h8 := blk_lt BP.out
      have h9 := LEb.out
      simp only [World.setCell, Array.size_modify] at h9
      refine ⟨?_, ?_, hk.1.1, hk.1.2.1, ?_, hk.1.2.2, ?_, ?_⟩ <;> (have := hk.2; dsimp only; omega)
    have HS := Aside0.mk (show St Try.prog 3 4 (w11.setCell ⟨ge, 0, none⟩ (.func (.func 49) #[] #[.pointer (some ⟨gm, 0, none⟩), .pointer (some ⟨gn, 0, none⟩), .pointer (some ⟨gv, 0, none⟩), .pointer (some ⟨gp, 0, none⟩), .pointer (some ⟨gb, 0, none⟩), .pointer (some ⟨go, 0, none⟩), .pointer (some ⟨ge, 0, none⟩)])) w.heap.size (⟨w6.heap.size, gm, gn, gv, gp, gb, go, ge⟩ : Bl) (impl_FirstPath.cs a0 a2 A1 l1.length c1 (⟨w6.heap.size, gm, gn, gv, gp, gb, go, ge⟩ : Bl)) [0] 1 [] (.slice Ar 0 cr) from St.init (g := (⟨w6.heap.size, gm, gn, gv, gp, gb, go, ge⟩ : Bl)) (c := impl_FirstPath.cs a0 a2 A1 l1.length c1 (⟨w6.heap.size, gm, gn, gv, gp, gb, go, ge⟩ : Bl)) (put := 1) BN.out BV.out BB.out BO.out BM.out BP.out HM.out HO.out hOk hdi hne HE.out BE.out LEb.out)
    have HB2 := Aside0.mk (show Below w.heap.size w (w11.setCell ⟨ge, 0, none⟩ (.func (.func 49) #[] #[.pointer (some ⟨gm, 0, none⟩), .pointer (some ⟨gn, 0, none⟩), .pointer (some ⟨gv, 0, none⟩), .pointer (some ⟨gp, 0, none⟩), .pointer (some ⟨gb, 0, none⟩), .pointer (some ⟨go, 0, none⟩), .pointer (some ⟨ge, 0, none⟩)])) from below_set (below_step (below_set (below_set (below_set HB.out hdi.ge.2.2) (by have h1 := HB.out.size; have h4 := GW.out; have h5 := LO.out; have h6 := LM.out; omega)) hdi.ge.2.1) HE.out) (by have h4 := GW.out; have h5 := LO.out; have h6 := LM.out; have h7 := LP.out; have h8 := blk_lt BP.out; have h9 := LEb.out; simp only [World.setCell, Array.size_modify] at h9; omega))
    clear HB HE BN BV BB BO BM BP HM HO hOk hdi hne LEb BE LN LV LB GQ GW LO LM LP LW hco hcm hcp hfo hfm hfp hce hfe nq1 nq2 nq3 nq4 nq5 nq6 hmm hmf hsf
    have HB := HB2
    clear HB2
    have n0_ := Aside0.mk HS.out.drew
    have n1_ := Aside0.mk (below_drew1 HB.out)
    clear HS HB
    have HS := n0_
    have HB := n1_
    clear n0_ n1_
    refine start_ (n := 9) (S := fun w' => w'.cell? ⟨ge, 0, none⟩ = some (.func (.func 49) #[] #[.pointer (some ⟨gm, 0, none⟩), .pointer (some ⟨gn, 0, none⟩), .pointer (some ⟨gv, 0, none⟩), .pointer (some ⟨gp, 0, none⟩), .pointer (some ⟨gb, 0, none⟩), .pointer (some ⟨go, 0, none⟩), .pointer (some ⟨ge, 0, none⟩)]) ∧ w'.cell? ⟨gn, 0, none⟩ = some (.int .i64 a0)) (ds := []) #[false, false, false, false, false, false, false, false, false] (by kernel_rfl) rfl rfl ⟨(blk_cell HS.out.env.e 0).trans rfl, (blk_cell HS.out.env.n 0).trans rfl⟩ (fun hHeld => ?_)
    generalize World.drew _ = w12 at HS HB hHeld ⊢
    refine take_ (i := 0) (N := some 32) (v := ?_) (a' := ?_) #[true, false, false, false, false, false, false, false, false] rfl rfl (by kernel_rfl) (fun _ _ _ h => h) (Or.inl ⟨by rfl, ?_⟩) hHeld ?_ ?_
    rotate_left
    · rintro w' ⟨s0, s1⟩
      go_simp
      with_reducible rfl
    rotate_left
    · simp only [Act.put, List.setIfInBounds_toArray, List.set_cons_zero, List.set_cons_succ, i64_w, i32_w]
      rfl
    refine take_ (i := 1) (N := some 33) (v := ?_) (a' := ?_) #[true, true, false, false, false, false, false, false, false] rfl rfl (by kernel_rfl) (fun _ _ _ h => h) (Or.inl ⟨by rfl, ?_⟩) hHeld ?_ ?_
    rotate_left
    · rintro w' ⟨s0, s1⟩
      go_simp
      with_reducible rfl
    rotate_left
    · simp only [Act.put, List.setIfInBounds_toArray, List.set_cons_zero, List.set_cons_succ, i64_w, i32_w]
      rfl
    refine one_ (i := 2) (N := some 34) #[true, true, true, false, false, false, false, false, false] rfl rfl (by kernel_rfl) (by decide) (fun K hK => ?_)
    refine goes_ Try.func53 (by kernel_rfl) rfl #[.int .i64 a0] (by rfl) rfl rfl (by simp only [List.map_toArray, List.map_cons, List.map_nil]; rfl) ?_
    with_reducible refine (impl_identity.calls k a0 s _ T3.out).mono ?_
    rintro e w13 ⟨v13, rfl, ho13, hb13⟩
    refine ⟨_, rfl, ?_⟩
    obtain ⟨A13, c13, rfl⟩ := Kd.R_slice ho13
    have HN := Aside0.mk (nx_new HS.out ho13 (Nat.le_refl _))
    have n0_ := Aside0.mk (HS.out.below hb13)
    have n1_ := Aside0.mk (HB.out.trans (hb13.mono HB.out.size))
    clear HS HB ho13 hb13
    have HS := n0_
    have HB := n1_
    clear n0_ n1_
    refine hK.out _ _ ⟨(blk_cell HS.out.env.e 0).trans rfl, (blk_cell HS.out.env.n 0).trans rfl⟩ (fun hHeld => ?_)
    clear hK K
    refine norm_ (a' := ?_) ?_ ?_
    rotate_left
    · show Act.put _ (some 34) _ = _
      simp only [Act.put, List.setIfInBounds_toArray, List.set_cons_zero, List.set_cons_succ, i64_w, i32_w]
      rfl
    refine one_ (i := 3) (N := some 35) #[true, true, true, true, false, false, false, false, false] rfl rfl (by kernel_rfl) (by decide) (fun K hK => ?_)
    refine goesV_ Try.func49 (by kernel_rfl) rfl #[.slice A13 s.length c13] (by rfl) rfl rfl (by rfl) (by simp only [List.map_toArray, List.map_cons, List.map_nil]; rfl) ?_
    simp only [List.append_toArray, List.cons_append, List.nil_append]
    refine (impl_FirstPath.ext k w (⟨w6.heap.size, gm, gn, gv, gp, gb, go, ge⟩ : Bl) _ c1 l1 a0 a2 A13 c13 s [0] 1 [] (.slice Ar 0 cr) (false, mo, M2, p2, o2) _ HR1.out HC1.out (nx_hl HN.out) (Kd.R_reads' HN.out).2.1 HS.out HB.out T4.out).mono ?_
    rintro e w14 ⟨v14, rfl, hs14, _, _, hb14⟩
    refine ⟨_, rfl, ?_⟩
    clear HS HB HN
    have HS := Aside0.mk hs14
    have HB := Aside0.mk hb14
    clear hs14 hb14
    refine hK.out _ _ ⟨(blk_cell HS.out.env.e 0).trans rfl, (blk_cell HS.out.env.n 0).trans rfl⟩ (fun hHeld => ?_)
    clear hK K
    refine norm_ (a' := ?_) ?_ ?_
    rotate_left
    · show Act.put _ (some 35) _ = _
      simp only [Act.put, List.setIfInBounds_toArray, List.set_cons_zero, List.set_cons_succ, i64_w, i32_w]
      rfl
    refine pure_ (i := 4) (N := some 31) (v := ?_) (a' := ?_) #[true, true, true, true, true, false, false, false, false] rfl rfl (by kernel_rfl) (fun _ _ _ h => h) (Or.inl ⟨by rfl, ?_⟩) ?_ ?_
    rotate_left
    · intro w'
      go_simp
      with_reducible rfl
    rotate_left
    · simp only [Act.put, List.setIfInBounds_toArray, List.set_cons_zero, List.set_cons_succ, i64_w, i32_w]
      rfl
    refine pure_ (i := 5) (N := some 36) (v := ?_) (a' := ?_) #[true, true, true, true, true, true, false, false, false] rfl rfl (by kernel_rfl) (fun _ _ _ h => h) (Or.inl ⟨by rfl, ?_⟩) ?_ ?_
    rotate_left
    · intro w'
      go_simp
      with_reducible rfl
    rotate_left
    · simp only [Act.put, List.setIfInBounds_toArray, List.set_cons_zero, List.set_cons_succ, i64_w, i32_w]
      rfl
    refine pure_ (i := 6) (N := some 37) (v := ?_) (a' := ?_) #[true, true, true, true, true, true, true, false, false] rfl rfl (by kernel_rfl) (fun _ _ _ h => h) (Or.inl ⟨by rfl, ?_⟩) ?_ ?_
    rotate_left
    · intro w'
      go_simp
      with_reducible rfl
    rotate_left
    · simp only [Act.put, List.setIfInBounds_toArray, List.set_cons_zero, List.set_cons_succ, i64_w, i32_w]
      rfl
    refine pure_ (i := 7) (N := some 12) (v := ?_) (a' := ?_) #[true, true, true, true, true, true, true, true, false] rfl rfl (by kernel_rfl) (fun _ _ _ h => h) (Or.inl ⟨by rfl, ?_⟩) ?_ ?_
    rotate_left
    · intro w'
      go_simp
      with_reducible rfl
    rotate_left
    · simp only [Act.put, List.setIfInBounds_toArray, List.set_cons_zero, List.set_cons_succ, i64_w, i32_w]
      rfl
    refine pure_ (i := 8) (N := some 13) (v := ?_) (a' := ?_) #[true, true, true, true, true, true, true, true, true] rfl rfl (by kernel_rfl) (fun _ _ _ h => h) (Or.inl ⟨by rfl, ?_⟩) ?_ ?_
    rotate_left
    · intro w'
      go_simp
      with_reducible rfl
    rotate_left
    · simp only [Act.put, List.setIfInBounds_toArray, List.set_cons_zero, List.set_cons_succ, i64_w, i32_w]
      rfl
    refine done_ (by kernel_rfl) ?_

    go_wp2
    go_ret2
    exact ⟨_, rfl, Kd.R_nil _ _ _ _ _, HB.out⟩
  · have H := HH.out
    simp only [if_true, Option.some.injEq, Prod.mk.injEq] at H
    obtain ⟨rfl, rfl⟩ := H
    go_enter Try.func9, Try.ntmps9
    go_wp2_with (first | ((with_reducible refine gate_dst (N := 3) rfl ?_); refine box_event ?hg (N := 3) ?hd (cs := #[.int .i64 a0]) (t := 3) ?hr ?_; (case hd => rfl); (case hg => rfl); (case hr => first | (go_simp; done) | (go_simp; rfl)); intro gn hg w1 hbox hb; have BN := Aside0.mk hbox; have LN := Aside0.mk (show w.heap.size ≤ gn by rw [hg]; exact Nat.le_refl _); have HB := Aside0.mk hb; have hxn : w1.cell? ⟨gn, 0, none⟩ = some (.int .i64 a0) := (blk_cell hbox 0).trans rfl; clear hb hbox hg) | ((with_reducible refine gate_dst (N := 4) rfl ?_); refine box_event ?hg (N := 4) ?hd (cs := #[.slice A1 l1.length c1]) (t := 27) ?hr ?_; (case hd => rfl); (case hg => rfl); (case hr => first | (go_simp; done) | (go_simp; rfl)); intro gv hg w2 hbox hb; have LV := Aside0.mk (show gn < gv by rw [hg]; exact blk_lt BN.out); have BV := Aside0.mk hbox; have m0_ := Aside0.mk (blk_below BN.out hb); have m1_ := Aside0.mk (below_step HB.out hb); clear BN HB; have BN := m0_; have HB := m1_; clear m0_ m1_; have hxn : w2.cell? ⟨gn, 0, none⟩ = some (.int .i64 a0) := (blk_cell BN.out 0).trans rfl; have hxv : w2.cell? ⟨gv, 0, none⟩ = some (.slice A1 l1.length c1) := (blk_cell hbox 0).trans rfl; clear hb hbox hg) | ((with_reducible refine gate_dst (N := 5) rfl ?_); refine box_event ?hg (N := 5) ?hd (cs := #[.int .i64 a2]) (t := 3) ?hr ?_; (case hd => rfl); (case hg => rfl); (case hr => first | (go_simp; done) | (go_simp; rfl)); intro gb hg w3 hbox hb; have LB := Aside0.mk (show gv < gb by rw [hg]; exact blk_lt BV.out); have BB := Aside0.mk hbox; have m0_ := Aside0.mk (blk_below BN.out hb); have m1_ := Aside0.mk (blk_below BV.out hb); have m2_ := Aside0.mk (below_step HB.out hb); clear BN BV HB; have BN := m0_; have BV := m1_; have HB := m2_; clear m0_ m1_ m2_; have hxn : w3.cell? ⟨gn, 0, none⟩ = some (.int .i64 a0) := (blk_cell BN.out 0).trans rfl; have hxv : w3.cell? ⟨gv, 0, none⟩ = some (.slice A1 l1.length c1) := (blk_cell BV.out 0).trans rfl; have hxb : w3.cell? ⟨gb, 0, none⟩ = some (.int .i64 a2) := (blk_cell hbox 0).trans rfl; clear hb hbox hg))
    refine (impl_areMoves.calls k a0 A1 c1 l1 true _ (Kd.C_below HR1.out HB.out) HC1.out T1.out).mono ?_
    rintro e w4 ⟨rfl, hd4⟩
    have hb4 : Below w3.heap.size w3 w4 := by first | exact hd4 | exact Drawn0.below hd4
    have m0_ := Aside0.mk (blk_below BN.out hb4)
    have m1_ := Aside0.mk (blk_below BV.out hb4)
    have m2_ := Aside0.mk (blk_below BB.out hb4)
    have m3_ := Aside0.mk (below_step HB.out hb4)
    clear BN BV BB HB
    have BN := m0_
    have BV := m1_
    have BB := m2_
    have HB := m3_
    clear m0_ m1_ m2_ m3_
    clear hb4 hd4 hxn hxv hxb
    have hxn : w4.cell? ⟨gn, 0, none⟩ = some (.int .i64 a0) := (blk_cell BN.out 0).trans rfl
    have hxb : w4.cell? ⟨gb, 0, none⟩ = some (.int .i64 a2) := (blk_cell BB.out 0).trans rfl
    go_wp2_with fail
    refine (impl_within.calls a2 1 4000 true _ T2.out).mono ?_
    rintro e w5 ⟨rfl, hd5⟩
    have hb5 : Below w4.heap.size w4 w5 := by first | exact hd5 | exact Drawn0.below hd5
    have m0_ := Aside0.mk (blk_below BN.out hb5)
    have m1_ := Aside0.mk (blk_below BV.out hb5)
    have m2_ := Aside0.mk (blk_below BB.out hb5)
    have m3_ := Aside0.mk (below_step HB.out hb5)
    clear BN BV BB HB
    have BN := m0_
    have BV := m1_
    have BB := m2_
    have HB := m3_
    clear m0_ m1_ m2_ m3_
    clear hb5 hd5 hxn hxb
    have LW := Aside0.mk HB.out.size
    go_wp2_with (first | ((with_reducible refine gate_dst (N := 27) rfl ?_); refine Kd.R_lit (Kd.int .i64) (w0 := w) w.heap.size 3 ?hg (N := 27) ?hd (xs := ([] : List Int)) (inner := []) (ok := fun k_ => k_ ≠ gn ∧ k_ ≠ gv ∧ k_ ≠ gb) (okp := fun _ => False) ?hr ?hp (fun _ hk => hk.elim) ⟨Nat.ne_of_gt (blk_lt BN.out), Nat.ne_of_gt (blk_lt BV.out), Nat.ne_of_gt (blk_lt BB.out)⟩ HB.out HB.out.size (by simp) ?_; (case hd => rfl); (case hg => rfl); (case hr => first | (go_simp; done) | (go_simp; rfl)); (case hp => exact (Reps.none _ _)); intro vr w6 ho hb hg hnew; obtain ⟨Ar, cr, er⟩ := Kd.R_slice ho; rw [List.length_nil] at er; subst er; have HO := Aside0.mk (show Kd.R (Kd.int .i64) 3 (w6.alloc (.map #[] 0)) w.heap.size (fun k_ => (k_ ≠ gn ∧ k_ ≠ gv ∧ k_ ≠ gb) ∧ k_ < w6.heap.size) (.slice Ar 0 cr) [] from Kd.R_alloc (Kd.R_mono (Kd.R_bound ho) (fun k_ hk => by first | exact ⟨hk.1, hk.2.2.1⟩ | (and_intros <;> first | exact hk.1 | exact hk.2 | exact hk.1.1 | exact hk.1.2 | exact hk.2.1 | exact hk.2.2 | exact hk.1.1.1 | exact hk.1.1.2 | exact hk.1.2.1 | exact hk.1.2.2 | exact hk.2.1.1 | exact hk.2.1.2 | exact hk.2.2.1 | exact hk.2.2.2 | trivial))) _); have HM := Aside0.mk (MSet.made w6 Try.prog 3 4); have GQ := Aside0.mk (show gb < w6.heap.size from Nat.lt_of_lt_of_le (blk_lt BB.out) hg.size); have GW := Aside0.mk hb.size; have n0_ := Aside0.mk (blk_alloc (blk_grown BN.out hg (fun e_ => by cases e_)) (.map #[] 0)); have n1_ := Aside0.mk (blk_alloc (blk_grown BV.out hg (fun e_ => by cases e_)) (.map #[] 0)); have n2_ := Aside0.mk (blk_alloc (blk_grown BB.out hg (fun e_ => by cases e_)) (.map #[] 0)); have n3_ := Aside0.mk (below_alloc hb (.map #[] 0)); clear BN BV BB HB ho hb hg hnew; have BN := n0_; have BV := n1_; have BB := n2_; have HB := n3_; clear n0_ n1_ n2_ n3_) | ((with_reducible refine wpList_insert rfl (.tmp 28) (.const (.int .i64 0)) (.const (.bool true)) rfl impl_FirstPath.mt impl_FirstPath.mk_ impl_FirstPath.me rfl HM.out (by unfold maxLen; decide) 0 (by decide) rfl rfl ?_); intro w7 hm7 hg7; have n4_ := Aside0.mk (show MSet Try.prog 3 4 w7 w6.heap.size [0] from hm7); have n5_ := Aside0.mk (Kd.R_grown HO.out hg7 (fun k_ hk e_ => by injection e_ with e_; rw [e_] at hk; exact Nat.lt_irrefl _ hk.2)); have n0_ := Aside0.mk (blk_grown BN.out hg7 (fun e_ => by injection e_ with e_; have h1_ := GQ.out; have h2_ := LV.out; have h3_ := LB.out; omega)); have n1_ := Aside0.mk (blk_grown BV.out hg7 (fun e_ => by injection e_ with e_; have h1_ := GQ.out; have h3_ := LB.out; omega)); have n2_ := Aside0.mk (blk_grown BB.out hg7 (fun e_ => by injection e_ with e_; have h1_ := GQ.out; omega)); have n3_ := Aside0.mk (HB.out.grown hg7 HB.out.size (fun j hj => by cases hj; exact GW.out)); clear BN BV BB HB HM HO hm7 hg7; have BN := n0_; have BV := n1_; have BB := n2_; have HB := n3_; have HM := n4_; have HO := n5_; clear n0_ n1_ n2_ n3_ n4_ n5_) | ((with_reducible refine gate_dst (N := 8) rfl ?_); refine box_event ?hg (N := 8) ?hd (cs := #[.slice none 0 0]) (t := 24) ?hr ?_; (case hd => rfl); (case hg => rfl); (case hr => first | (go_simp; done) | (go_simp; rfl)); intro go hg w8 hbox hb; have LO := Aside0.mk (show w6.heap.size < go by rw [hg]; exact HM.out.lt); have BO := Aside0.mk hbox; have m0_ := Aside0.mk (blk_below BN.out hb); have m1_ := Aside0.mk (blk_below BV.out hb); have m2_ := Aside0.mk (blk_below BB.out hb); have m3_ := Aside0.mk (below_step HB.out hb); have m4_ := Aside0.mk (HM.out.below hb); have m5_ := Aside0.mk (Kd.R_below HO.out hb); clear BN BV BB HB HM HO; have BN := m0_; have BV := m1_; have BB := m2_; have HB := m3_; have HM := m4_; have HO := m5_; clear m0_ m1_ m2_ m3_ m4_ m5_; clear hb hbox hg) | ((with_reducible refine gate_dst (N := 9) rfl ?_); refine box_event ?hg (N := 9) ?hd (cs := #[.map none]) (t := 73) ?hr ?_; (case hd => rfl); (case hg => rfl); (case hr => first | (go_simp; done) | (go_simp; rfl)); intro gm hg w9 hbox hb; have LM := Aside0.mk (show go < gm by rw [hg]; exact blk_lt BO.out); have BM := Aside0.mk hbox; have m0_ := Aside0.mk (blk_below BN.out hb); have m1_ := Aside0.mk (blk_below BV.out hb); have m2_ := Aside0.mk (blk_below BB.out hb); have m3_ := Aside0.mk (below_step HB.out hb); have m4_ := Aside0.mk (HM.out.below hb); have m5_ := Aside0.mk (Kd.R_below HO.out hb); have m6_ := Aside0.mk (blk_below BO.out hb); clear BN BV BB HB HM HO BO; have BN := m0_; have BV := m1_; have BB := m2_; have HB := m3_; have HM := m4_; have HO := m5_; have BO := m6_; clear m0_ m1_ m2_ m3_ m4_ m5_ m6_; clear hb hbox hg) | ((with_reducible refine gate_dst (N := 10) rfl ?_); refine box_event ?hg (N := 10) ?hd (cs := #[.int .i64 0]) (t := 3) ?hr ?_; (case hd => rfl); (case hg => rfl); (case hr => first | (go_simp; done) | (go_simp; rfl)); intro gp hg w10 hbox hb; have LP := Aside0.mk (show gm < gp by rw [hg]; exact blk_lt BM.out); have BP := Aside0.mk hbox; have m0_ := Aside0.mk (blk_below BN.out hb); have m1_ := Aside0.mk (blk_below BV.out hb); have m2_ := Aside0.mk (blk_below BB.out hb); have m3_ := Aside0.mk (below_step HB.out hb); have m4_ := Aside0.mk (HM.out.below hb); have m5_ := Aside0.mk (Kd.R_below HO.out hb); have m6_ := Aside0.mk (blk_below BO.out hb); have m7_ := Aside0.mk (blk_below BM.out hb); clear BN BV BB HB HM HO BO BM; have BN := m0_; have BV := m1_; have BB := m2_; have HB := m3_; have HM := m4_; have HO := m5_; have BO := m6_; have BM := m7_; clear m0_ m1_ m2_ m3_ m4_ m5_ m6_ m7_; have hco : w10.cell? ⟨go, 0, none⟩ = some (.slice none 0 0) := (blk_cell BO.out 0).trans rfl; have hcm : w10.cell? ⟨gm, 0, none⟩ = some (.map none) := (blk_cell BM.out 0).trans rfl; have hcp : w10.cell? ⟨gp, 0, none⟩ = some (.int .i64 0) := (blk_cell BP.out 0).trans rfl; have hfo := blk_frozen BO.out 0; have hfm := blk_frozen BM.out 0; have hfp := blk_frozen BP.out 0; have nq1 : go ≠ gm := Nat.ne_of_lt LM.out; have nq2 : gm ≠ go := Ne.symm nq1; have nq3 : gm ≠ gp := Nat.ne_of_lt LP.out; have nq4 : gp ≠ gm := Ne.symm nq3; have nq5 : go ≠ gp := Nat.ne_of_lt (Nat.lt_trans LM.out LP.out); have nq6 : gp ≠ go := Ne.symm nq5; clear hb hbox hg) | ((with_reducible refine gate_dst (N := 11) rfl ?_); refine box_event ?hg (N := 11) ?hd (cs := #[.nilFunc]) (t := 74) ?hr ?_; (case hd => rfl); (case hg => rfl); (case hr => first | (go_simp; done) | (go_simp; rfl)); intro ge hg w11 hbox hb; have LEb := Aside0.mk (show (((w10.setCell ⟨go, 0, none⟩ (.slice Ar 0 cr)).setCell ⟨gm, 0, none⟩ (.map (some w6.heap.size))).setCell ⟨gp, 0, none⟩ (.int .i64 1)).heap.size ≤ ge by rw [hg]; exact Nat.le_refl _); have BE := Aside0.mk hbox; have HE := Aside0.mk hb; have hce : w11.cell? ⟨ge, 0, none⟩ = some .nilFunc := (blk_cell hbox 0).trans rfl; have hfe := blk_frozen hbox 0; clear hb hbox hg))
    have hdi : Bl.Di (⟨w6.heap.size, gm, gn, gv, gp, gb, go, ge⟩ : Bl) w.heap.size := by
      have h0 := LN.out
      have h1 := LV.out
      have h2 := LB.out
      have h3 := GQ.out
      have h4 := GW.out
      have h5 := LO.out
      have h6 := LM.out
      have h7 := LP.out
      have h8 := blk_lt BP.out
      have h9 := LEb.out
      simp only [World.setCell, Array.size_modify] at h9
      refine ⟨⟨?_, ?_, ?_, ?_, ?_, ?_⟩, ⟨?_, ?_, ?_, ?_, ?_⟩, ?_, ?_, ?_⟩ <;> (dsimp only; omega)
    have hne : gn ≠ gm ∧ gv ≠ gm ∧ gb ≠ gm := by
      have h1 := LV.out
      have h2 := LB.out
      have h3 := GQ.out
      have h5 := LO.out
      have h6 := LM.out
      omega
    have hOk : ∀ k_, ((k_ ≠ gn ∧ k_ ≠ gv ∧ k_ ≠ gb) ∧ k_ < w6.heap.size) → Bl.Ok (⟨w6.heap.size, gm, gn, gv, gp, gb, go, ge⟩ : Bl) k_ := fun k_ hk => by
      have h5 := LO.out
      have h6 := LM.out
      have h7 := LP.out
      have h8 := blk_lt BP.out
      have h9 := LEb.out
      simp only [World.setCell, Array.size_modify] at h9
      refine ⟨?_, ?_, hk.1.1, hk.1.2.1, ?_, hk.1.2.2, ?_, ?_⟩ <;> (have := hk.2; dsimp only; omega)
    have HS := Aside0.mk (show St Try.prog 3 4 (w11.setCell ⟨ge, 0, none⟩ (.func (.func 49) #[] #[.pointer (some ⟨gm, 0, none⟩), .pointer (some ⟨gn, 0, none⟩), .pointer (some ⟨gv, 0, none⟩), .pointer (some ⟨gp, 0, none⟩), .pointer (some ⟨gb, 0, none⟩), .pointer (some ⟨go, 0, none⟩), .pointer (some ⟨ge, 0, none⟩)])) w.heap.size (⟨w6.heap.size, gm, gn, gv, gp, gb, go, ge⟩ : Bl) (impl_FirstPath.cs a0 a2 A1 l1.length c1 (⟨w6.heap.size, gm, gn, gv, gp, gb, go, ge⟩ : Bl)) [0] 1 [] (.slice Ar 0 cr) from St.init (g := (⟨w6.heap.size, gm, gn, gv, gp, gb, go, ge⟩ : Bl)) (c := impl_FirstPath.cs a0 a2 A1 l1.length c1 (⟨w6.heap.size, gm, gn, gv, gp, gb, go, ge⟩ : Bl)) (put := 1) BN.out BV.out BB.out BO.out BM.out BP.out HM.out HO.out hOk hdi hne HE.out BE.out LEb.out)
    have HB2 := Aside0.mk (show Below w.heap.size w (w11.setCell ⟨ge, 0, none⟩ (.func (.func 49) #[] #[.pointer (some ⟨gm, 0, none⟩), .pointer (some ⟨gn, 0, none⟩), .pointer (some ⟨gv, 0, none⟩), .pointer (some ⟨gp, 0, none⟩), .pointer (some ⟨gb, 0, none⟩), .pointer (some ⟨go, 0, none⟩), .pointer (some ⟨ge, 0, none⟩)])) from below_set (below_step (below_set (below_set (below_set HB.out hdi.ge.2.2) (by have h1 := HB.out.size; have h4 := GW.out; have h5 := LO.out; have h6 := LM.out; omega)) hdi.ge.2.1) HE.out) (by have h4 := GW.out; have h5 := LO.out; have h6 := LM.out; have h7 := LP.out; have h8 := blk_lt BP.out; have h9 := LEb.out; simp only [World.setCell, Array.size_modify] at h9; omega))
    clear HB HE BN BV BB BO BM BP HM HO hOk hdi hne LEb BE LN LV LB GQ GW LO LM LP LW hco hcm hcp hfo hfm hfp hce hfe nq1 nq2 nq3 nq4 nq5 nq6 hmm hmf hsf
    have HB := HB2
    clear HB2
    have n0_ := Aside0.mk HS.out.drew
    have n1_ := Aside0.mk (below_drew1 HB.out)
    clear HS HB
    have HS := n0_
    have HB := n1_
    clear n0_ n1_
    refine start_ (n := 9) (S := fun w' => w'.cell? ⟨ge, 0, none⟩ = some (.func (.func 49) #[] #[.pointer (some ⟨gm, 0, none⟩), .pointer (some ⟨gn, 0, none⟩), .pointer (some ⟨gv, 0, none⟩), .pointer (some ⟨gp, 0, none⟩), .pointer (some ⟨gb, 0, none⟩), .pointer (some ⟨go, 0, none⟩), .pointer (some ⟨ge, 0, none⟩)]) ∧ w'.cell? ⟨gn, 0, none⟩ = some (.int .i64 a0)) (ds := []) #[false, false, false, false, false, false, false, false, false] (by kernel_rfl) rfl rfl ⟨(blk_cell HS.out.env.e 0).trans rfl, (blk_cell HS.out.env.n 0).trans rfl⟩ (fun hHeld => ?_)
    generalize World.drew _ = w12 at HS HB hHeld ⊢
    refine take_ (i := 0) (N := some 32) (v := ?_) (a' := ?_) #[true, false, false, false, false, false, false, false, false] rfl rfl (by kernel_rfl) (fun _ _ _ h => h) (Or.inl ⟨by rfl, ?_⟩) hHeld ?_ ?_
    rotate_left
    · rintro w' ⟨s0, s1⟩
      go_simp
      with_reducible rfl
    rotate_left
    · simp only [Act.put, List.setIfInBounds_toArray, List.set_cons_zero, List.set_cons_succ, i64_w, i32_w]
      rfl
    refine take_ (i := 1) (N := some 33) (v := ?_) (a' := ?_) #[true, true, false, false, false, false, false, false, false] rfl rfl (by kernel_rfl) (fun _ _ _ h => h) (Or.inl ⟨by rfl, ?_⟩) hHeld ?_ ?_
    rotate_left
    · rintro w' ⟨s0, s1⟩
      go_simp
      with_reducible rfl
    rotate_left
    · simp only [Act.put, List.setIfInBounds_toArray, List.set_cons_zero, List.set_cons_succ, i64_w, i32_w]
      rfl
    refine one_ (i := 2) (N := some 34) #[true, true, true, false, false, false, false, false, false] rfl rfl (by kernel_rfl) (by decide) (fun K hK => ?_)
    refine goes_ Try.func53 (by kernel_rfl) rfl #[.int .i64 a0] (by rfl) rfl rfl (by simp only [List.map_toArray, List.map_cons, List.map_nil]; rfl) ?_
    with_reducible refine (impl_identity.calls k a0 s _ T3.out).mono ?_
    rintro e w13 ⟨v13, rfl, ho13, hb13⟩
    refine ⟨_, rfl, ?_⟩
    obtain ⟨A13, c13, rfl⟩ := Kd.R_slice ho13
    have HN := Aside0.mk (nx_new HS.out ho13 (Nat.le_refl _))
    have n0_ := Aside0.mk (HS.out.below hb13)
    have n1_ := Aside0.mk (HB.out.trans (hb13.mono HB.out.size))
    clear HS HB ho13 hb13
    have HS := n0_
    have HB := n1_
    clear n0_ n1_
    refine hK.out _ _ ⟨(blk_cell HS.out.env.e 0).trans rfl, (blk_cell HS.out.env.n 0).trans rfl⟩ (fun hHeld => ?_)
    clear hK K
    refine norm_ (a' := ?_) ?_ ?_
    rotate_left
    · show Act.put _ (some 34) _ = _
      simp only [Act.put, List.setIfInBounds_toArray, List.set_cons_zero, List.set_cons_succ, i64_w, i32_w]
      rfl
    refine one_ (i := 3) (N := some 35) #[true, true, true, true, false, false, false, false, false] rfl rfl (by kernel_rfl) (by decide) (fun K hK => ?_)
    refine goesV_ Try.func49 (by kernel_rfl) rfl #[.slice A13 s.length c13] (by rfl) rfl rfl (by rfl) (by simp only [List.map_toArray, List.map_cons, List.map_nil]; rfl) ?_
    simp only [List.append_toArray, List.cons_append, List.nil_append]
    refine (impl_FirstPath.ext k w (⟨w6.heap.size, gm, gn, gv, gp, gb, go, ge⟩ : Bl) _ c1 l1 a0 a2 A13 c13 s [0] 1 [] (.slice Ar 0 cr) (true, mo, M2, p2, o2) _ HR1.out HC1.out (nx_hl HN.out) (Kd.R_reads' HN.out).2.1 HS.out HB.out T4.out).mono ?_
    rintro e w14 ⟨v14, rfl, hs14, _, _, hb14⟩
    refine ⟨_, rfl, ?_⟩
    clear HS HB HN
    have HS := Aside0.mk hs14
    have HB := Aside0.mk hb14
    clear hs14 hb14
    refine hK.out _ _ ⟨(blk_cell HS.out.env.e 0).trans rfl, (blk_cell HS.out.env.n 0).trans rfl⟩ (fun hHeld => ?_)
    clear hK K
    refine norm_ (a' := ?_) ?_ ?_
    rotate_left
    · show Act.put _ (some 35) _ = _
      simp only [Act.put, List.setIfInBounds_toArray, List.set_cons_zero, List.set_cons_succ, i64_w, i32_w]
      rfl
    refine pure_ (i := 4) (N := some 31) (v := ?_) (a' := ?_) #[true, true, true, true, true, false, false, false, false] rfl rfl (by kernel_rfl) (fun _ _ _ h => h) (Or.inl ⟨by rfl, ?_⟩) ?_ ?_
    rotate_left
    · intro w'
      go_simp
      with_reducible rfl
    rotate_left
    · simp only [Act.put, List.setIfInBounds_toArray, List.set_cons_zero, List.set_cons_succ, i64_w, i32_w]
      rfl
    refine pure_ (i := 5) (N := some 36) (v := ?_) (a' := ?_) #[true, true, true, true, true, true, false, false, false] rfl rfl (by kernel_rfl) (fun _ _ _ h => h) (Or.inl ⟨by rfl, ?_⟩) ?_ ?_
    rotate_left
    · intro w'
      go_simp
      with_reducible rfl
    rotate_left
    · simp only [Act.put, List.setIfInBounds_toArray, List.set_cons_zero, List.set_cons_succ, i64_w, i32_w]
      rfl
    refine pure_ (i := 6) (N := some 37) (v := ?_) (a' := ?_) #[true, true, true, true, true, true, true, false, false] rfl rfl (by kernel_rfl) (fun _ _ _ h => h) (Or.inl ⟨by rfl, ?_⟩) ?_ ?_
    rotate_left
    · intro w'
      go_simp
      with_reducible rfl
    rotate_left
    · simp only [Act.put, List.setIfInBounds_toArray, List.set_cons_zero, List.set_cons_succ, i64_w, i32_w]
      rfl
    refine pure_ (i := 7) (N := some 12) (v := ?_) (a' := ?_) #[true, true, true, true, true, true, true, true, false] rfl rfl (by kernel_rfl) (fun _ _ _ h => h) (Or.inl ⟨by rfl, ?_⟩) ?_ ?_
    rotate_left
    · intro w'
      go_simp
      with_reducible rfl
    rotate_left
    · simp only [Act.put, List.setIfInBounds_toArray, List.set_cons_zero, List.set_cons_succ, i64_w, i32_w]
      rfl
    refine pure_ (i := 8) (N := some 13) (v := ?_) (a' := ?_) #[true, true, true, true, true, true, true, true, true] rfl rfl (by kernel_rfl) (fun _ _ _ h => h) (Or.inl ⟨by rfl, ?_⟩) ?_ ?_
    rotate_left
    · intro w'
      go_simp
      with_reducible rfl
    rotate_left
    · simp only [Act.put, List.setIfInBounds_toArray, List.set_cons_zero, List.set_cons_succ, i64_w, i32_w]
      rfl
    refine done_ (by kernel_rfl) ?_

    have hxo : w14.cell? ⟨go, 0, none⟩ = some v14 := (blk_cell HS.out.o 0).trans rfl
    go_wp2
    go_ret2
    exact ⟨_, rfl, Kd.R_mono HS.out.r (fun _ _ => trivial), HB.out⟩

end Go.Proofs.Ytllhnnjkonghlaa.MFnExactFirstPath
