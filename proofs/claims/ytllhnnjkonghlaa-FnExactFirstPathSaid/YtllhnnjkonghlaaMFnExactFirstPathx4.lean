/- Functions of the program as Lean functions, each with the proof that its call comes to just that: laid for this claim by this session's own program. -/
import Derived.Test.YtllhnnjkonghlaaMFnExactFirstPathx0
import Derived.Test.YtllhnnjkonghlaaMFnExactFirstPathx1
import Derived.Test.YtllhnnjkonghlaaMFnExactFirstPathx2
import Derived.Test.YtllhnnjkonghlaaMFnExactFirstPathx3
namespace Go.Proofs.Ytllhnnjkonghlaa.MFnExactFirstPath
open Go.RowKit Go.Proofs.YtllhnnjkonghlaaW.PrintWords Go.Proofs.YtllhnnjkonghlaaW.PrintLast Go.Proofs.YtllhnnjkonghlaaW.PrintMore
attribute [local go_sem] max2_int min2_int max_two min_two max_three min_three max_four min_four   -- for this text's walks alone
set_option linter.unusedVariables false
set_option linter.unusedSimpArgs false

/-! ### spec_FirstPath: function 7 -/
mutual
/-- The search from a way on: the steps, were they found? and what is left. -/
def spec_FirstPath.e : Nat → List (S45) → Int → Int → List (List Int) → List Int → Option (List Int × Bool × Int)
  | 0, _, _, _, _, _ => none
  | k + 1, L, al, lf, X, st => if -1000000 ≤ lf ∧ lf ≤ 1000000 then (if lf - 1 < 0 then some ([], false, lf - 1) else (if (X.length : Int) = al then some (st, true, lf - 1) else spec_FirstPath.l k L al X st 0 (lf - 1))) else none
def spec_FirstPath.l : Nat → List (S45) → Int → List (List Int) → List Int → Int → Int → Option (List Int × Bool × Int)
  | 0, _, _, _, _, _, _ => none
  | k + 1, L, al, X, st, i, lf => if i < (L.length : Int) then (if 0 ≤ i then (if 0 < X.length ∧ X.length < 1000000 then ((spec_moApply.f k (rd_L3 X ((X.length : Int) - 1)) (rd_T45 L i).f0 (rd_T45 L i).f1 (rd_T45 L i).f2).bind fun nx => ((spec_raPlace.f k X nx).bind fun p => (if 0 ≤ p then (spec_FirstPath.l k L al X st (wrap64 (i + 1)) lf) else ((spec_l1Own.f st).bind fun so => (if so.length < 1000000 then ((spec_FirstPath.e k L al lf (X ++ [nx]) (so ++ [i])).bind fun z => (if z.2.1 = true then some (z.1, true, z.2.2) else (if z.2.2 < 0 then some ([], false, z.2.2) else (spec_FirstPath.l k L al X st (wrap64 (i + 1)) z.2.2)))) else none))))) else none) else none) else some ([], false, lf)
end
def spec_FirstPath.f (k : Nat) (a0 : Int) (l1 : List (S45)) (a2 : Int) : Option (List Int × Bool) := (spec_moTask.f k a0 l1).bind fun t => (if t = true then (if 4 < a0 then some ([], false) else ((spec_l1In.f a2 1 4000).bind fun b => (if b = true then ((spec_raFactorial.f k a0).bind fun al => ((spec_raUpTo.f k a0).bind fun s => ((spec_FirstPath.e k l1 al a2 [s] []).bind fun z => some (z.1, z.2.1)))) else some ([], false)))) else some ([], false))
theorem spec_FirstPath.mono_l : ∀ k, (∀ y0 y1 y2 y3 y4, LeO (spec_FirstPath.e k y0 y1 y2 y3 y4) (spec_FirstPath.e (k + 1) y0 y1 y2 y3 y4)) ∧ (∀ y0 y1 y2 y3 y4 y5, LeO (spec_FirstPath.l k y0 y1 y2 y3 y4 y5) (spec_FirstPath.l (k + 1) y0 y1 y2 y3 y4 y5))
  | 0 => ⟨fun _ _ _ _ _ r h => by simp [spec_FirstPath.e] at h, fun _ _ _ _ _ _ r h => by simp [spec_FirstPath.l] at h⟩
  | k + 1 => by
    obtain ⟨ih0, ih1⟩ := spec_FirstPath.mono_l k
    refine ⟨?_, ?_⟩
    · intro y0 y1 y2 y3 y4
      unfold spec_FirstPath.e
      repeat' first
      | (with_reducible exact ih0 _ _ _ _ _)
      | (with_reducible exact ih1 _ _ _ _ _ _)
      | (with_reducible exact spec_moApply.mono _ _ _ _ _)
      | (with_reducible exact spec_moTask.mono _ _ _)
      | (with_reducible exact spec_raFactorial.mono _ _)
      | (with_reducible exact spec_raPlace.mono _ _ _)
      | (with_reducible exact spec_raUpTo.mono _ _)
      | (with_reducible exact LeO.refl _)
      | (with_reducible exact LeO.none _)
      | (with_reducible refine LeO.ite ?_ ?_)
      | (with_reducible refine LeO.bind ?_ (fun _ => ?_))
      | exact ih0 _ _ _ _ _
      | exact ih1 _ _ _ _ _ _
      | exact spec_moApply.mono _ _ _ _ _
      | exact spec_moTask.mono _ _ _
      | exact spec_raFactorial.mono _ _
      | exact spec_raPlace.mono _ _ _
      | exact spec_raUpTo.mono _ _
      | exact LeO.none _
      | refine LeO.ite ?_ ?_
      | refine LeO.bind ?_ (fun _ => ?_)
    · intro y0 y1 y2 y3 y4 y5
      unfold spec_FirstPath.l
      repeat' first
      | (with_reducible exact ih0 _ _ _ _ _)
      | (with_reducible exact ih1 _ _ _ _ _ _)
      | (with_reducible exact spec_moApply.mono _ _ _ _ _)
      | (with_reducible exact spec_moTask.mono _ _ _)
      | (with_reducible exact spec_raFactorial.mono _ _)
      | (with_reducible exact spec_raPlace.mono _ _ _)
      | (with_reducible exact spec_raUpTo.mono _ _)
      | (with_reducible exact LeO.refl _)
      | (with_reducible exact LeO.none _)
      | (with_reducible refine LeO.ite ?_ ?_)
      | (with_reducible refine LeO.bind ?_ (fun _ => ?_))
      | exact ih0 _ _ _ _ _
      | exact ih1 _ _ _ _ _ _
      | exact spec_moApply.mono _ _ _ _ _
      | exact spec_moTask.mono _ _ _
      | exact spec_raFactorial.mono _ _
      | exact spec_raPlace.mono _ _ _
      | exact spec_raUpTo.mono _ _
      | exact LeO.none _
      | refine LeO.ite ?_ ?_
      | refine LeO.bind ?_ (fun _ => ?_)
theorem spec_FirstPath.mono : ∀ a0 a1 a2 k, LeO (spec_FirstPath.f k a0 a1 a2) (spec_FirstPath.f (k + 1) a0 a1 a2) := by
  intro a0 a1 a2 k
  obtain ⟨ih0, ih1⟩ := spec_FirstPath.mono_l k
  unfold spec_FirstPath.f
  repeat' first
      | (with_reducible exact ih0 _ _ _ _ _)
      | (with_reducible exact ih1 _ _ _ _ _ _)
      | (with_reducible exact spec_moApply.mono _ _ _ _ _)
      | (with_reducible exact spec_moTask.mono _ _ _)
      | (with_reducible exact spec_raFactorial.mono _ _)
      | (with_reducible exact spec_raPlace.mono _ _ _)
      | (with_reducible exact spec_raUpTo.mono _ _)
      | (with_reducible exact LeO.refl _)
      | (with_reducible exact LeO.none _)
      | (with_reducible refine LeO.ite ?_ ?_)
      | (with_reducible refine LeO.bind ?_ (fun _ => ?_))
      | exact ih0 _ _ _ _ _
      | exact ih1 _ _ _ _ _ _
      | exact spec_moApply.mono _ _ _ _ _
      | exact spec_moTask.mono _ _ _
      | exact spec_raFactorial.mono _ _
      | exact spec_raPlace.mono _ _ _
      | exact spec_raUpTo.mono _ _
      | exact LeO.none _
      | refine LeO.ite ?_ ?_
      | refine LeO.bind ?_ (fun _ => ?_)
open Go.Proofs.Ytllhnnjkonghlaa.FpW in
set_option maxHeartbeats 8000000 in
set_option maxRecDepth 100000 in
theorem spec_FirstPath.find : ∀ (k : Nat) (w0 : World) (gs : Nat) (AL : Option Addr) (cL : Nat) (L : List (S45)) (al lf : Int) (wz : World) (AX : Option Addr) (nX cX : Nat) (X : List (List Int)) (As : Option Addr) (ns cs : Nat) (st : List Int) (z : List Int × Bool × Int) (w : World) (hL : Kd.C k45 w0 AL L.length L) (hcL : L.length ≤ cL) (hgs : w.heap[gs]? = some (.cells #[.slice AL L.length cL, .int .i64 al, .int .i64 (lf)] 68 (0, 0))) (hge : w0.heap.size ≤ gs) (hz : Kept wz w (fun k_ => k_ = gs)) (hX : (keptK (Kd.slice 3 (Kd.int .i64)) wz (fun k_ => k_ = gs)).R 24 w w0.heap.size (fun k_ => k_ ≠ gs) (.slice AX nX cX) X) (hst : (Kd.int .i64).R 3 w w0.heap.size (fun k_ => k_ ≠ gs) (.slice As ns cs) st) (hb : Below w0.heap.size w0 w) (h : spec_FirstPath.e k L al lf X st = some z),
    Calls Try.prog 44 #[.pointer (some ⟨gs, 0, none⟩), .slice AX nX cX, .slice As ns cs] w fun e w' => ∃ v_ : Value, e = .returned (.tuple #[v_, .bool z.2.1]) ∧ (Kd.int .i64).R 3 w' w0.heap.size (fun _ => True) v_ z.1 ∧ w'.heap[gs]? = some (.cells #[.slice AL L.length cL, .int .i64 al, .int .i64 (z.2.2)] 68 (0, 0)) ∧ Kept w w' (fun k_ => k_ = gs) ∧ Below w0.heap.size w0 w' := by
  intro k
  induction k using Nat.strongRecOn with
  | ind k ih =>
  intro w0 gs AL cL L al lf wz AX nX cX X As ns cs st z w hL hcL hgs hge hz hX hst hb h
  obtain ⟨e1_, q1_, _⟩ := Kd.R_reads' hX
  obtain ⟨e2_, q2_, _⟩ := Kd.R_reads' hst
  subst e1_ e2_
  have hu := Try.underlying45
  cases k with
  | zero => simp [spec_FirstPath.e] at h
  | succ k =>
  have IH := Aside0.mk ih
  clear ih
  simp only [spec_FirstPath.e] at h
  by_cases cl : -1000000 ≤ lf ∧ lf ≤ 1000000
  rotate_left
  · rw [if_neg cl] at h; cases h
  rw [if_pos cl] at h
  have HL := Aside0.mk hL
  have HCL := Aside0.mk hcL
  have HG := Aside0.mk hge
  have HZ := Aside0.mk hz
  have HX := Aside0.mk hX
  have HT := Aside0.mk hst
  have BG := Aside0.mk (show (w.setCell ⟨gs, 2, none⟩ (.int .i64 (lf - 1))).heap[gs]? = some (.cells #[.slice AL L.length cL, .int .i64 al, .int .i64 (lf - 1)] 68 (0, 0)) from blk_put hgs 2 _ rfl)
  have HK := Aside0.mk (show Kept w (w.setCell ⟨gs, 2, none⟩ (.int .i64 (lf - 1))) (fun k_ => k_ = gs) from Kept.setCell (p := ⟨gs, 2, none⟩) (Kept.refl w (fun k_ => k_ = gs)) (.inl rfl) _)
  have HB := Aside0.mk (show Below w0.heap.size w0 (w.setCell ⟨gs, 2, none⟩ (.int .i64 (lf - 1))) from below_set hb hge)
  have hc2 : w.cell? ⟨gs, 2, none⟩ = some (.int .i64 lf) := (blk_cell hgs 2).trans rfl
  have hf2 := blk_frozen hgs 2
  have hd0 : (w.setCell ⟨gs, 2, none⟩ (.int .i64 (lf - 1))).cell? ⟨gs, 0, none⟩ = some (.slice AL L.length cL) := (blk_cell BG.out 0).trans rfl
  have hd1 : (w.setCell ⟨gs, 2, none⟩ (.int .i64 (lf - 1))).cell? ⟨gs, 1, none⟩ = some (.int .i64 al) := (blk_cell BG.out 1).trans rfl
  have hd2 : (w.setCell ⟨gs, 2, none⟩ (.int .i64 (lf - 1))).cell? ⟨gs, 2, none⟩ = some (.int .i64 (lf - 1)) := (blk_cell BG.out 2).trans rfl
  have pw : IntKind.i64.wrap (lf - 1) = lf - 1 := IntWalk.i64_in _ (by omega)
  have pw' : wrap64 (lf - 1) = lf - 1 := by unfold wrap64; omega
  clear hL hcL hgs hge hz hX hst hb q1_ q2_
  by_cases c0 : lf - 1 < 0
  · rw [if_pos c0] at h
    obtain rfl := Option.some.inj h
    have c0b : decide (lf - 1 < 0) = true := decide_eq_true c0
    clear h
    go_enter Try.func44, Try.ntmps44
    go_wp2
    go_ret2
    exact ⟨_, rfl, Kd.R_nil _ _ _ _ _, BG.out, HK.out, HB.out⟩
  rw [if_neg c0] at h
  have c0b : decide (lf - 1 < 0) = false := decide_eq_false c0
  by_cases ce : (X.length : Int) = al
  · rw [if_pos ce] at h
    obtain rfl := Option.some.inj h
    have ceb : ((X.length : Int) == al) = true := beq_iff_eq.mpr ce
    clear h ce
    go_enter Try.func44, Try.ntmps44
    go_wp2
    go_ret2
    exact ⟨_, rfl, Kd.R_mono (Kd.R_kept HT.out HK.out (fun k_ hk_ e_ => hk_ e_)) (fun _ _ => trivial), BG.out, HK.out, HB.out⟩
  rw [if_neg ce] at h
  have ceb : ((X.length : Int) == al) = false := beq_eq_false_iff_ne.mpr ce
  have H' := Aside0.mk h
  clear h ce
  go_enter Try.func44, Try.ntmps44
  go_wp2
  clear hc2 hf2 hd0 hd1 hd2 pw pw' c0 c0b ceb
  go_loopg [39] k (fun kq v39 w' => ∃ (i : Int) (lf' : Int), v39 = .int .i64 i ∧ Aside0 (spec_FirstPath.l kq L al X st i lf' = some z) ∧ Aside0 (kq ≤ k) ∧ Aside0 (w'.heap[gs]? = some (.cells #[.slice AL L.length cL, .int .i64 al, .int .i64 (lf')] 68 (0, 0))) ∧ Aside0 (Kept w w' (fun k_ => k_ = gs)) ∧ Aside0 (Below w0.heap.size w0 w'))
  case atStart => exact ⟨0, lf - 1, rfl, H', ⟨Nat.le_refl _⟩, BG, HK, HB⟩
  case round =>
    clear H' BG HK HB
    obtain ⟨i, lf', rfl, HA, HK1, BG, HK, HB⟩ := hrel
    cases gk with
    | zero => exact absurd HA.out (by simp [spec_FirstPath.l])
    | succ k1 =>
      have H := HA.out
      clear HA
      simp only [spec_FirstPath.l] at H
      by_cases c3 : i < (L.length : Int)
      rotate_left
      · rw [if_neg c3] at H
        obtain rfl := Option.some.inj H
        have c3b0 : decide (i < (L.length : Int)) = false := decide_eq_false c3
        clear c3 H
        go_wp2
        go_ret2
        first | exact ⟨_, rfl, Kd.R_nil _ _ _ _ _, BG.out, HK.out, HB.out⟩ | exact ⟨rfl, _, Kd.R_nil _ _ _ _ _, BG.out, HK.out, HB.out⟩
      rw [if_pos c3] at H
      have c3b0 : decide (i < (L.length : Int)) = true := decide_eq_true c3
      by_cases c4 : 0 ≤ i
      rotate_left
      · rw [if_neg c4] at H; cases H
      rw [if_pos c4] at H
      by_cases cx : 0 < X.length ∧ X.length < 1000000
      rotate_left
      · rw [if_neg cx] at H; cases H
      rw [if_pos cx] at H
      replace H := Option.bind_eq_some_iff.mp H
      obtain ⟨nx, h1, H⟩ := H
      replace H := Option.bind_eq_some_iff.mp H
      obtain ⟨p, h2, H⟩ := H
      have T1 := Aside0.mk h1
      have T2 := Aside0.mk h2
      have CX := Aside0.mk cx
      have HX1 := Aside0.mk (Kd.R_kept HX.out HK.out (fun k_ hk_ e_ => hk_ e_))
      have HT1 := Aside0.mk (Kd.R_kept HT.out HK.out (fun k_ hk_ e_ => hk_ e_))
      have HZ1 := Aside0.mk (show Kept wz wr (fun k_ => k_ = gs) from HZ.out.then_ HK.out (fun _ h_ => .inl h_))
      have HC1 := Aside0.mk (show (Kd.slice 3 (Kd.int .i64)).C wr AX X.length X from keptK_C (w := wr) (Kd.R_reads' HX1.out).2.2 HZ1.out)
      obtain ⟨aX, Al, cl', eaX, hx4, hle4, hie4⟩ := at_L3 HC1.out ((X.length : Int) - 1) (by omega) (by omega)
      cases eaX
      rw [show ((X.length : Int) - 1).toNat = X.length - 1 from by omega] at hx4
      have HLE := Aside0.mk hle4
      have HIE := Aside0.mk hie4
      have HX4 := Aside0.mk hx4
      obtain ⟨ad, ead, hx0, hx1, hx2⟩ := at_T45 HL.out i c4 c3
      cases ead
      replace hx0 := (HB.out.cell (World.block_lt_of_cell? w0 _ hx0)).trans hx0
      replace hx1 := (HB.out.cell (World.block_lt_of_cell? w0 _ hx1)).trans hx1
      replace hx2 := (HB.out.cell (World.block_lt_of_cell? w0 _ hx2)).trans hx2
      have c4b : (0 ≤ i) = True := eq_true c4
      have c3b : (i < (L.length : Int)) = True := eq_true c3
      have hw1 : IntKind.i64.wrap ((X.length : Int) - 1) = (X.length : Int) - 1 := IntWalk.i64_in _ (by omega)
      have q0 : (0 ≤ (X.length : Int) - 1) = True := eq_true (by omega)
      have q1 : (1 ≤ (X.length : Int)) = True := eq_true (by omega)
      have q2 : ((X.length : Int) - 1 < (X.length : Int)) = True := eq_true (by omega)
      have q3 : (1 ≤ X.length) = True := eq_true (by omega)
      have q4 : decide (0 ≤ (X.length : Int) - 1) = true := decide_eq_true (by omega)
      have q5 : decide ((X.length : Int) - 1 < (X.length : Int)) = true := decide_eq_true (by omega)
      have q6 : (0 < X.length) = True := eq_true cx.1
      clear h1 h2 c3 c4 cx hx4 hle4 hie4
      by_cases cp : 0 ≤ p
      · rw [if_pos cp] at H
        have H' := Aside0.mk H
        have cpb : decide (0 ≤ p) = true := decide_eq_true cp
        clear H
        go_wp2_with (first | ((with_reducible refine gate_dst (N := 9) rfl ?_); refine box_event ?hg (N := 9) ?hd (cs := #[.int .i64 0, .int .i64 0, .int .i64 0]) (t := 45) ?hr ?_; (case hd => rfl); (case hg => rfl); (case hr => first | (go_simp; done) | (go_simp; rfl)); intro gb hg w3 hbox hb; have BX := Aside0.mk hb; have GX := Aside0.mk (show wr.heap.size ≤ gb by rw [hg]; exact Nat.le_refl _); have BO := Aside0.mk hbox; have hcz0 : w3.cell? ⟨gb, 0, none⟩ = some (.int .i64 0) := (blk_cell hbox 0).trans rfl; have hcz1 : w3.cell? ⟨gb, 1, none⟩ = some (.int .i64 0) := (blk_cell hbox 1).trans rfl; have hcz2 : w3.cell? ⟨gb, 2, none⟩ = some (.int .i64 0) := (blk_cell hbox 2).trans rfl; have hfz0 := blk_frozen hbox 0; have hfz1 := blk_frozen hbox 1; have hfz2 := blk_frozen hbox 2; clear hb hbox hg))
        have b3 : Below wr.heap.size wr ((((w3.setCell ⟨gb, 0, none⟩ (.int .i64 (rd_T45 L i).f0)).setCell ⟨gb, 1, none⟩ (.int .i64 (rd_T45 L i).f1)).setCell ⟨gb, 2, none⟩ (.int .i64 (rd_T45 L i).f2)).drew) := below_drew1 (below_set (below_set (below_set BX.out GX.out) GX.out) GX.out)
        have m3 : ((((w3.setCell ⟨gb, 0, none⟩ (.int .i64 (rd_T45 L i).f0)).setCell ⟨gb, 1, none⟩ (.int .i64 (rd_T45 L i).f1)).setCell ⟨gb, 2, none⟩ (.int .i64 (rd_T45 L i).f2)).drew).heap[gb]? = some (.cells #[.int .i64 (rd_T45 L i).f0, .int .i64 (rd_T45 L i).f1, .int .i64 (rd_T45 L i).f2] 45 (0, 0)) := blk_drew (blk_put (blk_put (blk_put BO.out 0 _ rfl) 1 _ rfl) 2 _ rfl)
        have HBX := Aside0.mk b3
        have BM := Aside0.mk m3
        have GL := Aside0.mk (blk_lt BG.out)
        clear b3 m3 BX BO hcz0 hcz1 hcz2 hfz0 hfz1 hfz2 hx0 hx1 hx2
        refine start_ (n := 9) (S := fun w' => w'.cell? (aX.add (X.length - 1)) = some (.slice Al (rd_L3 X ((X.length : Int) - 1)).length cl') ∧ w'.cell? ⟨gb, 0, none⟩ = some (.int .i64 (rd_T45 L i).f0) ∧ w'.cell? ⟨gb, 1, none⟩ = some (.int .i64 (rd_T45 L i).f1) ∧ w'.cell? ⟨gb, 2, none⟩ = some (.int .i64 (rd_T45 L i).f2)) (ds := []) #[false, false, false, false, false, false, false, false, false] (by kernel_rfl) rfl rfl ⟨(HBX.out.cell (World.block_lt_of_cell? wr _ HX4.out)).trans HX4.out, (blk_cell BM.out 0).trans rfl, (blk_cell BM.out 1).trans rfl, (blk_cell BM.out 2).trans rfl⟩ (fun hHeld => ?_)
        generalize World.drew _ = w4 at HBX BM hHeld ⊢
        refine pure_ (i := 0) (N := some 44) (v := ?_) (a' := ?_) #[true, false, false, false, false, false, false, false, false] rfl rfl (by kernel_rfl) (fun _ _ _ h => h) (Or.inl ⟨by rfl, ?_⟩) ?_ ?_
        rotate_left
        · intro w'
          go_simp
          with_reducible rfl
        rotate_left
        · simp only [Act.put, List.setIfInBounds_toArray, List.set_cons_zero, List.set_cons_succ, i64_w, i32_w]
          rfl
        refine pure_ (i := 1) (N := some 45) (v := ?_) (a' := ?_) #[true, true, false, false, false, false, false, false, false] rfl rfl (by kernel_rfl) (fun _ _ _ h => h) (Or.inl ⟨by rfl, ?_⟩) ?_ ?_
        rotate_left
        · intro w'
          go_simp
          with_reducible rfl
        rotate_left
        · simp only [Act.put, List.setIfInBounds_toArray, List.set_cons_zero, List.set_cons_succ, i64_w, i32_w]
          rfl
        refine pure_ (i := 2) (N := some 46) (v := ?_) (a' := ?_) #[true, true, true, false, false, false, false, false, false] rfl rfl (by kernel_rfl) (fun _ _ _ h => h) (Or.inl ⟨by rfl, ?_⟩) ?_ ?_
        rotate_left
        · intro w'
          go_simp
          with_reducible rfl
        rotate_left
        · simp only [Act.put, List.setIfInBounds_toArray, List.set_cons_zero, List.set_cons_succ, i64_w, i32_w]
          rfl
        refine pure_ (i := 3) (N := some 47) (v := ?_) (a' := ?_) #[true, true, true, true, false, false, false, false, false] rfl rfl (by kernel_rfl) (fun _ _ _ h => h) (Or.inl ⟨by rfl, ?_⟩) ?_ ?_
        rotate_left
        · intro w'
          go_simp
          with_reducible rfl
        rotate_left
        · simp only [Act.put, List.setIfInBounds_toArray, List.set_cons_zero, List.set_cons_succ, i64_w, i32_w]
          rfl
        refine pure_ (i := 4) (N := some 48) (v := ?_) (a' := ?_) #[true, true, true, true, true, false, false, false, false] rfl rfl (by kernel_rfl) (fun _ _ _ h => h) (Or.inl ⟨by rfl, ?_⟩) ?_ ?_
        rotate_left
        · intro w'
          go_simp
          with_reducible rfl
        rotate_left
        · simp only [Act.put, List.setIfInBounds_toArray, List.set_cons_zero, List.set_cons_succ, i64_w, i32_w]
          rfl
        refine take_ (i := 5) (N := some 49) (v := ?_) (a' := ?_) #[true, true, true, true, true, true, false, false, false] rfl rfl (by kernel_rfl) (fun _ _ _ h => h) (Or.inl ⟨by rfl, ?_⟩) hHeld ?_ ?_
        rotate_left
        · rintro w' ⟨s0, s1, s2, s3⟩
          go_simp
          with_reducible rfl
        rotate_left
        · simp only [Act.put, List.setIfInBounds_toArray, List.set_cons_zero, List.set_cons_succ, i64_w, i32_w]
          rfl
        refine take_ (i := 6) (N := some 50) (v := ?_) (a' := ?_) #[true, true, true, true, true, true, true, false, false] rfl rfl (by kernel_rfl) (fun _ _ _ h => h) (Or.inl ⟨by rfl, ?_⟩) hHeld ?_ ?_
        rotate_left
        · rintro w' ⟨s0, s1, s2, s3⟩
          go_simp
          with_reducible rfl
        rotate_left
        · simp only [Act.put, List.setIfInBounds_toArray, List.set_cons_zero, List.set_cons_succ, i64_w, i32_w]
          rfl
        refine one_ (i := 7) (N := some 51) #[true, true, true, true, true, true, true, true, false] rfl rfl (by kernel_rfl) (by decide) (fun K hK => ?_)
        refine goes_ Try.func72 (by kernel_rfl) rfl #[.slice Al (rd_L3 X ((X.length : Int) - 1)).length cl', .agg #[.int .i64 (rd_T45 L i).f0, .int .i64 (rd_T45 L i).f1, .int .i64 (rd_T45 L i).f2]] (by rfl) rfl rfl (by simp only [List.map_toArray, List.map_cons, List.map_nil]; rfl) ?_
        with_reducible refine (spec_moApply.calls k1 Al cl' (rd_L3 X ((X.length : Int) - 1)) (rd_T45 L i).f0 (rd_T45 L i).f1 (rd_T45 L i).f2 nx _ (Kd.C_below HIE.out HBX.out) HLE.out T1.out).mono ?_
        rintro e w5 ⟨v5, rfl, ho5, hb5⟩
        refine ⟨_, rfl, ?_⟩
        obtain ⟨A5, c5, rfl⟩ := Kd.R_slice ho5
        have HN := Aside0.mk (show (Kd.int .i64).R 3 w5 w4.heap.size (fun k_ => k_ ≠ gs) (.slice A5 nx.length c5) nx from Kd.R_mono (Kd.R_bound ho5) (fun k_ hk_ => Nat.ne_of_gt (Nat.lt_of_lt_of_le GL.out (Nat.le_trans HBX.out.size hk_.2.1))))
        have n0_ := Aside0.mk (blk_below BM.out hb5)
        have n1_ := Aside0.mk (below_step HBX.out hb5)
        have HWS := Aside0.mk HBX.out.size
        clear BM HBX ho5 hb5
        have BM := n0_
        have HBX := n1_
        clear n0_ n1_
        refine hK.out _ _ ⟨(HBX.out.cell (World.block_lt_of_cell? wr _ HX4.out)).trans HX4.out, (blk_cell BM.out 0).trans rfl, (blk_cell BM.out 1).trans rfl, (blk_cell BM.out 2).trans rfl⟩ (fun hHeld => ?_)
        clear hK K
        refine norm_ (a' := ?_) ?_ ?_
        rotate_left
        · show Act.put _ (some 51) _ = _
          simp only [Act.put, List.setIfInBounds_toArray, List.set_cons_zero, List.set_cons_succ, i64_w, i32_w]
          rfl
        refine pure_ (i := 8) (N := some 10) (v := ?_) (a' := ?_) #[true, true, true, true, true, true, true, true, true] rfl rfl (by kernel_rfl) (fun _ _ _ h => h) (Or.inl ⟨by rfl, ?_⟩) ?_ ?_
        rotate_left
        · intro w'
          go_simp
          with_reducible rfl
        rotate_left
        · simp only [Act.put, List.setIfInBounds_toArray, List.set_cons_zero, List.set_cons_succ, i64_w, i32_w]
          rfl
        refine done_ (by kernel_rfl) ?_

        have HXW := Aside0.mk (Kd.C_below HC1.out HBX.out)
        go_wp2_with fail
        refine (spec_raPlace.calls k1 _ cX X A5 c5 nx p _ HXW.out (Kd.R_reads' HX1.out).2.1 (Kd.R_reads' HN.out).2.2 (Kd.R_reads' HN.out).2.1 T2.out).mono ?_
        rintro e w6 ⟨rfl, hd6⟩
        have hb6 := Drawn0.below hd6
        have n0_ := Aside0.mk (Kd.R_below HN.out hb6)
        have B6 := Aside0.mk (below_step HBX.out hb6)
        clear HN HBX BM HXW hb6 hd6
        have HN := n0_
        clear n0_
        have BG6 := Aside0.mk (blk_below BG.out B6.out)
        have HQ := Aside0.mk (Kept.of_below B6.out (fun k_ => k_ = gs))
        have HB6 := Aside0.mk (HB.out.trans (B6.out.mono HB.out.size))
        have HN2 := Aside0.mk (Kd.R_lower HN.out (Nat.le_trans HB.out.size HWS.out))
        go_wp2
        go_roundg k1
        case measure => have := HK1.out; omega
        case rel => exact ⟨wrap64 (i + 1), lf', rfl, H', ⟨by have := HK1.out; omega⟩, BG6, ⟨HK.out.then_ HQ.out (fun _ h_ => .inl h_)⟩, HB6⟩
      rw [if_neg cp] at H
      have cpb : decide (0 ≤ p) = false := decide_eq_false cp
      replace H := Option.bind_eq_some_iff.mp H
      obtain ⟨so, h3, H⟩ := H
      by_cases cs_ : so.length < 1000000
      rotate_left
      · rw [if_neg cs_] at H; cases H
      rw [if_pos cs_] at H
      replace H := Option.bind_eq_some_iff.mp H
      obtain ⟨⟨o2, ok2, lf2⟩, h4, H⟩ := H
      have T3 := Aside0.mk h3
      have T4 := Aside0.mk h4
      have CS := Aside0.mk cs_
      clear h3 h4 cs_
      dsimp only at H
      cases ok2
      rotate_left
      · simp only [if_true] at H
        obtain rfl := Option.some.inj H
        clear H
        go_wp2_with (first | ((with_reducible refine gate_dst (N := 9) rfl ?_); refine box_event ?hg (N := 9) ?hd (cs := #[.int .i64 0, .int .i64 0, .int .i64 0]) (t := 45) ?hr ?_; (case hd => rfl); (case hg => rfl); (case hr => first | (go_simp; done) | (go_simp; rfl)); intro gb hg w3 hbox hb; have BX := Aside0.mk hb; have GX := Aside0.mk (show wr.heap.size ≤ gb by rw [hg]; exact Nat.le_refl _); have BO := Aside0.mk hbox; have hcz0 : w3.cell? ⟨gb, 0, none⟩ = some (.int .i64 0) := (blk_cell hbox 0).trans rfl; have hcz1 : w3.cell? ⟨gb, 1, none⟩ = some (.int .i64 0) := (blk_cell hbox 1).trans rfl; have hcz2 : w3.cell? ⟨gb, 2, none⟩ = some (.int .i64 0) := (blk_cell hbox 2).trans rfl; have hfz0 := blk_frozen hbox 0; have hfz1 := blk_frozen hbox 1; have hfz2 := blk_frozen hbox 2; clear hb hbox hg))
        have b3 : Below wr.heap.size wr ((((w3.setCell ⟨gb, 0, none⟩ (.int .i64 (rd_T45 L i).f0)).setCell ⟨gb, 1, none⟩ (.int .i64 (rd_T45 L i).f1)).setCell ⟨gb, 2, none⟩ (.int .i64 (rd_T45 L i).f2)).drew) := below_drew1 (below_set (below_set (below_set BX.out GX.out) GX.out) GX.out)
        have m3 : ((((w3.setCell ⟨gb, 0, none⟩ (.int .i64 (rd_T45 L i).f0)).setCell ⟨gb, 1, none⟩ (.int .i64 (rd_T45 L i).f1)).setCell ⟨gb, 2, none⟩ (.int .i64 (rd_T45 L i).f2)).drew).heap[gb]? = some (.cells #[.int .i64 (rd_T45 L i).f0, .int .i64 (rd_T45 L i).f1, .int .i64 (rd_T45 L i).f2] 45 (0, 0)) := blk_drew (blk_put (blk_put (blk_put BO.out 0 _ rfl) 1 _ rfl) 2 _ rfl)
        have HBX := Aside0.mk b3
        have BM := Aside0.mk m3
        have GL := Aside0.mk (blk_lt BG.out)
        clear b3 m3 BX BO hcz0 hcz1 hcz2 hfz0 hfz1 hfz2 hx0 hx1 hx2
        refine start_ (n := 9) (S := fun w' => w'.cell? (aX.add (X.length - 1)) = some (.slice Al (rd_L3 X ((X.length : Int) - 1)).length cl') ∧ w'.cell? ⟨gb, 0, none⟩ = some (.int .i64 (rd_T45 L i).f0) ∧ w'.cell? ⟨gb, 1, none⟩ = some (.int .i64 (rd_T45 L i).f1) ∧ w'.cell? ⟨gb, 2, none⟩ = some (.int .i64 (rd_T45 L i).f2)) (ds := []) #[false, false, false, false, false, false, false, false, false] (by kernel_rfl) rfl rfl ⟨(HBX.out.cell (World.block_lt_of_cell? wr _ HX4.out)).trans HX4.out, (blk_cell BM.out 0).trans rfl, (blk_cell BM.out 1).trans rfl, (blk_cell BM.out 2).trans rfl⟩ (fun hHeld => ?_)
        generalize World.drew _ = w4 at HBX BM hHeld ⊢
        refine pure_ (i := 0) (N := some 44) (v := ?_) (a' := ?_) #[true, false, false, false, false, false, false, false, false] rfl rfl (by kernel_rfl) (fun _ _ _ h => h) (Or.inl ⟨by rfl, ?_⟩) ?_ ?_
        rotate_left
        · intro w'
          go_simp
          with_reducible rfl
        rotate_left
        · simp only [Act.put, List.setIfInBounds_toArray, List.set_cons_zero, List.set_cons_succ, i64_w, i32_w]
          rfl
        refine pure_ (i := 1) (N := some 45) (v := ?_) (a' := ?_) #[true, true, false, false, false, false, false, false, false] rfl rfl (by kernel_rfl) (fun _ _ _ h => h) (Or.inl ⟨by rfl, ?_⟩) ?_ ?_
        rotate_left
        · intro w'
          go_simp
          with_reducible rfl
        rotate_left
        · simp only [Act.put, List.setIfInBounds_toArray, List.set_cons_zero, List.set_cons_succ, i64_w, i32_w]
          rfl
        refine pure_ (i := 2) (N := some 46) (v := ?_) (a' := ?_) #[true, true, true, false, false, false, false, false, false] rfl rfl (by kernel_rfl) (fun _ _ _ h => h) (Or.inl ⟨by rfl, ?_⟩) ?_ ?_
        rotate_left
        · intro w'
          go_simp
          with_reducible rfl
        rotate_left
        · simp only [Act.put, List.setIfInBounds_toArray, List.set_cons_zero, List.set_cons_succ, i64_w, i32_w]
          rfl
        refine pure_ (i := 3) (N := some 47) (v := ?_) (a' := ?_) #[true, true, true, true, false, false, false, false, false] rfl rfl (by kernel_rfl) (fun _ _ _ h => h) (Or.inl ⟨by rfl, ?_⟩) ?_ ?_
        rotate_left
        · intro w'
          go_simp
          with_reducible rfl
        rotate_left
        · simp only [Act.put, List.setIfInBounds_toArray, List.set_cons_zero, List.set_cons_succ, i64_w, i32_w]
          rfl
        refine pure_ (i := 4) (N := some 48) (v := ?_) (a' := ?_) #[true, true, true, true, true, false, false, false, false] rfl rfl (by kernel_rfl) (fun _ _ _ h => h) (Or.inl ⟨by rfl, ?_⟩) ?_ ?_
        rotate_left
        · intro w'
          go_simp
          with_reducible rfl
        rotate_left
        · simp only [Act.put, List.setIfInBounds_toArray, List.set_cons_zero, List.set_cons_succ, i64_w, i32_w]
          rfl
        refine take_ (i := 5) (N := some 49) (v := ?_) (a' := ?_) #[true, true, true, true, true, true, false, false, false] rfl rfl (by kernel_rfl) (fun _ _ _ h => h) (Or.inl ⟨by rfl, ?_⟩) hHeld ?_ ?_
        rotate_left
        · rintro w' ⟨s0, s1, s2, s3⟩
          go_simp
          with_reducible rfl
        rotate_left
        · simp only [Act.put, List.setIfInBounds_toArray, List.set_cons_zero, List.set_cons_succ, i64_w, i32_w]
          rfl
        refine take_ (i := 6) (N := some 50) (v := ?_) (a' := ?_) #[true, true, true, true, true, true, true, false, false] rfl rfl (by kernel_rfl) (fun _ _ _ h => h) (Or.inl ⟨by rfl, ?_⟩) hHeld ?_ ?_
        rotate_left
        · rintro w' ⟨s0, s1, s2, s3⟩
          go_simp
          with_reducible rfl
        rotate_left
        · simp only [Act.put, List.setIfInBounds_toArray, List.set_cons_zero, List.set_cons_succ, i64_w, i32_w]
          rfl
        refine one_ (i := 7) (N := some 51) #[true, true, true, true, true, true, true, true, false] rfl rfl (by kernel_rfl) (by decide) (fun K hK => ?_)
        refine goes_ Try.func72 (by kernel_rfl) rfl #[.slice Al (rd_L3 X ((X.length : Int) - 1)).length cl', .agg #[.int .i64 (rd_T45 L i).f0, .int .i64 (rd_T45 L i).f1, .int .i64 (rd_T45 L i).f2]] (by rfl) rfl rfl (by simp only [List.map_toArray, List.map_cons, List.map_nil]; rfl) ?_
        with_reducible refine (spec_moApply.calls k1 Al cl' (rd_L3 X ((X.length : Int) - 1)) (rd_T45 L i).f0 (rd_T45 L i).f1 (rd_T45 L i).f2 nx _ (Kd.C_below HIE.out HBX.out) HLE.out T1.out).mono ?_
        rintro e w5 ⟨v5, rfl, ho5, hb5⟩
        refine ⟨_, rfl, ?_⟩
        obtain ⟨A5, c5, rfl⟩ := Kd.R_slice ho5
        have HN := Aside0.mk (show (Kd.int .i64).R 3 w5 w4.heap.size (fun k_ => k_ ≠ gs) (.slice A5 nx.length c5) nx from Kd.R_mono (Kd.R_bound ho5) (fun k_ hk_ => Nat.ne_of_gt (Nat.lt_of_lt_of_le GL.out (Nat.le_trans HBX.out.size hk_.2.1))))
        have n0_ := Aside0.mk (blk_below BM.out hb5)
        have n1_ := Aside0.mk (below_step HBX.out hb5)
        have HWS := Aside0.mk HBX.out.size
        clear BM HBX ho5 hb5
        have BM := n0_
        have HBX := n1_
        clear n0_ n1_
        refine hK.out _ _ ⟨(HBX.out.cell (World.block_lt_of_cell? wr _ HX4.out)).trans HX4.out, (blk_cell BM.out 0).trans rfl, (blk_cell BM.out 1).trans rfl, (blk_cell BM.out 2).trans rfl⟩ (fun hHeld => ?_)
        clear hK K
        refine norm_ (a' := ?_) ?_ ?_
        rotate_left
        · show Act.put _ (some 51) _ = _
          simp only [Act.put, List.setIfInBounds_toArray, List.set_cons_zero, List.set_cons_succ, i64_w, i32_w]
          rfl
        refine pure_ (i := 8) (N := some 10) (v := ?_) (a' := ?_) #[true, true, true, true, true, true, true, true, true] rfl rfl (by kernel_rfl) (fun _ _ _ h => h) (Or.inl ⟨by rfl, ?_⟩) ?_ ?_
        rotate_left
        · intro w'
          go_simp
          with_reducible rfl
        rotate_left
        · simp only [Act.put, List.setIfInBounds_toArray, List.set_cons_zero, List.set_cons_succ, i64_w, i32_w]
          rfl
        refine done_ (by kernel_rfl) ?_

        have HXW := Aside0.mk (Kd.C_below HC1.out HBX.out)
        go_wp2_with fail
        refine (spec_raPlace.calls k1 _ cX X A5 c5 nx p _ HXW.out (Kd.R_reads' HX1.out).2.1 (Kd.R_reads' HN.out).2.2 (Kd.R_reads' HN.out).2.1 T2.out).mono ?_
        rintro e w6 ⟨rfl, hd6⟩
        have hb6 := Drawn0.below hd6
        have n0_ := Aside0.mk (Kd.R_below HN.out hb6)
        have B6 := Aside0.mk (below_step HBX.out hb6)
        clear HN HBX BM HXW hb6 hd6
        have HN := n0_
        clear n0_
        have BG6 := Aside0.mk (blk_below BG.out B6.out)
        have HQ := Aside0.mk (Kept.of_below B6.out (fun k_ => k_ = gs))
        have HB6 := Aside0.mk (HB.out.trans (B6.out.mono HB.out.size))
        have HN2 := Aside0.mk (Kd.R_lower HN.out (Nat.le_trans HB.out.size HWS.out))
        go_wp2_with (first | ((with_reducible refine gate_dst (N := 56) rfl ?_); refine Kd.R_lit (keptK (Kd.slice 3 (Kd.int .i64)) w6 (fun k_ => k_ = gs)) (w0 := w6) w6.heap.size 24 ?hg (N := 56) ?hd (xs := ([] : List (List Int))) (inner := []) (ok := fun _ => True) (okp := fun _ => False) ?hr ?hp (fun _ hk => hk.elim) trivial (Below.refl _ _) (Nat.le_refl _) (by simp) ?_; (case hd => rfl); (case hg => rfl); (case hr => first | (go_simp; done) | (go_simp; rfl)); (case hp => exact (Reps.none _ _)); intro v7 w7 ho hb hg hnew; have HO7 := Aside0.mk ho; have HB7 := Aside0.mk hb; clear ho hb hg hnew) | ((with_reducible refine gate_builtin (b := .append) (xs := #[.tmp 56, .tmp 57]) rfl ?_); at_builtin; refine Kd.R_append_rows (keptK (Kd.slice 3 (Kd.int .i64)) w6 (fun k_ => k_ = gs)) (Rr := fun x_ cs_ => ∀ W_, Kept w6 W_ (fun k_ => k_ = gs) → Kd.K (Kd.slice 3 (Kd.int .i64)) W_ x_ cs_) (w0 := w6) w6.heap.size rfl (.tmp 56) (.tmp 57) 50 24 (.slice none 0 0) 24 rfl Try.underlying50 info24 rfl (show 0 < 1 from Nat.one_pos) (by omega) v7 ([] : List (List Int)) X _ X.length cX (fun _ => True) (fun _ => False) rfl (by first | (go_simp; done) | (go_simp; rfl)) HO7.out ?rR (fun _ _ h_ => h_) (fun _ hk => hk.elim) (fun _ _ => trivial) HB7.out HB7.out.size ?rL ?_; (case rR => exact ReadsRow.imp_ (Kd.R_reads' (Kd.R_below (Kd.R_kept HX1.out HQ.out (fun k_ hk_ e_ => hk_ e_)) HB7.out)).2.2 (Below.refl _ _) (fun _ _ hp_ W_ hW_ => hp_ W_ ((HZ1.out.then_ HQ.out (fun _ h_ => .inl h_)).then_ hW_ (fun _ h_ => .inl h_)))); (case rL => have := CX.out; simp only [List.length_nil]; omega); intro v8 w8 ho8 hb8 hg8 hat8; rw [List.nil_append] at ho8; have HO8 := Aside0.mk ho8; have HB8 := Aside0.mk hb8; clear HO7 HB7 ho8 hb8 hg8 hat8) | ((with_reducible refine gate_builtin (b := .append) (xs := #[.tmp 58, .tmp 60]) rfl ?_); at_builtin; refine Kd.R_append (keptK (Kd.slice 3 (Kd.int .i64)) w6 (fun k_ => k_ = gs)) (w0 := w6) w6.heap.size rfl (.tmp 58) (.tmp 60) 50 24 (.slice none 0 0) 24 rfl Try.underlying50 info24 rfl (show 0 < 1 from Nat.one_pos) (by omega) v8 X nx [.slice A5 nx.length c5] (fun _ => True) (fun _ => False) rfl (by first | (go_simp; done) | (go_simp; rfl)) ?aP (fun _ hk => hk.elim) (fun _ _ => trivial) HO8.out HB8.out HB8.out.size ?aL ?_; (case aP => exact fun W_ hW_ => ⟨A5, c5, rfl, (Kd.R_reads' HN2.out).2.1, Kd.C_kept_own HN2.out (fun _ hk_ e_ => hk_ e_) W_ hW_⟩); (case aL => have := CX.out; omega); intro v9 w9 ho9 hb9 hg9 hat9; have HO9 := Aside0.mk ho9; have HB9 := Aside0.mk hb9; clear HO8 HB8 ho9 hb9 hg9 hat9) | ((with_reducible refine gate_callee (f := 83) rfl ?_); refine goesL_ (some 66) rfl rfl Try.func83 (by kernel_rfl) rfl #[.slice As st.length cs] rfl (by (try simp only [List.map_toArray, List.map_cons, List.map_nil]); first | done | rfl) ?_; (with_reducible refine (spec_l1Own.calls As cs st so _ ?o1 ?o2 T3.out).mono ?_); (case o1 => exact (Kd.R_reads' (Kd.R_below (Kd.R_kept HT1.out HQ.out (fun k_ hk_ e_ => hk_ e_)) HB9.out)).2.2); (case o2 => exact (Kd.R_reads' HT1.out).2.1); rintro e w10 ⟨v10, rfl, ho10, hb10⟩; refine ⟨_, rfl, ?_⟩; have HO10 := Aside0.mk (Kd.R_lower ho10 HB9.out.size); have n0_ := Aside0.mk (Kd.R_below HO9.out hb10); have HB10 := Aside0.mk (below_step HB9.out hb10); have n1_ := Aside0.mk (Kd.R_mono (Kd.R_bound HO9.out) (fun k_ hk_ => (⟨hk_.2.1, hk_.2.2.1⟩ : w6.heap.size ≤ k_ ∧ k_ < w9.heap.size))); have n2_ := Aside0.mk (Kd.R_below n1_.out hb10); have HSZ := Aside0.mk (Kd.R_base ho10); clear HO9 HB9 n1_ n0_ ho10 hb10; have HO9 := n2_; clear n2_) | ((with_reducible refine gate_builtin (b := .append) (xs := #[.tmp 66, .tmp 68]) rfl ?_); at_builtin; refine Kd.R_append (Kd.int .i64) (w0 := w6) w6.heap.size rfl (.tmp 66) (.tmp 68) 24 3 (.int .i64 0) 8 rfl Try.underlying24 info3 rfl (by decide) (by omega) v10 so i [.int .i64 i] (fun _ => True) (fun _ => False) rfl (by first | (go_simp; done) | (go_simp; rfl)) ?bP (fun _ hk => hk.elim) (fun _ _ => trivial) HO10.out HB10.out HB10.out.size ?bL ?_; (case bP => exact rfl); (case bL => have := CS.out; omega); intro v11 w11 ho11 hb11 hg11 hat11; have n0_ := Aside0.mk (Kd.R_grown HO9.out hg11 (fun k_ hk_ e_ => by have := HSZ.out k_ e_.symm; omega)); have HO11 := Aside0.mk ho11; have HB11 := Aside0.mk hb11; clear HO9 HO10 HB10 HSZ ho11 hb11 hg11 hat11; have HO9 := n0_; clear n0_))
        obtain ⟨A9, c9, e9⟩ := Kd.R_slice HO9.out
        obtain ⟨A11, c11, e11⟩ := Kd.R_slice HO11.out
        subst e9 e11
        have BG11 := Aside0.mk (blk_below BG6.out HB11.out)
        have HX11 := Aside0.mk (show (keptK (Kd.slice 3 (Kd.int .i64)) w6 (fun k_ => k_ = gs)).R 24 w11 w0.heap.size (fun k_ => k_ ≠ gs) (.slice A9 (X ++ [nx]).length c9) (X ++ [nx]) from Kd.R_mono (Kd.R_lower HO9.out HB6.out.size) (fun k_ hk_ => Nat.ne_of_gt (Nat.lt_of_lt_of_le (blk_lt BG6.out) hk_.1)))
        have HT11 := Aside0.mk (show (Kd.int .i64).R 3 w11 w0.heap.size (fun k_ => k_ ≠ gs) (.slice A11 (so ++ [i]).length c11) (so ++ [i]) from Kd.R_mono (Kd.R_lower (Kd.R_bound HO11.out) HB6.out.size) (fun k_ hk_ => Nat.ne_of_gt (Nat.lt_of_lt_of_le (blk_lt BG6.out) hk_.2.1)))
        refine (IH.out k1 (by have := HK1.out; omega) w0 gs _ cL L al lf' w6 A9 _ c9 (X ++ [nx]) A11 _ c11 (so ++ [i]) (o2, true, lf2) w11 HL.out HCL.out BG11.out HG.out (Kept.of_below HB11.out _) HX11.out HT11.out (HB6.out.trans (HB11.out.mono HB6.out.size)) T4.out).mono ?_
        rintro e w12 ⟨v12, rfl, hr12, hg12, hk12, hb12⟩
        have HR12 := Aside0.mk hr12
        have BG12 := Aside0.mk hg12
        have HK12 := Aside0.mk (HK.out.then_ ((HQ.out.below HB11.out).then_ hk12 (fun _ h_ => .inl h_)) (fun _ h_ => .inl h_))
        have HB12 := Aside0.mk hb12
        clear hr12 hg12 hk12 hb12
        have hy2 : w12.cell? ⟨gs, 2, none⟩ = some (.int .i64 lf2) := (blk_cell BG12.out 2).trans rfl
        go_wp2
        go_ret2
        first | exact ⟨_, rfl, HR12.out, BG12.out, HK12.out, HB12.out⟩ | exact ⟨rfl, _, HR12.out, BG12.out, HK12.out, HB12.out⟩
      simp only [Bool.false_eq_true, if_false] at H
      by_cases cz : lf2 < 0
      · rw [if_pos cz] at H
        obtain rfl := Option.some.inj H
        have czb : decide (lf2 < 0) = true := decide_eq_true cz
        clear H
        go_wp2_with (first | ((with_reducible refine gate_dst (N := 9) rfl ?_); refine box_event ?hg (N := 9) ?hd (cs := #[.int .i64 0, .int .i64 0, .int .i64 0]) (t := 45) ?hr ?_; (case hd => rfl); (case hg => rfl); (case hr => first | (go_simp; done) | (go_simp; rfl)); intro gb hg w3 hbox hb; have BX := Aside0.mk hb; have GX := Aside0.mk (show wr.heap.size ≤ gb by rw [hg]; exact Nat.le_refl _); have BO := Aside0.mk hbox; have hcz0 : w3.cell? ⟨gb, 0, none⟩ = some (.int .i64 0) := (blk_cell hbox 0).trans rfl; have hcz1 : w3.cell? ⟨gb, 1, none⟩ = some (.int .i64 0) := (blk_cell hbox 1).trans rfl; have hcz2 : w3.cell? ⟨gb, 2, none⟩ = some (.int .i64 0) := (blk_cell hbox 2).trans rfl; have hfz0 := blk_frozen hbox 0; have hfz1 := blk_frozen hbox 1; have hfz2 := blk_frozen hbox 2; clear hb hbox hg))
        have b3 : Below wr.heap.size wr ((((w3.setCell ⟨gb, 0, none⟩ (.int .i64 (rd_T45 L i).f0)).setCell ⟨gb, 1, none⟩ (.int .i64 (rd_T45 L i).f1)).setCell ⟨gb, 2, none⟩ (.int .i64 (rd_T45 L i).f2)).drew) := below_drew1 (below_set (below_set (below_set BX.out GX.out) GX.out) GX.out)
        have m3 : ((((w3.setCell ⟨gb, 0, none⟩ (.int .i64 (rd_T45 L i).f0)).setCell ⟨gb, 1, none⟩ (.int .i64 (rd_T45 L i).f1)).setCell ⟨gb, 2, none⟩ (.int .i64 (rd_T45 L i).f2)).drew).heap[gb]? = some (.cells #[.int .i64 (rd_T45 L i).f0, .int .i64 (rd_T45 L i).f1, .int .i64 (rd_T45 L i).f2] 45 (0, 0)) := blk_drew (blk_put (blk_put (blk_put BO.out 0 _ rfl) 1 _ rfl) 2 _ rfl)
        have HBX := Aside0.mk b3
        have BM := Aside0.mk m3
        have GL := Aside0.mk (blk_lt BG.out)
        clear b3 m3 BX BO hcz0 hcz1 hcz2 hfz0 hfz1 hfz2 hx0 hx1 hx2
        refine start_ (n := 9) (S := fun w' => w'.cell? (aX.add (X.length - 1)) = some (.slice Al (rd_L3 X ((X.length : Int) - 1)).length cl') ∧ w'.cell? ⟨gb, 0, none⟩ = some (.int .i64 (rd_T45 L i).f0) ∧ w'.cell? ⟨gb, 1, none⟩ = some (.int .i64 (rd_T45 L i).f1) ∧ w'.cell? ⟨gb, 2, none⟩ = some (.int .i64 (rd_T45 L i).f2)) (ds := []) #[false, false, false, false, false, false, false, false, false] (by kernel_rfl) rfl rfl ⟨(HBX.out.cell (World.block_lt_of_cell? wr _ HX4.out)).trans HX4.out, (blk_cell BM.out 0).trans rfl, (blk_cell BM.out 1).trans rfl, (blk_cell BM.out 2).trans rfl⟩ (fun hHeld => ?_)
        generalize World.drew _ = w4 at HBX BM hHeld ⊢
        refine pure_ (i := 0) (N := some 44) (v := ?_) (a' := ?_) #[true, false, false, false, false, false, false, false, false] rfl rfl (by kernel_rfl) (fun _ _ _ h => h) (Or.inl ⟨by rfl, ?_⟩) ?_ ?_
        rotate_left
        · intro w'
          go_simp
          with_reducible rfl
        rotate_left
        · simp only [Act.put, List.setIfInBounds_toArray, List.set_cons_zero, List.set_cons_succ, i64_w, i32_w]
          rfl
        refine pure_ (i := 1) (N := some 45) (v := ?_) (a' := ?_) #[true, true, false, false, false, false, false, false, false] rfl rfl (by kernel_rfl) (fun _ _ _ h => h) (Or.inl ⟨by rfl, ?_⟩) ?_ ?_
        rotate_left
        · intro w'
          go_simp
          with_reducible rfl
        rotate_left
        · simp only [Act.put, List.setIfInBounds_toArray, List.set_cons_zero, List.set_cons_succ, i64_w, i32_w]
          rfl
        refine pure_ (i := 2) (N := some 46) (v := ?_) (a' := ?_) #[true, true, true, false, false, false, false, false, false] rfl rfl (by kernel_rfl) (fun _ _ _ h => h) (Or.inl ⟨by rfl, ?_⟩) ?_ ?_
        rotate_left
        · intro w'
          go_simp
          with_reducible rfl
        rotate_left
        · simp only [Act.put, List.setIfInBounds_toArray, List.set_cons_zero, List.set_cons_succ, i64_w, i32_w]
          rfl
        refine pure_ (i := 3) (N := some 47) (v := ?_) (a' := ?_) #[true, true, true, true, false, false, false, false, false] rfl rfl (by kernel_rfl) (fun _ _ _ h => h) (Or.inl ⟨by rfl, ?_⟩) ?_ ?_
        rotate_left
        · intro w'
          go_simp
          with_reducible rfl
        rotate_left
        · simp only [Act.put, List.setIfInBounds_toArray, List.set_cons_zero, List.set_cons_succ, i64_w, i32_w]
          rfl
        refine pure_ (i := 4) (N := some 48) (v := ?_) (a' := ?_) #[true, true, true, true, true, false, false, false, false] rfl rfl (by kernel_rfl) (fun _ _ _ h => h) (Or.inl ⟨by rfl, ?_⟩) ?_ ?_
        rotate_left
        · intro w'
          go_simp
          with_reducible rfl
        rotate_left
        · simp only [Act.put, List.setIfInBounds_toArray, List.set_cons_zero, List.set_cons_succ, i64_w, i32_w]
          rfl
        refine take_ (i := 5) (N := some 49) (v := ?_) (a' := ?_) #[true, true, true, true, true, true, false, false, false] rfl rfl (by kernel_rfl) (fun _ _ _ h => h) (Or.inl ⟨by rfl, ?_⟩) hHeld ?_ ?_
        rotate_left
        · rintro w' ⟨s0, s1, s2, s3⟩
          go_simp
          with_reducible rfl
        rotate_left
        · simp only [Act.put, List.setIfInBounds_toArray, List.set_cons_zero, List.set_cons_succ, i64_w, i32_w]
          rfl
        refine take_ (i := 6) (N := some 50) (v := ?_) (a' := ?_) #[true, true, true, true, true, true, true, false, false] rfl rfl (by kernel_rfl) (fun _ _ _ h => h) (Or.inl ⟨by rfl, ?_⟩) hHeld ?_ ?_
        rotate_left
        · rintro w' ⟨s0, s1, s2, s3⟩
          go_simp
          with_reducible rfl
        rotate_left
        · simp only [Act.put, List.setIfInBounds_toArray, List.set_cons_zero, List.set_cons_succ, i64_w, i32_w]
          rfl
        refine one_ (i := 7) (N := some 51) #[true, true, true, true, true, true, true, true, false] rfl rfl (by kernel_rfl) (by decide) (fun K hK => ?_)
        refine goes_ Try.func72 (by kernel_rfl) rfl #[.slice Al (rd_L3 X ((X.length : Int) - 1)).length cl', .agg #[.int .i64 (rd_T45 L i).f0, .int .i64 (rd_T45 L i).f1, .int .i64 (rd_T45 L i).f2]] (by rfl) rfl rfl (by simp only [List.map_toArray, List.map_cons, List.map_nil]; rfl) ?_
        with_reducible refine (spec_moApply.calls k1 Al cl' (rd_L3 X ((X.length : Int) - 1)) (rd_T45 L i).f0 (rd_T45 L i).f1 (rd_T45 L i).f2 nx _ (Kd.C_below HIE.out HBX.out) HLE.out T1.out).mono ?_
        rintro e w5 ⟨v5, rfl, ho5, hb5⟩
        refine ⟨_, rfl, ?_⟩
        obtain ⟨A5, c5, rfl⟩ := Kd.R_slice ho5
        have HN := Aside0.mk (show (Kd.int .i64).R 3 w5 w4.heap.size (fun k_ => k_ ≠ gs) (.slice A5 nx.length c5) nx from Kd.R_mono (Kd.R_bound ho5) (fun k_ hk_ => Nat.ne_of_gt (Nat.lt_of_lt_of_le GL.out (Nat.le_trans HBX.out.size hk_.2.1))))
        have n0_ := Aside0.mk (blk_below BM.out hb5)
        have n1_ := Aside0.mk (below_step HBX.out hb5)
        have HWS := Aside0.mk HBX.out.size
        clear BM HBX ho5 hb5
        have BM := n0_
        have HBX := n1_
        clear n0_ n1_
        refine hK.out _ _ ⟨(HBX.out.cell (World.block_lt_of_cell? wr _ HX4.out)).trans HX4.out, (blk_cell BM.out 0).trans rfl, (blk_cell BM.out 1).trans rfl, (blk_cell BM.out 2).trans rfl⟩ (fun hHeld => ?_)
        clear hK K
        refine norm_ (a' := ?_) ?_ ?_
        rotate_left
        · show Act.put _ (some 51) _ = _
          simp only [Act.put, List.setIfInBounds_toArray, List.set_cons_zero, List.set_cons_succ, i64_w, i32_w]
          rfl
        refine pure_ (i := 8) (N := some 10) (v := ?_) (a' := ?_) #[true, true, true, true, true, true, true, true, true] rfl rfl (by kernel_rfl) (fun _ _ _ h => h) (Or.inl ⟨by rfl, ?_⟩) ?_ ?_
        rotate_left
        · intro w'
          go_simp
          with_reducible rfl
        rotate_left
        · simp only [Act.put, List.setIfInBounds_toArray, List.set_cons_zero, List.set_cons_succ, i64_w, i32_w]
          rfl
        refine done_ (by kernel_rfl) ?_

        have HXW := Aside0.mk (Kd.C_below HC1.out HBX.out)
        go_wp2_with fail
        refine (spec_raPlace.calls k1 _ cX X A5 c5 nx p _ HXW.out (Kd.R_reads' HX1.out).2.1 (Kd.R_reads' HN.out).2.2 (Kd.R_reads' HN.out).2.1 T2.out).mono ?_
        rintro e w6 ⟨rfl, hd6⟩
        have hb6 := Drawn0.below hd6
        have n0_ := Aside0.mk (Kd.R_below HN.out hb6)
        have B6 := Aside0.mk (below_step HBX.out hb6)
        clear HN HBX BM HXW hb6 hd6
        have HN := n0_
        clear n0_
        have BG6 := Aside0.mk (blk_below BG.out B6.out)
        have HQ := Aside0.mk (Kept.of_below B6.out (fun k_ => k_ = gs))
        have HB6 := Aside0.mk (HB.out.trans (B6.out.mono HB.out.size))
        have HN2 := Aside0.mk (Kd.R_lower HN.out (Nat.le_trans HB.out.size HWS.out))
        go_wp2_with (first | ((with_reducible refine gate_dst (N := 56) rfl ?_); refine Kd.R_lit (keptK (Kd.slice 3 (Kd.int .i64)) w6 (fun k_ => k_ = gs)) (w0 := w6) w6.heap.size 24 ?hg (N := 56) ?hd (xs := ([] : List (List Int))) (inner := []) (ok := fun _ => True) (okp := fun _ => False) ?hr ?hp (fun _ hk => hk.elim) trivial (Below.refl _ _) (Nat.le_refl _) (by simp) ?_; (case hd => rfl); (case hg => rfl); (case hr => first | (go_simp; done) | (go_simp; rfl)); (case hp => exact (Reps.none _ _)); intro v7 w7 ho hb hg hnew; have HO7 := Aside0.mk ho; have HB7 := Aside0.mk hb; clear ho hb hg hnew) | ((with_reducible refine gate_builtin (b := .append) (xs := #[.tmp 56, .tmp 57]) rfl ?_); at_builtin; refine Kd.R_append_rows (keptK (Kd.slice 3 (Kd.int .i64)) w6 (fun k_ => k_ = gs)) (Rr := fun x_ cs_ => ∀ W_, Kept w6 W_ (fun k_ => k_ = gs) → Kd.K (Kd.slice 3 (Kd.int .i64)) W_ x_ cs_) (w0 := w6) w6.heap.size rfl (.tmp 56) (.tmp 57) 50 24 (.slice none 0 0) 24 rfl Try.underlying50 info24 rfl (show 0 < 1 from Nat.one_pos) (by omega) v7 ([] : List (List Int)) X _ X.length cX (fun _ => True) (fun _ => False) rfl (by first | (go_simp; done) | (go_simp; rfl)) HO7.out ?rR (fun _ _ h_ => h_) (fun _ hk => hk.elim) (fun _ _ => trivial) HB7.out HB7.out.size ?rL ?_; (case rR => exact ReadsRow.imp_ (Kd.R_reads' (Kd.R_below (Kd.R_kept HX1.out HQ.out (fun k_ hk_ e_ => hk_ e_)) HB7.out)).2.2 (Below.refl _ _) (fun _ _ hp_ W_ hW_ => hp_ W_ ((HZ1.out.then_ HQ.out (fun _ h_ => .inl h_)).then_ hW_ (fun _ h_ => .inl h_)))); (case rL => have := CX.out; simp only [List.length_nil]; omega); intro v8 w8 ho8 hb8 hg8 hat8; rw [List.nil_append] at ho8; have HO8 := Aside0.mk ho8; have HB8 := Aside0.mk hb8; clear HO7 HB7 ho8 hb8 hg8 hat8) | ((with_reducible refine gate_builtin (b := .append) (xs := #[.tmp 58, .tmp 60]) rfl ?_); at_builtin; refine Kd.R_append (keptK (Kd.slice 3 (Kd.int .i64)) w6 (fun k_ => k_ = gs)) (w0 := w6) w6.heap.size rfl (.tmp 58) (.tmp 60) 50 24 (.slice none 0 0) 24 rfl Try.underlying50 info24 rfl (show 0 < 1 from Nat.one_pos) (by omega) v8 X nx [.slice A5 nx.length c5] (fun _ => True) (fun _ => False) rfl (by first | (go_simp; done) | (go_simp; rfl)) ?aP (fun _ hk => hk.elim) (fun _ _ => trivial) HO8.out HB8.out HB8.out.size ?aL ?_; (case aP => exact fun W_ hW_ => ⟨A5, c5, rfl, (Kd.R_reads' HN2.out).2.1, Kd.C_kept_own HN2.out (fun _ hk_ e_ => hk_ e_) W_ hW_⟩); (case aL => have := CX.out; omega); intro v9 w9 ho9 hb9 hg9 hat9; have HO9 := Aside0.mk ho9; have HB9 := Aside0.mk hb9; clear HO8 HB8 ho9 hb9 hg9 hat9) | ((with_reducible refine gate_callee (f := 83) rfl ?_); refine goesL_ (some 66) rfl rfl Try.func83 (by kernel_rfl) rfl #[.slice As st.length cs] rfl (by (try simp only [List.map_toArray, List.map_cons, List.map_nil]); first | done | rfl) ?_; (with_reducible refine (spec_l1Own.calls As cs st so _ ?o1 ?o2 T3.out).mono ?_); (case o1 => exact (Kd.R_reads' (Kd.R_below (Kd.R_kept HT1.out HQ.out (fun k_ hk_ e_ => hk_ e_)) HB9.out)).2.2); (case o2 => exact (Kd.R_reads' HT1.out).2.1); rintro e w10 ⟨v10, rfl, ho10, hb10⟩; refine ⟨_, rfl, ?_⟩; have HO10 := Aside0.mk (Kd.R_lower ho10 HB9.out.size); have n0_ := Aside0.mk (Kd.R_below HO9.out hb10); have HB10 := Aside0.mk (below_step HB9.out hb10); have n1_ := Aside0.mk (Kd.R_mono (Kd.R_bound HO9.out) (fun k_ hk_ => (⟨hk_.2.1, hk_.2.2.1⟩ : w6.heap.size ≤ k_ ∧ k_ < w9.heap.size))); have n2_ := Aside0.mk (Kd.R_below n1_.out hb10); have HSZ := Aside0.mk (Kd.R_base ho10); clear HO9 HB9 n1_ n0_ ho10 hb10; have HO9 := n2_; clear n2_) | ((with_reducible refine gate_builtin (b := .append) (xs := #[.tmp 66, .tmp 68]) rfl ?_); at_builtin; refine Kd.R_append (Kd.int .i64) (w0 := w6) w6.heap.size rfl (.tmp 66) (.tmp 68) 24 3 (.int .i64 0) 8 rfl Try.underlying24 info3 rfl (by decide) (by omega) v10 so i [.int .i64 i] (fun _ => True) (fun _ => False) rfl (by first | (go_simp; done) | (go_simp; rfl)) ?bP (fun _ hk => hk.elim) (fun _ _ => trivial) HO10.out HB10.out HB10.out.size ?bL ?_; (case bP => exact rfl); (case bL => have := CS.out; omega); intro v11 w11 ho11 hb11 hg11 hat11; have n0_ := Aside0.mk (Kd.R_grown HO9.out hg11 (fun k_ hk_ e_ => by have := HSZ.out k_ e_.symm; omega)); have HO11 := Aside0.mk ho11; have HB11 := Aside0.mk hb11; clear HO9 HO10 HB10 HSZ ho11 hb11 hg11 hat11; have HO9 := n0_; clear n0_))
        obtain ⟨A9, c9, e9⟩ := Kd.R_slice HO9.out
        obtain ⟨A11, c11, e11⟩ := Kd.R_slice HO11.out
        subst e9 e11
        have BG11 := Aside0.mk (blk_below BG6.out HB11.out)
        have HX11 := Aside0.mk (show (keptK (Kd.slice 3 (Kd.int .i64)) w6 (fun k_ => k_ = gs)).R 24 w11 w0.heap.size (fun k_ => k_ ≠ gs) (.slice A9 (X ++ [nx]).length c9) (X ++ [nx]) from Kd.R_mono (Kd.R_lower HO9.out HB6.out.size) (fun k_ hk_ => Nat.ne_of_gt (Nat.lt_of_lt_of_le (blk_lt BG6.out) hk_.1)))
        have HT11 := Aside0.mk (show (Kd.int .i64).R 3 w11 w0.heap.size (fun k_ => k_ ≠ gs) (.slice A11 (so ++ [i]).length c11) (so ++ [i]) from Kd.R_mono (Kd.R_lower (Kd.R_bound HO11.out) HB6.out.size) (fun k_ hk_ => Nat.ne_of_gt (Nat.lt_of_lt_of_le (blk_lt BG6.out) hk_.2.1)))
        refine (IH.out k1 (by have := HK1.out; omega) w0 gs _ cL L al lf' w6 A9 _ c9 (X ++ [nx]) A11 _ c11 (so ++ [i]) (o2, false, lf2) w11 HL.out HCL.out BG11.out HG.out (Kept.of_below HB11.out _) HX11.out HT11.out (HB6.out.trans (HB11.out.mono HB6.out.size)) T4.out).mono ?_
        rintro e w12 ⟨v12, rfl, hr12, hg12, hk12, hb12⟩
        have HR12 := Aside0.mk hr12
        have BG12 := Aside0.mk hg12
        have HK12 := Aside0.mk (HK.out.then_ ((HQ.out.below HB11.out).then_ hk12 (fun _ h_ => .inl h_)) (fun _ h_ => .inl h_))
        have HB12 := Aside0.mk hb12
        clear hr12 hg12 hk12 hb12
        have hy2 : w12.cell? ⟨gs, 2, none⟩ = some (.int .i64 lf2) := (blk_cell BG12.out 2).trans rfl
        go_wp2
        go_ret2
        first | exact ⟨_, rfl, Kd.R_nil _ _ _ _ _, BG12.out, HK12.out, HB12.out⟩ | exact ⟨rfl, _, Kd.R_nil _ _ _ _ _, BG12.out, HK12.out, HB12.out⟩
      rw [if_neg cz] at H
      have czb : decide (lf2 < 0) = false := decide_eq_false cz
      have H' := Aside0.mk H
      clear H
      go_wp2_with (first | ((with_reducible refine gate_dst (N := 9) rfl ?_); refine box_event ?hg (N := 9) ?hd (cs := #[.int .i64 0, .int .i64 0, .int .i64 0]) (t := 45) ?hr ?_; (case hd => rfl); (case hg => rfl); (case hr => first | (go_simp; done) | (go_simp; rfl)); intro gb hg w3 hbox hb; have BX := Aside0.mk hb; have GX := Aside0.mk (show wr.heap.size ≤ gb by rw [hg]; exact Nat.le_refl _); have BO := Aside0.mk hbox; have hcz0 : w3.cell? ⟨gb, 0, none⟩ = some (.int .i64 0) := (blk_cell hbox 0).trans rfl; have hcz1 : w3.cell? ⟨gb, 1, none⟩ = some (.int .i64 0) := (blk_cell hbox 1).trans rfl; have hcz2 : w3.cell? ⟨gb, 2, none⟩ = some (.int .i64 0) := (blk_cell hbox 2).trans rfl; have hfz0 := blk_frozen hbox 0; have hfz1 := blk_frozen hbox 1; have hfz2 := blk_frozen hbox 2; clear hb hbox hg))
      have b3 : Below wr.heap.size wr ((((w3.setCell ⟨gb, 0, none⟩ (.int .i64 (rd_T45 L i).f0)).setCell ⟨gb, 1, none⟩ (.int .i64 (rd_T45 L i).f1)).setCell ⟨gb, 2, none⟩ (.int .i64 (rd_T45 L i).f2)).drew) := below_drew1 (below_set (below_set (below_set BX.out GX.out) GX.out) GX.out)
      have m3 : ((((w3.setCell ⟨gb, 0, none⟩ (.int .i64 (rd_T45 L i).f0)).setCell ⟨gb, 1, none⟩ (.int .i64 (rd_T45 L i).f1)).setCell ⟨gb, 2, none⟩ (.int .i64 (rd_T45 L i).f2)).drew).heap[gb]? = some (.cells #[.int .i64 (rd_T45 L i).f0, .int .i64 (rd_T45 L i).f1, .int .i64 (rd_T45 L i).f2] 45 (0, 0)) := blk_drew (blk_put (blk_put (blk_put BO.out 0 _ rfl) 1 _ rfl) 2 _ rfl)
      have HBX := Aside0.mk b3
      have BM := Aside0.mk m3
      have GL := Aside0.mk (blk_lt BG.out)
      clear b3 m3 BX BO hcz0 hcz1 hcz2 hfz0 hfz1 hfz2 hx0 hx1 hx2
      refine start_ (n := 9) (S := fun w' => w'.cell? (aX.add (X.length - 1)) = some (.slice Al (rd_L3 X ((X.length : Int) - 1)).length cl') ∧ w'.cell? ⟨gb, 0, none⟩ = some (.int .i64 (rd_T45 L i).f0) ∧ w'.cell? ⟨gb, 1, none⟩ = some (.int .i64 (rd_T45 L i).f1) ∧ w'.cell? ⟨gb, 2, none⟩ = some (.int .i64 (rd_T45 L i).f2)) (ds := []) #[false, false, false, false, false, false, false, false, false] (by kernel_rfl) rfl rfl ⟨(HBX.out.cell (World.block_lt_of_cell? wr _ HX4.out)).trans HX4.out, (blk_cell BM.out 0).trans rfl, (blk_cell BM.out 1).trans rfl, (blk_cell BM.out 2).trans rfl⟩ (fun hHeld => ?_)
      generalize World.drew _ = w4 at HBX BM hHeld ⊢
      refine pure_ (i := 0) (N := some 44) (v := ?_) (a' := ?_) #[true, false, false, false, false, false, false, false, false] rfl rfl (by kernel_rfl) (fun _ _ _ h => h) (Or.inl ⟨by rfl, ?_⟩) ?_ ?_
      rotate_left
      · intro w'
        go_simp
        with_reducible rfl
      rotate_left
      · simp only [Act.put, List.setIfInBounds_toArray, List.set_cons_zero, List.set_cons_succ, i64_w, i32_w]
        rfl
      refine pure_ (i := 1) (N := some 45) (v := ?_) (a' := ?_) #[true, true, false, false, false, false, false, false, false] rfl rfl (by kernel_rfl) (fun _ _ _ h => h) (Or.inl ⟨by rfl, ?_⟩) ?_ ?_
      rotate_left
      · intro w'
        go_simp
        with_reducible rfl
      rotate_left
      · simp only [Act.put, List.setIfInBounds_toArray, List.set_cons_zero, List.set_cons_succ, i64_w, i32_w]
        rfl
      refine pure_ (i := 2) (N := some 46) (v := ?_) (a' := ?_) #[true, true, true, false, false, false, false, false, false] rfl rfl (by kernel_rfl) (fun _ _ _ h => h) (Or.inl ⟨by rfl, ?_⟩) ?_ ?_
      rotate_left
      · intro w'
        go_simp
        with_reducible rfl
      rotate_left
      · simp only [Act.put, List.setIfInBounds_toArray, List.set_cons_zero, List.set_cons_succ, i64_w, i32_w]
        rfl
      refine pure_ (i := 3) (N := some 47) (v := ?_) (a' := ?_) #[true, true, true, true, false, false, false, false, false] rfl rfl (by kernel_rfl) (fun _ _ _ h => h) (Or.inl ⟨by rfl, ?_⟩) ?_ ?_
      rotate_left
      · intro w'
        go_simp
        with_reducible rfl
      rotate_left
      · simp only [Act.put, List.setIfInBounds_toArray, List.set_cons_zero, List.set_cons_succ, i64_w, i32_w]
        rfl
      refine pure_ (i := 4) (N := some 48) (v := ?_) (a' := ?_) #[true, true, true, true, true, false, false, false, false] rfl rfl (by kernel_rfl) (fun _ _ _ h => h) (Or.inl ⟨by rfl, ?_⟩) ?_ ?_
      rotate_left
      · intro w'
        go_simp
        with_reducible rfl
      rotate_left
      · simp only [Act.put, List.setIfInBounds_toArray, List.set_cons_zero, List.set_cons_succ, i64_w, i32_w]
        rfl
      refine take_ (i := 5) (N := some 49) (v := ?_) (a' := ?_) #[true, true, true, true, true, true, false, false, false] rfl rfl (by kernel_rfl) (fun _ _ _ h => h) (Or.inl ⟨by rfl, ?_⟩) hHeld ?_ ?_
      rotate_left
      · rintro w' ⟨s0, s1, s2, s3⟩
        go_simp
        with_reducible rfl
      rotate_left
      · simp only [Act.put, List.setIfInBounds_toArray, List.set_cons_zero, List.set_cons_succ, i64_w, i32_w]
        rfl
      refine take_ (i := 6) (N := some 50) (v := ?_) (a' := ?_) #[true, true, true, true, true, true, true, false, false] rfl rfl (by kernel_rfl) (fun _ _ _ h => h) (Or.inl ⟨by rfl, ?_⟩) hHeld ?_ ?_
      rotate_left
      · rintro w' ⟨s0, s1, s2, s3⟩
        go_simp
        with_reducible rfl
      rotate_left
      · simp only [Act.put, List.setIfInBounds_toArray, List.set_cons_zero, List.set_cons_succ, i64_w, i32_w]
        rfl
      refine one_ (i := 7) (N := some 51) #[true, true, true, true, true, true, true, true, false] rfl rfl (by kernel_rfl) (by decide) (fun K hK => ?_)
      refine goes_ Try.func72 (by kernel_rfl) rfl #[.slice Al (rd_L3 X ((X.length : Int) - 1)).length cl', .agg #[.int .i64 (rd_T45 L i).f0, .int .i64 (rd_T45 L i).f1, .int .i64 (rd_T45 L i).f2]] (by rfl) rfl rfl (by simp only [List.map_toArray, List.map_cons, List.map_nil]; rfl) ?_
      with_reducible refine (spec_moApply.calls k1 Al cl' (rd_L3 X ((X.length : Int) - 1)) (rd_T45 L i).f0 (rd_T45 L i).f1 (rd_T45 L i).f2 nx _ (Kd.C_below HIE.out HBX.out) HLE.out T1.out).mono ?_
      rintro e w5 ⟨v5, rfl, ho5, hb5⟩
      refine ⟨_, rfl, ?_⟩
      obtain ⟨A5, c5, rfl⟩ := Kd.R_slice ho5
      have HN := Aside0.mk (show (Kd.int .i64).R 3 w5 w4.heap.size (fun k_ => k_ ≠ gs) (.slice A5 nx.length c5) nx from Kd.R_mono (Kd.R_bound ho5) (fun k_ hk_ => Nat.ne_of_gt (Nat.lt_of_lt_of_le GL.out (Nat.le_trans HBX.out.size hk_.2.1))))
      have n0_ := Aside0.mk (blk_below BM.out hb5)
      have n1_ := Aside0.mk (below_step HBX.out hb5)
      have HWS := Aside0.mk HBX.out.size
      clear BM HBX ho5 hb5
      have BM := n0_
      have HBX := n1_
      clear n0_ n1_
      refine hK.out _ _ ⟨(HBX.out.cell (World.block_lt_of_cell? wr _ HX4.out)).trans HX4.out, (blk_cell BM.out 0).trans rfl, (blk_cell BM.out 1).trans rfl, (blk_cell BM.out 2).trans rfl⟩ (fun hHeld => ?_)
      clear hK K
      refine norm_ (a' := ?_) ?_ ?_
      rotate_left
      · show Act.put _ (some 51) _ = _
        simp only [Act.put, List.setIfInBounds_toArray, List.set_cons_zero, List.set_cons_succ, i64_w, i32_w]
        rfl
      refine pure_ (i := 8) (N := some 10) (v := ?_) (a' := ?_) #[true, true, true, true, true, true, true, true, true] rfl rfl (by kernel_rfl) (fun _ _ _ h => h) (Or.inl ⟨by rfl, ?_⟩) ?_ ?_
      rotate_left
      · intro w'
        go_simp
        with_reducible rfl
      rotate_left
      · simp only [Act.put, List.setIfInBounds_toArray, List.set_cons_zero, List.set_cons_succ, i64_w, i32_w]
        rfl
      refine done_ (by kernel_rfl) ?_

      have HXW := Aside0.mk (Kd.C_below HC1.out HBX.out)
      go_wp2_with fail
      refine (spec_raPlace.calls k1 _ cX X A5 c5 nx p _ HXW.out (Kd.R_reads' HX1.out).2.1 (Kd.R_reads' HN.out).2.2 (Kd.R_reads' HN.out).2.1 T2.out).mono ?_
      rintro e w6 ⟨rfl, hd6⟩
      have hb6 := Drawn0.below hd6
      have n0_ := Aside0.mk (Kd.R_below HN.out hb6)
      have B6 := Aside0.mk (below_step HBX.out hb6)
      clear HN HBX BM HXW hb6 hd6
      have HN := n0_
      clear n0_
      have BG6 := Aside0.mk (blk_below BG.out B6.out)
      have HQ := Aside0.mk (Kept.of_below B6.out (fun k_ => k_ = gs))
      have HB6 := Aside0.mk (HB.out.trans (B6.out.mono HB.out.size))
      have HN2 := Aside0.mk (Kd.R_lower HN.out (Nat.le_trans HB.out.size HWS.out))
      go_wp2_with (first | ((with_reducible refine gate_dst (N := 56) rfl ?_); refine Kd.R_lit (keptK (Kd.slice 3 (Kd.int .i64)) w6 (fun k_ => k_ = gs)) (w0 := w6) w6.heap.size 24 ?hg (N := 56) ?hd (xs := ([] : List (List Int))) (inner := []) (ok := fun _ => True) (okp := fun _ => False) ?hr ?hp (fun _ hk => hk.elim) trivial (Below.refl _ _) (Nat.le_refl _) (by simp) ?_; (case hd => rfl); (case hg => rfl); (case hr => first | (go_simp; done) | (go_simp; rfl)); (case hp => exact (Reps.none _ _)); intro v7 w7 ho hb hg hnew; have HO7 := Aside0.mk ho; have HB7 := Aside0.mk hb; clear ho hb hg hnew) | ((with_reducible refine gate_builtin (b := .append) (xs := #[.tmp 56, .tmp 57]) rfl ?_); at_builtin; refine Kd.R_append_rows (keptK (Kd.slice 3 (Kd.int .i64)) w6 (fun k_ => k_ = gs)) (Rr := fun x_ cs_ => ∀ W_, Kept w6 W_ (fun k_ => k_ = gs) → Kd.K (Kd.slice 3 (Kd.int .i64)) W_ x_ cs_) (w0 := w6) w6.heap.size rfl (.tmp 56) (.tmp 57) 50 24 (.slice none 0 0) 24 rfl Try.underlying50 info24 rfl (show 0 < 1 from Nat.one_pos) (by omega) v7 ([] : List (List Int)) X _ X.length cX (fun _ => True) (fun _ => False) rfl (by first | (go_simp; done) | (go_simp; rfl)) HO7.out ?rR (fun _ _ h_ => h_) (fun _ hk => hk.elim) (fun _ _ => trivial) HB7.out HB7.out.size ?rL ?_; (case rR => exact ReadsRow.imp_ (Kd.R_reads' (Kd.R_below (Kd.R_kept HX1.out HQ.out (fun k_ hk_ e_ => hk_ e_)) HB7.out)).2.2 (Below.refl _ _) (fun _ _ hp_ W_ hW_ => hp_ W_ ((HZ1.out.then_ HQ.out (fun _ h_ => .inl h_)).then_ hW_ (fun _ h_ => .inl h_)))); (case rL => have := CX.out; simp only [List.length_nil]; omega); intro v8 w8 ho8 hb8 hg8 hat8; rw [List.nil_append] at ho8; have HO8 := Aside0.mk ho8; have HB8 := Aside0.mk hb8; clear HO7 HB7 ho8 hb8 hg8 hat8) | ((with_reducible refine gate_builtin (b := .append) (xs := #[.tmp 58, .tmp 60]) rfl ?_); at_builtin; refine Kd.R_append (keptK (Kd.slice 3 (Kd.int .i64)) w6 (fun k_ => k_ = gs)) (w0 := w6) w6.heap.size rfl (.tmp 58) (.tmp 60) 50 24 (.slice none 0 0) 24 rfl Try.underlying50 info24 rfl (show 0 < 1 from Nat.one_pos) (by omega) v8 X nx [.slice A5 nx.length c5] (fun _ => True) (fun _ => False) rfl (by first | (go_simp; done) | (go_simp; rfl)) ?aP (fun _ hk => hk.elim) (fun _ _ => trivial) HO8.out HB8.out HB8.out.size ?aL ?_; (case aP => exact fun W_ hW_ => ⟨A5, c5, rfl, (Kd.R_reads' HN2.out).2.1, Kd.C_kept_own HN2.out (fun _ hk_ e_ => hk_ e_) W_ hW_⟩); (case aL => have := CX.out; omega); intro v9 w9 ho9 hb9 hg9 hat9; have HO9 := Aside0.mk ho9; have HB9 := Aside0.mk hb9; clear HO8 HB8 ho9 hb9 hg9 hat9) | ((with_reducible refine gate_callee (f := 83) rfl ?_); refine goesL_ (some 66) rfl rfl Try.func83 (by kernel_rfl) rfl #[.slice As st.length cs] rfl (by (try simp only [List.map_toArray, List.map_cons, List.map_nil]); first | done | rfl) ?_; (with_reducible refine (spec_l1Own.calls As cs st so _ ?o1 ?o2 T3.out).mono ?_); (case o1 => exact (Kd.R_reads' (Kd.R_below (Kd.R_kept HT1.out HQ.out (fun k_ hk_ e_ => hk_ e_)) HB9.out)).2.2); (case o2 => exact (Kd.R_reads' HT1.out).2.1); rintro e w10 ⟨v10, rfl, ho10, hb10⟩; refine ⟨_, rfl, ?_⟩; have HO10 := Aside0.mk (Kd.R_lower ho10 HB9.out.size); have n0_ := Aside0.mk (Kd.R_below HO9.out hb10); have HB10 := Aside0.mk (below_step HB9.out hb10); have n1_ := Aside0.mk (Kd.R_mono (Kd.R_bound HO9.out) (fun k_ hk_ => (⟨hk_.2.1, hk_.2.2.1⟩ : w6.heap.size ≤ k_ ∧ k_ < w9.heap.size))); have n2_ := Aside0.mk (Kd.R_below n1_.out hb10); have HSZ := Aside0.mk (Kd.R_base ho10); clear HO9 HB9 n1_ n0_ ho10 hb10; have HO9 := n2_; clear n2_) | ((with_reducible refine gate_builtin (b := .append) (xs := #[.tmp 66, .tmp 68]) rfl ?_); at_builtin; refine Kd.R_append (Kd.int .i64) (w0 := w6) w6.heap.size rfl (.tmp 66) (.tmp 68) 24 3 (.int .i64 0) 8 rfl Try.underlying24 info3 rfl (by decide) (by omega) v10 so i [.int .i64 i] (fun _ => True) (fun _ => False) rfl (by first | (go_simp; done) | (go_simp; rfl)) ?bP (fun _ hk => hk.elim) (fun _ _ => trivial) HO10.out HB10.out HB10.out.size ?bL ?_; (case bP => exact rfl); (case bL => have := CS.out; omega); intro v11 w11 ho11 hb11 hg11 hat11; have n0_ := Aside0.mk (Kd.R_grown HO9.out hg11 (fun k_ hk_ e_ => by have := HSZ.out k_ e_.symm; omega)); have HO11 := Aside0.mk ho11; have HB11 := Aside0.mk hb11; clear HO9 HO10 HB10 HSZ ho11 hb11 hg11 hat11; have HO9 := n0_; clear n0_))
      obtain ⟨A9, c9, e9⟩ := Kd.R_slice HO9.out
      obtain ⟨A11, c11, e11⟩ := Kd.R_slice HO11.out
      subst e9 e11
      have BG11 := Aside0.mk (blk_below BG6.out HB11.out)
      have HX11 := Aside0.mk (show (keptK (Kd.slice 3 (Kd.int .i64)) w6 (fun k_ => k_ = gs)).R 24 w11 w0.heap.size (fun k_ => k_ ≠ gs) (.slice A9 (X ++ [nx]).length c9) (X ++ [nx]) from Kd.R_mono (Kd.R_lower HO9.out HB6.out.size) (fun k_ hk_ => Nat.ne_of_gt (Nat.lt_of_lt_of_le (blk_lt BG6.out) hk_.1)))
      have HT11 := Aside0.mk (show (Kd.int .i64).R 3 w11 w0.heap.size (fun k_ => k_ ≠ gs) (.slice A11 (so ++ [i]).length c11) (so ++ [i]) from Kd.R_mono (Kd.R_lower (Kd.R_bound HO11.out) HB6.out.size) (fun k_ hk_ => Nat.ne_of_gt (Nat.lt_of_lt_of_le (blk_lt BG6.out) hk_.2.1)))
      refine (IH.out k1 (by have := HK1.out; omega) w0 gs _ cL L al lf' w6 A9 _ c9 (X ++ [nx]) A11 _ c11 (so ++ [i]) (o2, false, lf2) w11 HL.out HCL.out BG11.out HG.out (Kept.of_below HB11.out _) HX11.out HT11.out (HB6.out.trans (HB11.out.mono HB6.out.size)) T4.out).mono ?_
      rintro e w12 ⟨v12, rfl, hr12, hg12, hk12, hb12⟩
      have HR12 := Aside0.mk hr12
      have BG12 := Aside0.mk hg12
      have HK12 := Aside0.mk (HK.out.then_ ((HQ.out.below HB11.out).then_ hk12 (fun _ h_ => .inl h_)) (fun _ h_ => .inl h_))
      have HB12 := Aside0.mk hb12
      clear hr12 hg12 hk12 hb12
      have hy2 : w12.cell? ⟨gs, 2, none⟩ = some (.int .i64 lf2) := (blk_cell BG12.out 2).trans rfl
      go_wp2
      go_roundg k1
      case measure => have := HK1.out; omega
      case rel => exact ⟨wrap64 (i + 1), lf2, rfl, H', ⟨by have := HK1.out; omega⟩, BG12, HK12, HB12⟩
open Go.Proofs.Ytllhnnjkonghlaa.FpW in
set_option maxHeartbeats 8000000 in
set_option maxRecDepth 100000 in
theorem spec_FirstPath.calls (k : Nat) (a0 : Int) (A1 : Option Addr) (c1 : Nat) (l1 : List (S45)) (a2 : Int) (r1 : List Int) (r2 : Bool) (w : World) (hr1 : Kd.C k45 w A1 l1.length l1) (hc1 : l1.length ≤ c1) (h : spec_FirstPath.f k a0 l1 a2 = some (r1, r2)) :
    Calls Try.prog 7 #[.int .i64 a0, .slice A1 l1.length c1, .int .i64 a2] w fun e w' => ∃ v0_ : Value, e = .returned (.tuple #[v0_, .bool r2]) ∧ Kd.R (Kd.int .i64) 3 w' w.heap.size (fun _ => True) v0_ r1 ∧ Below w.heap.size w w' := by
  have HR1 := Aside0.mk hr1
  have HC1 := Aside0.mk hc1
  unfold spec_FirstPath.f at h
  obtain ⟨t1, h1, H⟩ := Option.bind_eq_some_iff.mp h
  have T1 := Aside0.mk h1
  clear h h1 hr1 hc1
  cases t1
  · simp only [Bool.false_eq_true, if_false, Option.some.injEq, Prod.mk.injEq] at H
    obtain ⟨rfl, rfl⟩ := H
    go_enter Try.func7, Try.ntmps7
    go_wp2_with fail
    refine (spec_moTask.calls k a0 A1 c1 l1 false _ HR1.out HC1.out T1.out).mono ?_
    rintro e w1 ⟨rfl, hb1⟩
    have HB := Aside0.mk hb1
    clear hb1
    go_wp2
    go_ret2
    exact ⟨_, rfl, Kd.R_nil _ _ _ _ _, HB.out⟩
  simp only [if_true] at H
  by_cases cg : 4 < a0
  · rw [if_pos cg] at H
    simp only [Option.some.injEq, Prod.mk.injEq] at H
    obtain ⟨rfl, rfl⟩ := H
    have cgb : decide (4 < a0) = true := decide_eq_true cg
    go_enter Try.func7, Try.ntmps7
    go_wp2_with fail
    refine (spec_moTask.calls k a0 A1 c1 l1 true _ HR1.out HC1.out T1.out).mono ?_
    rintro e w1 ⟨rfl, hb1⟩
    have HB := Aside0.mk hb1
    clear hb1
    go_wp2
    go_ret2
    exact ⟨_, rfl, Kd.R_nil _ _ _ _ _, HB.out⟩
  rw [if_neg cg] at H
  have cgb : decide (4 < a0) = false := decide_eq_false cg
  replace H := Option.bind_eq_some_iff.mp H
  obtain ⟨t2, h2, H⟩ := H
  have T2 := Aside0.mk h2
  clear h2
  cases t2
  · simp only [Bool.false_eq_true, if_false, Option.some.injEq, Prod.mk.injEq] at H
    obtain ⟨rfl, rfl⟩ := H
    go_enter Try.func7, Try.ntmps7
    go_wp2_with fail
    refine (spec_moTask.calls k a0 A1 c1 l1 true _ HR1.out HC1.out T1.out).mono ?_
    rintro e w1 ⟨rfl, hb1⟩
    have HB := Aside0.mk hb1
    clear hb1
    go_wp2_with fail
    refine (spec_l1In.calls a2 1 4000 false _ T2.out).mono ?_
    rintro e w2 ⟨rfl, hd2⟩
    have hb2 := Drawn0.below hd2
    have n0_ := Aside0.mk (below_step HB.out hb2)
    clear HB hb2 hd2
    have HB := n0_
    clear n0_
    go_wp2
    go_ret2
    exact ⟨_, rfl, Kd.R_nil _ _ _ _ _, HB.out⟩
  simp only [if_true] at H
  replace H := Option.bind_eq_some_iff.mp H
  obtain ⟨al, h3, H⟩ := H
  replace H := Option.bind_eq_some_iff.mp H
  obtain ⟨s, h4, H⟩ := H
  replace H := Option.bind_eq_some_iff.mp H
  obtain ⟨⟨o2, ok2, lf2⟩, h5, H⟩ := H
  simp only [Option.some.injEq, Prod.mk.injEq] at H
  obtain ⟨rfl, rfl⟩ := H
  have T3 := Aside0.mk h3
  have T4 := Aside0.mk h4
  have T5 := Aside0.mk h5
  clear h3 h4 h5
  go_enter Try.func7, Try.ntmps7
  go_wp2_with fail
  refine (spec_moTask.calls k a0 A1 c1 l1 true _ HR1.out HC1.out T1.out).mono ?_
  rintro e w1 ⟨rfl, hb1⟩
  have HB := Aside0.mk hb1
  clear hb1
  go_wp2_with fail
  refine (spec_l1In.calls a2 1 4000 true _ T2.out).mono ?_
  rintro e w2 ⟨rfl, hd2⟩
  have hb2 := Drawn0.below hd2
  have n0_ := Aside0.mk (below_step HB.out hb2)
  clear HB hb2 hd2
  have HB := n0_
  clear n0_
  go_wp2_with fail
  refine (spec_raFactorial.calls k a0 al _ T3.out).mono ?_
  rintro e w3 ⟨rfl, hd3⟩
  have hb3 := Drawn0.below hd3
  have n0_ := Aside0.mk (below_step HB.out hb3)
  clear HB hb3 hd3
  have HB := n0_
  clear n0_
  go_wp2_with (first | ((with_reducible refine gate_dst (N := 27) rfl ?_); refine box_event ?hg (N := 27) ?hd (cs := #[.slice A1 l1.length c1, .int .i64 al, .int .i64 a2]) (t := 68) ?hr ?_; (case hd => rfl); (case hg => rfl); (case hr => first | (go_simp; done) | (go_simp; rfl)); intro gs hg w4 hbox hb; have BG := Aside0.mk hbox; have GG := Aside0.mk (show w.heap.size ≤ gs by rw [hg]; exact HB.out.size); have HB4 := Aside0.mk (below_step HB.out hb); clear HB hb hbox hg) | ((with_reducible refine gate_callee (f := 45) rfl ?_); refine goesL_ (some 30) rfl rfl Try.func45 (by kernel_rfl) rfl #[.int .i64 a0] rfl (by (try simp only [List.map_toArray, List.map_cons, List.map_nil]); first | done | rfl) ?_; (with_reducible refine (spec_raUpTo.calls k a0 s _ T4.out).mono ?_); rintro e w5 ⟨v5, rfl, ho5, hb5⟩; refine ⟨_, rfl, ?_⟩; obtain ⟨Af, cf, ef⟩ := Kd.R_slice ho5; subst ef; have HF := Aside0.mk (show (Kd.int .i64).R 3 w5 w4.heap.size (fun k_ => k_ ≠ gs) (.slice Af s.length cf) s from Kd.R_mono (Kd.R_bound ho5) (fun k_ hk_ => Nat.ne_of_gt (Nat.lt_of_lt_of_le (blk_lt BG.out) hk_.2.1))); have n0_ := Aside0.mk (blk_below BG.out hb5); have HB5 := Aside0.mk (below_step HB4.out hb5); clear BG HB4 ho5 hb5; have BG := n0_; clear n0_) | ((with_reducible refine gate_dst (N := 31) rfl ?_); refine Kd.R_lit (keptK (Kd.slice 3 (Kd.int .i64)) w5 (fun k_ => k_ = gs)) (w0 := w5) w5.heap.size 24 ?hg (N := 31) ?hd (xs := [s]) (inner := [.slice Af s.length cf]) (ok := fun _ => True) (okp := fun _ => False) ?hr ?hp (fun _ hk => hk.elim) trivial (Below.refl _ _) (Nat.le_refl _) (by simp) ?_; (case hd => rfl); (case hg => rfl); (case hr => first | (go_simp; done) | (go_simp; rfl)); (case hp => exact (Reps.one (show Kd.M (keptK (Kd.slice 3 (Kd.int .i64)) w5 (fun k_ => k_ = gs)) _ _ _ s [.slice Af s.length cf] from fun W_ hW_ => ⟨Af, cf, rfl, (Kd.R_reads' HF.out).2.1, Kd.C_kept_own HF.out (fun _ hk_ e_ => hk_ e_) W_ hW_⟩) (Reps.none _ _))); intro v6 w6 ho hb hg hnew; obtain ⟨A6, c6, e6⟩ := Kd.R_slice ho; rw [show [s].length = 1 from rfl] at e6; subst e6; have HO6 := Aside0.mk ho; have HB6 := Aside0.mk hb; clear ho hb hg hnew))
  refine (spec_FirstPath.find k w gs A1 c1 l1 al a2 w5 A6 _ c6 [s] none 0 0 [] (o2, ok2, lf2) w6 HR1.out HC1.out (blk_below BG.out HB6.out) GG.out (Kept.of_below HB6.out _) (Kd.R_mono (Kd.R_lower (Kd.R_bound HO6.out) HB5.out.size) (fun k_ hk_ => Nat.ne_of_gt (Nat.lt_of_lt_of_le (blk_lt BG.out) hk_.2.1))) (Kd.R_nil _ _ _ _ _) (HB5.out.trans (HB6.out.mono HB5.out.size)) T5.out).mono ?_
  rintro e w7 ⟨v7, rfl, hr7, hg7, hk7, hb7⟩
  have HR7 := Aside0.mk hr7
  have HB7 := Aside0.mk hb7
  clear hr7 hg7 hk7 hb7
  go_wp2
  go_ret2
  exact ⟨_, rfl, HR7.out, HB7.out⟩

/-! ### laws_toMove: function 46 -/
def laws_toMove.f (a0_0 : Int) (a0_1 : Int) (a0_2 : Int) : Option (Int × Int × Int) := some (a0_0, a0_1, a0_2)
set_option maxHeartbeats 8000000 in
set_option maxRecDepth 100000 in
theorem laws_toMove.calls (a0_0 : Int) (a0_1 : Int) (a0_2 : Int) (r1 : Int) (r2 : Int) (r3 : Int) (w : World) (h : laws_toMove.f a0_0 a0_1 a0_2 = some (r1, r2, r3)) :
    Calls Try.prog 46 #[.agg #[.int .i64 a0_0, .int .i64 a0_1, .int .i64 a0_2]] w fun e w' => e = .returned (.agg #[.int .i64 r1, .int .i64 r2, .int .i64 r3]) ∧ Below w.heap.size w w' := by
  have hu72 := Try.underlying72
  have hu45 := Try.underlying45
  have HB := Aside0.mk (Below.refl w.heap.size w)
  have H : (some (a0_0, a0_1, a0_2)) = some (r1, r2, r3) := h
  clear h
  simp only [Option.some.injEq, Prod.mk.injEq] at H
  obtain ⟨rfl, rfl, rfl⟩ := H
  go_enter Try.func46, Try.ntmps46
  go_wp2_with (first | ((with_reducible refine gate_dst (N := 1) rfl ?_); refine box_event ?hg (N := 1) ?hd (cs := #[.int .i64 a0_0, .int .i64 a0_1, .int .i64 a0_2]) (t := 72) ?hr ?_; (case hd => rfl); (case hg => rfl); (case hr => first | (go_simp; done) | (go_simp; rfl)); intro gb136 hg w2 hbox hb; have n0_ := Aside0.mk (below_step (by repeat (first | (with_reducible first | exact HB.out | apply below_alloc | apply pw_below_drewN | apply below_drew1) | exact HB.out)) hb); have n1_ := Aside0.mk (hbox); have n2_ := Aside0.mk ((by rw [hg]; exact (below_size (by repeat (first | (with_reducible first | exact HB.out | apply below_alloc | apply pw_below_drewN | apply below_drew1) | exact HB.out))) : w.heap.size ≤ gb136)); have n3_ := Aside0.mk ((by rw [hg]; exact (below_size (by repeat (first | (with_reducible first | exact HB.out | apply below_alloc | apply pw_below_drewN | apply below_drew1) | exact HB.out))) : w.heap.size ≤ gb136)); clear HB; have HB := n0_; have BK136 := n1_; have GW136 := n2_; have GE136 := n3_; clear n0_ n1_ n2_ n3_; clear hb hbox hg) | ((with_reducible refine gate_dst (N := 2) rfl ?_); refine box_event ?hg (N := 2) ?hd (cs := #[.int .i64 0, .int .i64 0, .int .i64 0]) (t := 45) ?hr ?_; (case hd => rfl); (case hg => rfl); (case hr => first | (go_simp; done) | (go_simp; rfl)); intro gb137 hg w3 hbox hb; have n0_ := Aside0.mk (blk_below (g := gb136) (o := .cells #[.int .i64 a0_0, .int .i64 a0_1, .int .i64 a0_2] 72 (0, 0)) (by (with_reducible repeat (first | refine blk_drewN ?_ _ | refine blk_drew ?_ | refine blk_alloc ?_ _)); exact BK136.out) hb); have n1_ := Aside0.mk (below_step (by repeat (first | (with_reducible first | exact HB.out | apply below_alloc | apply pw_below_drewN | apply below_drew1 | refine below_set ?_ GE136.out) | exact HB.out)) hb); have n2_ := Aside0.mk (hbox); have n3_ := Aside0.mk ((by rw [hg]; exact (below_size (by repeat (first | (with_reducible first | exact HB.out | apply below_alloc | apply pw_below_drewN | apply below_drew1 | refine below_set ?_ GE136.out) | exact HB.out))) : w.heap.size ≤ gb137)); have n4_ := Aside0.mk ((by rw [hg]; exact (below_size (by repeat (first | (with_reducible first | exact HB.out | apply below_alloc | apply pw_below_drewN | apply below_drew1 | refine below_set ?_ GE136.out) | exact HB.out))) : w.heap.size ≤ gb137)); have n5_ := Aside0.mk ((by rw [hg]; exact Nat.ne_of_lt (blk_lt (g := gb136) (o := .cells #[.int .i64 a0_0, .int .i64 a0_1, .int .i64 a0_2] 72 (0, 0)) (by (with_reducible repeat (first | refine blk_drewN ?_ _ | refine blk_drew ?_ | refine blk_alloc ?_ _)); exact BK136.out)) : gb136 ≠ gb137)); have n6_ := Aside0.mk ((by rw [hg]; exact Nat.ne_of_gt (blk_lt (g := gb136) (o := .cells #[.int .i64 a0_0, .int .i64 a0_1, .int .i64 a0_2] 72 (0, 0)) (by (with_reducible repeat (first | refine blk_drewN ?_ _ | refine blk_drew ?_ | refine blk_alloc ?_ _)); exact BK136.out)) : gb137 ≠ gb136)); clear BK136; clear HB; have BK136 := n0_; have HB := n1_; have BK137 := n2_; have GW137 := n3_; have GE137 := n4_; have NB136_137 := n5_; have NB137_136 := n6_; clear n0_ n1_ n2_ n3_ n4_ n5_ n6_; clear hb hbox hg) | ((with_reducible refine gate_dst (N := 3) rfl ?_); refine box_event ?hg (N := 3) ?hd (cs := #[.int .i64 0, .int .i64 0, .int .i64 0]) (t := 45) ?hr ?_; (case hd => rfl); (case hg => rfl); (case hr => first | (go_simp; done) | (go_simp; rfl)); intro gb138 hg w4 hbox hb; have n0_ := Aside0.mk (blk_below (g := gb136) (o := .cells #[.int .i64 a0_0, .int .i64 a0_1, .int .i64 a0_2] 72 (0, 0)) (by (with_reducible repeat (first | refine blk_drewN ?_ _ | refine blk_drew ?_ | refine blk_alloc ?_ _)); exact BK136.out) hb); have n1_ := Aside0.mk (blk_below (g := gb137) (o := .cells #[.int .i64 0, .int .i64 0, .int .i64 0] 45 (0, 0)) (by (with_reducible repeat (first | refine blk_drewN ?_ _ | refine blk_drew ?_ | refine blk_alloc ?_ _)); exact BK137.out) hb); have n2_ := Aside0.mk (below_step (by repeat (first | (with_reducible first | exact HB.out | apply below_alloc | apply pw_below_drewN | apply below_drew1 | refine below_set ?_ GE136.out | refine below_set ?_ GE137.out) | exact HB.out)) hb); have n3_ := Aside0.mk (hbox); have n4_ := Aside0.mk ((by rw [hg]; exact (below_size (by repeat (first | (with_reducible first | exact HB.out | apply below_alloc | apply pw_below_drewN | apply below_drew1 | refine below_set ?_ GE136.out | refine below_set ?_ GE137.out) | exact HB.out))) : w.heap.size ≤ gb138)); have n5_ := Aside0.mk ((by rw [hg]; exact (below_size (by repeat (first | (with_reducible first | exact HB.out | apply below_alloc | apply pw_below_drewN | apply below_drew1 | refine below_set ?_ GE136.out | refine below_set ?_ GE137.out) | exact HB.out))) : w.heap.size ≤ gb138)); have n6_ := Aside0.mk ((by rw [hg]; exact Nat.ne_of_lt (blk_lt (g := gb136) (o := .cells #[.int .i64 a0_0, .int .i64 a0_1, .int .i64 a0_2] 72 (0, 0)) (by (with_reducible repeat (first | refine blk_drewN ?_ _ | refine blk_drew ?_ | refine blk_alloc ?_ _)); exact BK136.out)) : gb136 ≠ gb138)); have n7_ := Aside0.mk ((by rw [hg]; exact Nat.ne_of_gt (blk_lt (g := gb136) (o := .cells #[.int .i64 a0_0, .int .i64 a0_1, .int .i64 a0_2] 72 (0, 0)) (by (with_reducible repeat (first | refine blk_drewN ?_ _ | refine blk_drew ?_ | refine blk_alloc ?_ _)); exact BK136.out)) : gb138 ≠ gb136)); have n8_ := Aside0.mk ((by rw [hg]; exact Nat.ne_of_lt (blk_lt (g := gb137) (o := .cells #[.int .i64 0, .int .i64 0, .int .i64 0] 45 (0, 0)) (by (with_reducible repeat (first | refine blk_drewN ?_ _ | refine blk_drew ?_ | refine blk_alloc ?_ _)); exact BK137.out)) : gb137 ≠ gb138)); have n9_ := Aside0.mk ((by rw [hg]; exact Nat.ne_of_gt (blk_lt (g := gb137) (o := .cells #[.int .i64 0, .int .i64 0, .int .i64 0] 45 (0, 0)) (by (with_reducible repeat (first | refine blk_drewN ?_ _ | refine blk_drew ?_ | refine blk_alloc ?_ _)); exact BK137.out)) : gb138 ≠ gb137)); clear BK136; clear BK137; clear HB; have BK136 := n0_; have BK137 := n1_; have HB := n2_; have BK138 := n3_; have GW138 := n4_; have GE138 := n5_; have NB136_138 := n6_; have NB138_136 := n7_; have NB137_138 := n8_; have NB138_137 := n9_; clear n0_ n1_ n2_ n3_ n4_ n5_ n6_ n7_ n8_ n9_; clear hb hbox hg; have hnb5 := NB136_137.out; have hnc5 := NB137_136.out; have hnb6 := NB136_138.out; have hnc6 := NB138_136.out; have hcz7_0 : w4.cell? ⟨gb136, 0, none⟩ = some (.int .i64 a0_0) := (blk_cell BK136.out 0).trans rfl; have hcz7_1 : w4.cell? ⟨gb136, 1, none⟩ = some (.int .i64 a0_1) := (blk_cell BK136.out 1).trans rfl; have hcz7_2 : w4.cell? ⟨gb136, 2, none⟩ = some (.int .i64 a0_2) := (blk_cell BK136.out 2).trans rfl; have hfz7_0 := blk_frozen BK136.out 0; have hfz7_1 := blk_frozen BK136.out 1; have hfz7_2 := blk_frozen BK136.out 2; have hnb8 := NB138_137.out; have hnc8 := NB137_138.out; have hcz9_0 : w4.cell? ⟨gb138, 0, none⟩ = some (.int .i64 0) := (blk_cell BK138.out 0).trans rfl; have hcz9_1 : w4.cell? ⟨gb138, 1, none⟩ = some (.int .i64 0) := (blk_cell BK138.out 1).trans rfl; have hcz9_2 : w4.cell? ⟨gb138, 2, none⟩ = some (.int .i64 0) := (blk_cell BK138.out 2).trans rfl; have hfz9_0 := blk_frozen BK138.out 0; have hfz9_1 := blk_frozen BK138.out 1; have hfz9_2 := blk_frozen BK138.out 2; have hcz10_0 : w4.cell? ⟨gb137, 0, none⟩ = some (.int .i64 0) := (blk_cell BK137.out 0).trans rfl; have hcz10_1 : w4.cell? ⟨gb137, 1, none⟩ = some (.int .i64 0) := (blk_cell BK137.out 1).trans rfl; have hcz10_2 : w4.cell? ⟨gb137, 2, none⟩ = some (.int .i64 0) := (blk_cell BK137.out 2).trans rfl; have hfz10_0 := blk_frozen BK137.out 0; have hfz10_1 := blk_frozen BK137.out 1; have hfz10_2 := blk_frozen BK137.out 2))
  refine bodyPost_ret (results_cell_row rfl _ _ gb137 45 #[.int .i64 a0_0, .int .i64 a0_1, .int .i64 a0_2] (0, 0) _ rfl (by (with_reducible repeat (first | refine blk_drewN ?_ _ | refine blk_drew ?_ | refine blk_alloc ?_ _)); refine blk_put (cs := #[.int .i64 a0_0, .int .i64 a0_1, .int .i64 0]) ?_ 2 _ rfl; (with_reducible repeat (first | refine blk_drewN ?_ _ | refine blk_drew ?_ | refine blk_alloc ?_ _)); refine blk_put (cs := #[.int .i64 a0_0, .int .i64 0, .int .i64 0]) ?_ 1 _ rfl; (with_reducible repeat (first | refine blk_drewN ?_ _ | refine blk_drew ?_ | refine blk_alloc ?_ _)); refine blk_put (cs := #[.int .i64 0, .int .i64 0, .int .i64 0]) ?_ 0 _ rfl; (with_reducible repeat (first | refine blk_drewN ?_ _ | refine blk_drew ?_ | refine blk_alloc ?_ _)); refine blk_far ?_ NB137_138.out _; (with_reducible repeat (first | refine blk_drewN ?_ _ | refine blk_drew ?_ | refine blk_alloc ?_ _)); refine blk_far ?_ NB137_138.out _; (with_reducible repeat (first | refine blk_drewN ?_ _ | refine blk_drew ?_ | refine blk_alloc ?_ _)); refine blk_far ?_ NB137_138.out _; (with_reducible repeat (first | refine blk_drewN ?_ _ | refine blk_drew ?_ | refine blk_alloc ?_ _)); exact BK137.out) Try.underlying45 rfl (by kernel_rfl)) rfl ?_
  exact ⟨by first | rfl | (simp [errW_none, errW_some] <;> rfl) | (simp [*, errW_none, errW_some] <;> rfl), by repeat (first | (with_reducible first | exact HB.out | apply below_alloc | apply pw_below_drewN | apply below_drew1 | refine below_set ?_ GE136.out | refine below_set ?_ GE137.out | refine below_set ?_ GE138.out) | exact HB.out)⟩

end Go.Proofs.Ytllhnnjkonghlaa.MFnExactFirstPath
