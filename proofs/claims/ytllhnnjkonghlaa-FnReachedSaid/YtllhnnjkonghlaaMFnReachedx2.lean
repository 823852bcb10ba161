import Derived.Test.YtllhnnjkonghlaaMFnReachedx0
import Derived.Test.YtllhnnjkonghlaaMFnReachedx1
namespace Go.Proofs.Ytllhnnjkonghlaa.MFnReached
open Go.RowKit Go.Proofs.YtllhnnjkonghlaaW.PrintWords Go.Proofs.YtllhnnjkonghlaaW.PrintLast Go.Proofs.YtllhnnjkonghlaaW.PrintMore
attribute [local go_sem] max2_int min2_int max_two min_two max_three min_three max_four min_four   
set_option linter.unusedVariables false
set_option linter.unusedSimpArgs false
mutual
def spec_FirstPath.e : Nat → List (S45) → Int → Int → List (List Int) → List Int → Option (List Int × Bool × Int)
 | 0, _, _, _, _, _ => none
 | k + 1, L, al, lf, X, st => if -1000000 ≤ lf ∧ lf ≤ 1000000 then (if lf - 1 < 0 then some ([], false, lf - 1) else (if (X.length : Int) = al then some (st, true, lf - 1) else spec_FirstPath.l k L al X st 0 (lf - 1))) else none
def spec_FirstPath.l : Nat → List (S45) → Int → List (List Int) → List Int → Int → Int → Option (List Int × Bool × Int)
 | 0, _, _, _, _, _, _ => none
 | k + 1, L, al, X, st, i, lf => if i < (L.length : Int) then (if 0 ≤ i then (if 0 < X.length ∧ X.length < 1000000 then ((spec_moApply.f k (rd_L2 X ((X.length : Int) - 1)) (rd_T45 L i).f0 (rd_T45 L i).f1 (rd_T45 L i).f2).bind fun nx => ((spec_raPlace.f k X nx).bind fun p => (if 0 ≤ p then (spec_FirstPath.l k L al X st (wrap64 (i + 1)) lf) else ((spec_l1Own.f st).bind fun so => (if so.length < 1000000 then ((spec_FirstPath.e k L al lf (X ++ [nx]) (so ++ [i])).bind fun z => (if z.2.1 = true then some (z.1, true, z.2.2) else (if z.2.2 < 0 then some ([], false, z.2.2) else (spec_FirstPath.l k L al X st (wrap64 (i + 1)) z.2.2)))) else none))))) else none) else none) else some ([], false, lf)
end
def spec_FirstPath.f (k : Nat) (a0 : Int) (l1 : List (S45)) (a2 : Int) : Option (List Int × Bool) := (spec_moTask.f k a0 l1).bind fun t => (if t = true then (if 4 < a0 then some ([], false) else ((spec_l1In.f a2 1 4000).bind fun b => (if b = true then ((spec_raFactorial.f k a0).bind fun al => ((spec_raUpTo.f k a0).bind fun s => ((spec_FirstPath.e k l1 al a2 [s] []).bind fun z => some (z.1, z.2.1)))) else some ([], false)))) else some ([], false))
theorem spec_FirstPath.mono_l : ∀ k, (∀ y0 y1 y2 y3 y4, LeO (spec_FirstPath.e k y0 y1 y2 y3 y4) (spec_FirstPath.e (k + 1) y0 y1 y2 y3 y4)) ∧ (∀ y0 y1 y2 y3 y4 y5, LeO (spec_FirstPath.l k y0 y1 y2 y3 y4 y5) (spec_FirstPath.l (k + 1) y0 y1 y2 y3 y4 y5))
 | 0 => ⟨fun _ _ _ _ _ r h => by simp [spec_FirstPath.e] at h, fun _ _ _ _ _ _ r h => by simp [spec_FirstPath.l] at h⟩
 | k + 1 => by
  obtain ⟨ih0, ih1⟩ := spec_FirstPath.mono_l k
  refine ⟨?_, ?_⟩
  ·intro y0 y1 y2 y3 y4
   unfold spec_FirstPath.e
   repeat' first
   | (with_reducible exact ih0 _ _ _ _ _)
   | (with_reducible exact ih1 _ _ _ _ _ _)
   | (with_reducible exact spec_moApply.mono _ _ _ _ _)
   | (with_reducible exact spec_moTask.mono _ _ _)
   | (with_reducible exact spec_raFactorial.mono _ _)
   | (with_reducible exact spec_raPlace.mono _ _ _)
   | (with_reducible exact spec_raUpTo.mono _ _)
   | (with_reducible exact LeO.refl _)
   | (with_reducible exact LeO.none _)
   | (with_reducible refine LeO.ite ?_ ?_)
   | (with_reducible refine LeO.bind ?_ (fun _ => ?_))
   | exact ih0 _ _ _ _ _
   | exact ih1 _ _ _ _ _ _
   | exact spec_moApply.mono _ _ _ _ _
   | exact spec_moTask.mono _ _ _
   | exact spec_raFactorial.mono _ _
   | exact spec_raPlace.mono _ _ _
   | exact spec_raUpTo.mono _ _
   | exact LeO.none _
   | refine LeO.ite ?_ ?_
   | refine LeO.bind ?_ (fun _ => ?_)
  ·intro y0 y1 y2 y3 y4 y5
   unfold spec_FirstPath.l
   repeat' first
   | (with_reducible exact ih0 _ _ _ _ _)
   | (with_reducible exact ih1 _ _ _ _ _ _)
   | (with_reducible exact spec_moApply.mono _ _ _ _ _)
   | (with_reducible exact spec_moTask.mono _ _ _)
   | (with_reducible exact spec_raFactorial.mono _ _)
   | (with_reducible exact spec_raPlace.mono _ _ _)
   | (with_reducible exact spec_raUpTo.mono _ _)
   | (with_reducible exact LeO.refl _)
   | (with_reducible exact LeO.none _)
   | (with_reducible refine LeO.ite ?_ ?_)
   | (with_reducible refine LeO.bind ?_ (fun _ => ?_))
   | exact ih0 _ _ _ _ _
   | exact ih1 _ _ _ _ _ _
   | exact spec_moApply.mono _ _ _ _ _
   | exact spec_moTask.mono _ _ _
   | exact spec_raFactorial.mono _ _
   | exact spec_raPlace.mono _ _ _
   | exact spec_raUpTo.mono _ _
   | exact LeO.none _
   | refine LeO.ite ?_ ?_
   | refine LeO.bind ?_ (fun _ => ?_)
theorem spec_FirstPath.mono : ∀ a0 a1 a2 k, LeO (spec_FirstPath.f k a0 a1 a2) (spec_FirstPath.f (k + 1) a0 a1 a2) := by
 intro a0 a1 a2 k
 obtain ⟨ih0, ih1⟩ := spec_FirstPath.mono_l k
 unfold spec_FirstPath.f
 repeat' first
   | (with_reducible exact ih0 _ _ _ _ _)
   | (with_reducible exact ih1 _ _ _ _ _ _)
   | (with_reducible exact spec_moApply.mono _ _ _ _ _)
   | (with_reducible exact spec_moTask.mono _ _ _)
   | (with_reducible exact spec_raFactorial.mono _ _)
   | (with_reducible exact spec_raPlace.mono _ _ _)
   | (with_reducible exact spec_raUpTo.mono _ _)
   | (with_reducible exact LeO.refl _)
   | (with_reducible exact LeO.none _)
   | (with_reducible refine LeO.ite ?_ ?_)
   | (with_reducible refine LeO.bind ?_ (fun _ => ?_))
   | exact ih0 _ _ _ _ _
   | exact ih1 _ _ _ _ _ _
   | exact spec_moApply.mono _ _ _ _ _
   | exact spec_moTask.mono _ _ _
   | exact spec_raFactorial.mono _ _
   | exact spec_raPlace.mono _ _ _
   | exact spec_raUpTo.mono _ _
   | exact LeO.none _
   | refine LeO.ite ?_ ?_
   | refine LeO.bind ?_ (fun _ => ?_)
open Go.Proofs.Ytllhnnjkonghlaa.FpW in
set_option maxHeartbeats 8000000 in
set_option maxRecDepth 100000 in
theorem spec_FirstPath.find : ∀ (k : Nat) (w0 : World) (gs : Nat) (AL : Option Addr) (cL : Nat) (L : List (S45)) (al lf : Int) (wz : World) (AX : Option Addr) (nX cX : Nat) (X : List (List Int)) (As : Option Addr) (ns cs : Nat) (st : List Int) (z : List Int × Bool × Int) (w : World) (hL : Kd.C k45 w0 AL L.length L) (hcL : L.length ≤ cL) (hgs : w.heap[gs]? = some (.cells #[.slice AL L.length cL, .int .i64 al, .int .i64 (lf)] 68 (0, 0))) (hge : w0.heap.size ≤ gs) (hz : Kept wz w (fun k_ => k_ = gs)) (hX : (keptK (Kd.slice 3 (Kd.int .i64)) wz (fun k_ => k_ = gs)).R 24 w w0.heap.size (fun k_ => k_ ≠ gs) (.slice AX nX cX) X) (hst : (Kd.int .i64).R 3 w w0.heap.size (fun k_ => k_ ≠ gs) (.slice As ns cs) st) (hb : Below w0.heap.size w0 w) (h : spec_FirstPath.e k L al lf X st = some z),
  Calls Try.prog 44 #[.pointer (some ⟨gs, 0, none⟩), .slice AX nX cX, .slice As ns cs] w fun e w' => ∃ v_ : Value, e = .returned (.tuple #[v_, .bool z.2.1]) ∧ (Kd.int .i64).R 3 w' w0.heap.size (fun _ => True) v_ z.1 ∧ w'.heap[gs]? = some (.cells #[.slice AL L.length cL, .int .i64 al, .int .i64 (z.2.2)] 68 (0, 0)) ∧ Kept w w' (fun k_ => k_ = gs) ∧ Below w0.heap.size w0 w' := by
 intro k
 induction k using Nat.strongRecOn with
 | ind k ih =>
 intro w0 gs AL cL L al lf wz AX nX cX X As ns cs st z w hL hcL hgs hge hz hX hst hb h
 obtain ⟨e1_, q1_, _⟩ := Kd.R_reads' hX
 obtain ⟨e2_, q2_, _⟩ := Kd.R_reads' hst
 subst e1_ e2_
 have hu := Try.underlying45
 cases k with
 | zero => simp [spec_FirstPath.e] at h
 | succ k =>
 have IH := Ya ih
 clear ih
 simp only [spec_FirstPath.e] at h
 by_cases cl : -1000000 ≤ lf ∧ lf ≤ 1000000
 rotate_left
 ·rw [if_neg cl] at h; cases h
 rw [if_pos cl] at h
 have HL := Ya hL
 have HCL := Ya hcL
 have HG := Ya hge
 have HZ := Ya hz
 have HX := Ya hX
 have HT := Ya hst
 have BG := Ya (show (w.setCell ⟨gs, 2, none⟩ (.int .i64 (lf - 1))).heap[gs]? = some (.cells #[.slice AL L.length cL, .int .i64 al, .int .i64 (lf - 1)] 68 (0, 0)) from Z28 hgs 2 _ rfl)
 have HK := Ya (show Kept w (w.setCell ⟨gs, 2, none⟩ (.int .i64 (lf - 1))) (fun k_ => k_ = gs) from Kept.setCell (p := ⟨gs, 2, none⟩) (Kept.refl w (fun k_ => k_ = gs)) (.inl rfl) _)
 have HB := Ya (show Below w0.heap.size w0 (w.setCell ⟨gs, 2, none⟩ (.int .i64 (lf - 1))) from Z6 hb hge)
 have hc2 : w.cell? ⟨gs, 2, none⟩ = some (.int .i64 lf) := (Z22 hgs 2).trans rfl
 have hf2 := Z23 hgs 2
 have hd0 : (w.setCell ⟨gs, 2, none⟩ (.int .i64 (lf - 1))).cell? ⟨gs, 0, none⟩ = some (.slice AL L.length cL) := (Z22 BG.out 0).trans rfl
 have hd1 : (w.setCell ⟨gs, 2, none⟩ (.int .i64 (lf - 1))).cell? ⟨gs, 1, none⟩ = some (.int .i64 al) := (Z22 BG.out 1).trans rfl
 have hd2 : (w.setCell ⟨gs, 2, none⟩ (.int .i64 (lf - 1))).cell? ⟨gs, 2, none⟩ = some (.int .i64 (lf - 1)) := (Z22 BG.out 2).trans rfl
 have pw : IntKind.i64.wrap (lf - 1) = lf - 1 := IntWalk.i64_in _ (by omega)
 have pw' : wrap64 (lf - 1) = lf - 1 := by unfold wrap64; omega
 clear hL hcL hgs hge hz hX hst hb q1_ q2_
 by_cases c0 : lf - 1 < 0
 ·rw [if_pos c0] at h
  obtain rfl := Option.some.inj h
  have c0b : decide (lf - 1 < 0) = true := Z37 c0
  clear h
  go_enter Try.func44, Try.ntmps44
  go_wp2
  go_ret2
  exact ⟨_, rfl, Kd.R_nil _ _ _ _ _, BG.out, HK.out, HB.out⟩
 rw [if_neg c0] at h
 have c0b : decide (lf - 1 < 0) = false := Z36 c0
 by_cases ce : (X.length : Int) = al
 ·rw [if_pos ce] at h
  obtain rfl := Option.some.inj h
  have ceb : ((X.length : Int) == al) = true := beq_iff_eq.mpr ce
  clear h ce
  go_enter Try.func44, Try.ntmps44
  go_wp2
  go_ret2
  exact ⟨_, rfl, Z12 (Kd.R_kept HT.out HK.out (fun k_ hk_ e_ => hk_ e_)) (fun _ _ => trivial), BG.out, HK.out, HB.out⟩
 rw [if_neg ce] at h
 have ceb : ((X.length : Int) == al) = false := beq_eq_false_iff_ne.mpr ce
 have H' := Ya h
 clear h ce
 go_enter Try.func44, Try.ntmps44
 go_wp2
 clear hc2 hf2 hd0 hd1 hd2 pw pw' c0 c0b ceb
 go_loopg [39] k (fun kq v39 w' => ∃ (i : Int) (lf' : Int), v39 = .int .i64 i ∧ Aside0 (spec_FirstPath.l kq L al X st i lf' = some z) ∧ Aside0 (kq ≤ k) ∧ Aside0 (w'.heap[gs]? = some (.cells #[.slice AL L.length cL, .int .i64 al, .int .i64 (lf')] 68 (0, 0))) ∧ Aside0 (Kept w w' (fun k_ => k_ = gs)) ∧ Aside0 (Below w0.heap.size w0 w'))
 case atStart => exact ⟨0, lf - 1, rfl, H', ⟨Nat.le_refl _⟩, BG, HK, HB⟩
 case round =>
  clear H' BG HK HB
  obtain ⟨i, lf', rfl, HA, HK1, BG, HK, HB⟩ := hrel
  cases gk with
  | zero => exact absurd HA.out (by simp [spec_FirstPath.l])
  | succ k1 =>
   have H := HA.out
   clear HA
   simp only [spec_FirstPath.l] at H
   by_cases c3 : i < (L.length : Int)
   rotate_left
   ·rw [if_neg c3] at H
    obtain rfl := Option.some.inj H
    have c3b0 := Z36 c3
    clear c3 H
    go_wp2
    go_ret2
    first | exact ⟨_, rfl, Kd.R_nil _ _ _ _ _, BG.out, HK.out, HB.out⟩ | exact ⟨rfl, _, Kd.R_nil _ _ _ _ _, BG.out, HK.out, HB.out⟩
   rw [if_pos c3] at H
   have c3b0 := Z37 c3
   by_cases c4 : 0 ≤ i
   rotate_left
   ·rw [if_neg c4] at H; cases H
   rw [if_pos c4] at H
   by_cases cx : 0 < X.length ∧ X.length < 1000000
   rotate_left
   ·rw [if_neg cx] at H; cases H
   rw [if_pos cx] at H
   replace H := Z35.mp H
   obtain ⟨nx, h1, H⟩ := H
   replace H := Z35.mp H
   obtain ⟨p, h2, H⟩ := H
   have T1 := Ya h1
   have T2 := Ya h2
   have CX := Ya cx
   have HX1 := Ya (Kd.R_kept HX.out HK.out (fun k_ hk_ e_ => hk_ e_))
   have HT1 := Ya (Kd.R_kept HT.out HK.out (fun k_ hk_ e_ => hk_ e_))
   have HZ1 := Ya (show Kept wz wr (fun k_ => k_ = gs) from HZ.out.then_ HK.out (fun _ h_ => .inl h_))
   have HC1 := Ya (show (Kd.slice 3 (Kd.int .i64)).C wr AX X.length X from keptK_C (w := wr) (Kd.R_reads' HX1.out).2.2 HZ1.out)
   obtain ⟨aX, Al, cl', eaX, hx4, hle4, hie4⟩ := at_L2 HC1.out ((X.length : Int) - 1) (by omega) (by omega)
   cases eaX
   rw [show ((X.length : Int) - 1).toNat = X.length - 1 from by omega] at hx4
   have HLE := Ya hle4
   have HIE := Ya hie4
   have HX4 := Ya hx4
   obtain ⟨ad, ead, hx0, hx1, hx2⟩ := at_T45 HL.out i c4 c3
   cases ead
   replace hx0 := (HB.out.cell (World.block_lt_of_cell? w0 _ hx0)).trans hx0
   replace hx1 := (HB.out.cell (World.block_lt_of_cell? w0 _ hx1)).trans hx1
   replace hx2 := (HB.out.cell (World.block_lt_of_cell? w0 _ hx2)).trans hx2
   have c4b : (0 ≤ i) = True := eq_true c4
   have c3b : (i < (L.length : Int)) = True := eq_true c3
   have hw1 : IntKind.i64.wrap ((X.length : Int) - 1) = (X.length : Int) - 1 := IntWalk.i64_in _ (by omega)
   have q0 : (0 ≤ (X.length : Int) - 1) = True := eq_true (by omega)
   have q1 : (1 ≤ (X.length : Int)) = True := eq_true (by omega)
   have q2 : ((X.length : Int) - 1 < (X.length : Int)) = True := eq_true (by omega)
   have q3 : (1 ≤ X.length) = True := eq_true (by omega)
   have q4 : decide (0 ≤ (X.length : Int) - 1) = true := Z37 (by omega)
   have q5 : decide ((X.length : Int) - 1 < (X.length : Int)) = true := Z37 (by omega)
   have q6 : (0 < X.length) = True := eq_true cx.1
   clear h1 h2 c3 c4 cx hx4 hle4 hie4
   by_cases cp : 0 ≤ p
   ·rw [if_pos cp] at H
    have H' := Ya H
    have cpb : decide (0 ≤ p) = true := Z37 cp
    clear H
    go_wp2_with (first | ((with_reducible refine gate_dst (N := 9) rfl ?_); refine Yx 9 #[.int .i64 0, .int .i64 0, .int .i64 0] 45 ?_; intro gb hg w3 hbox hb; have BX := Ya hb; have GX := Ya (show wr.heap.size ≤ gb by rw [hg]; exact Nat.le_refl _); have BO := Ya hbox; have hcz0 : w3.cell? ⟨gb, 0, none⟩ = some (.int .i64 0) := (Z22 hbox 0).trans rfl; have hcz1 : w3.cell? ⟨gb, 1, none⟩ = some (.int .i64 0) := (Z22 hbox 1).trans rfl; have hcz2 : w3.cell? ⟨gb, 2, none⟩ = some (.int .i64 0) := (Z22 hbox 2).trans rfl; have hfz0 := Z23 hbox 0; have hfz1 := Z23 hbox 1; have hfz2 := Z23 hbox 2; clear hb hbox hg))
    have b3 : Below wr.heap.size wr ((((w3.setCell ⟨gb, 0, none⟩ (.int .i64 (rd_T45 L i).f0)).setCell ⟨gb, 1, none⟩ (.int .i64 (rd_T45 L i).f1)).setCell ⟨gb, 2, none⟩ (.int .i64 (rd_T45 L i).f2)).drew) := Z4 (Z6 (Z6 (Z6 BX.out GX.out) GX.out) GX.out)
    have m3 : ((((w3.setCell ⟨gb, 0, none⟩ (.int .i64 (rd_T45 L i).f0)).setCell ⟨gb, 1, none⟩ (.int .i64 (rd_T45 L i).f1)).setCell ⟨gb, 2, none⟩ (.int .i64 (rd_T45 L i).f2)).drew).heap[gb]? = some (.cells #[.int .i64 (rd_T45 L i).f0, .int .i64 (rd_T45 L i).f1, .int .i64 (rd_T45 L i).f2] 45 (0, 0)) := Z25 (Z28 (Z28 (Z28 BO.out 0 _ rfl) 1 _ rfl) 2 _ rfl)
    have HBX := Ya b3
    have BM := Ya m3
    have GL := Ya (blk_lt BG.out)
    clear b3 m3 BX BO hcz0 hcz1 hcz2 hfz0 hfz1 hfz2 hx0 hx1 hx2
    refine start_ (n := 9) (S := fun w' => w'.cell? (aX.add (X.length - 1)) = some (.slice Al (rd_L2 X ((X.length : Int) - 1)).length cl') ∧ w'.cell? ⟨gb, 0, none⟩ = some (.int .i64 (rd_T45 L i).f0) ∧ w'.cell? ⟨gb, 1, none⟩ = some (.int .i64 (rd_T45 L i).f1) ∧ w'.cell? ⟨gb, 2, none⟩ = some (.int .i64 (rd_T45 L i).f2)) (ds := []) (YA 9 0) (by kernel_rfl) rfl rfl ⟨(HBX.out.cell (World.block_lt_of_cell? wr _ HX4.out)).trans HX4.out, (Z22 BM.out 0).trans rfl, (Z22 BM.out 1).trans rfl, (Z22 BM.out 2).trans rfl⟩ (fun hHeld => ?_)
    generalize World.drew _ = w4 at HBX BM hHeld ⊢
    refine Yq 0 (some 44) (YA 9 1) rfl ?_
    refine Yq 1 (some 45) (YA 9 3) rfl ?_
    refine Yq 2 (some 46) (YA 9 7) rfl ?_
    refine Yq 3 (some 47) (YA 9 15) rfl ?_
    refine Yq 4 (some 48) (YA 9 31) rfl ?_
    refine Ys 5 (some 49) (YA 9 63) rfl hHeld Q9 ?_
    refine Ys 6 (some 50) (YA 9 127) rfl hHeld Q9 ?_
    refine one_ (i := 7) (N := some 51) (YA 9 255) rfl rfl (by kernel_rfl) (by decide) (fun K hK => ?_)
    refine goes_ Try.func72 (by kernel_rfl) rfl #[.slice Al (rd_L2 X ((X.length : Int) - 1)).length cl', .agg #[.int .i64 (rd_T45 L i).f0, .int .i64 (rd_T45 L i).f1, .int .i64 (rd_T45 L i).f2]] (by rfl) rfl rfl Q34 ?_
    with_reducible refine (spec_moApply.calls k1 Al cl' (rd_L2 X ((X.length : Int) - 1)) (rd_T45 L i).f0 (rd_T45 L i).f1 (rd_T45 L i).f2 nx _ (Z21 HIE.out HBX.out) HLE.out T1.out).mono ?_
    rintro e w5 ⟨v5, rfl, ho5, hb5⟩
    refine ⟨_, rfl, ?_⟩
    obtain ⟨A5, c5, rfl⟩ := Z17 ho5
    have HN := Ya (show (Kd.int .i64).R 3 w5 w4.heap.size (fun k_ => k_ ≠ gs) (.slice A5 nx.length c5) nx from Z12 (Kd.R_bound ho5) (fun k_ hk_ => Nat.ne_of_gt (Nat.lt_of_lt_of_le GL.out (Nat.le_trans HBX.out.size hk_.2.1))))
    have n0_ := Ya (Z27 BM.out hb5)
    have n1_ := Ya (Z8 HBX.out hb5)
    have HWS := Ya HBX.out.size
    clear BM HBX ho5 hb5
    have BM := n0_
    have HBX := n1_
    clear n0_ n1_
    refine hK.out _ _ ⟨(HBX.out.cell (World.block_lt_of_cell? wr _ HX4.out)).trans HX4.out, (Z22 BM.out 0).trans rfl, (Z22 BM.out 1).trans rfl, (Z22 BM.out 2).trans rfl⟩ (fun hHeld => ?_)
    clear hK K
    refine norm_ (a' := ?_) ?_ ?_
    rotate_left
    ·show Act.put _ (some 51) _ = _
     simp only [Act.put, Z0, Z1, Z2, i64_w, i32_w]
     rfl
    refine Yq 8 (some 10) (YA 9 511) rfl ?_
    refine done_ (by kernel_rfl) ?_
    have HXW := Ya (Z21 HC1.out HBX.out)
    go_wp2_with fail
    refine (spec_raPlace.calls k1 _ cX X A5 c5 nx p _ HXW.out (Kd.R_reads' HX1.out).2.1 (Kd.R_reads' HN.out).2.2 (Kd.R_reads' HN.out).2.1 T2.out).mono ?_
    rintro e w6 ⟨rfl, hd6⟩
    have hb6 := Drawn0.below hd6
    have n0_ := Ya (Z14 HN.out hb6)
    have B6 := Ya (Z8 HBX.out hb6)
    clear HN HBX BM HXW hb6 hd6
    have HN := n0_
    clear n0_
    have BG6 := Ya (Z27 BG.out B6.out)
    have HQ := Ya (Kept.of_below B6.out (fun k_ => k_ = gs))
    have HB6 := Ya (HB.out.trans (B6.out.mono HB.out.size))
    have HN2 := Ya (Kd.R_lower HN.out (Nat.le_trans HB.out.size HWS.out))
    go_wp2
    go_roundg k1
    case measure => have := HK1.out; omega
    case rel => exact ⟨wrap64 (i + 1), lf', rfl, H', ⟨Q22⟩, BG6, ⟨HK.out.then_ HQ.out (fun _ h_ => .inl h_)⟩, HB6⟩
   rw [if_neg cp] at H
   have cpb : decide (0 ≤ p) = false := Z36 cp
   replace H := Z35.mp H
   obtain ⟨so, h3, H⟩ := H
   by_cases cs_ : so.length < 1000000
   rotate_left
   ·rw [if_neg cs_] at H; cases H
   rw [if_pos cs_] at H
   replace H := Z35.mp H
   obtain ⟨⟨o2, ok2, lf2⟩, h4, H⟩ := H
   have T3 := Ya h3
   have T4 := Ya h4
   have CS := Ya cs_
   clear h3 h4 cs_
   dsimp only at H
   cases ok2
   rotate_left
   ·simp only [if_true] at H
    obtain rfl := Option.some.inj H
    clear H
    go_wp2_with (first | ((with_reducible refine gate_dst (N := 9) rfl ?_); refine Yx 9 #[.int .i64 0, .int .i64 0, .int .i64 0] 45 ?_; intro gb hg w3 hbox hb; have BX := Ya hb; have GX := Ya (show wr.heap.size ≤ gb by rw [hg]; exact Nat.le_refl _); have BO := Ya hbox; have hcz0 : w3.cell? ⟨gb, 0, none⟩ = some (.int .i64 0) := (Z22 hbox 0).trans rfl; have hcz1 : w3.cell? ⟨gb, 1, none⟩ = some (.int .i64 0) := (Z22 hbox 1).trans rfl; have hcz2 : w3.cell? ⟨gb, 2, none⟩ = some (.int .i64 0) := (Z22 hbox 2).trans rfl; have hfz0 := Z23 hbox 0; have hfz1 := Z23 hbox 1; have hfz2 := Z23 hbox 2; clear hb hbox hg))
    have b3 : Below wr.heap.size wr ((((w3.setCell ⟨gb, 0, none⟩ (.int .i64 (rd_T45 L i).f0)).setCell ⟨gb, 1, none⟩ (.int .i64 (rd_T45 L i).f1)).setCell ⟨gb, 2, none⟩ (.int .i64 (rd_T45 L i).f2)).drew) := Z4 (Z6 (Z6 (Z6 BX.out GX.out) GX.out) GX.out)
    have m3 : ((((w3.setCell ⟨gb, 0, none⟩ (.int .i64 (rd_T45 L i).f0)).setCell ⟨gb, 1, none⟩ (.int .i64 (rd_T45 L i).f1)).setCell ⟨gb, 2, none⟩ (.int .i64 (rd_T45 L i).f2)).drew).heap[gb]? = some (.cells #[.int .i64 (rd_T45 L i).f0, .int .i64 (rd_T45 L i).f1, .int .i64 (rd_T45 L i).f2] 45 (0, 0)) := Z25 (Z28 (Z28 (Z28 BO.out 0 _ rfl) 1 _ rfl) 2 _ rfl)
    have HBX := Ya b3
    have BM := Ya m3
    have GL := Ya (blk_lt BG.out)
    clear b3 m3 BX BO hcz0 hcz1 hcz2 hfz0 hfz1 hfz2 hx0 hx1 hx2
    refine start_ (n := 9) (S := fun w' => w'.cell? (aX.add (X.length - 1)) = some (.slice Al (rd_L2 X ((X.length : Int) - 1)).length cl') ∧ w'.cell? ⟨gb, 0, none⟩ = some (.int .i64 (rd_T45 L i).f0) ∧ w'.cell? ⟨gb, 1, none⟩ = some (.int .i64 (rd_T45 L i).f1) ∧ w'.cell? ⟨gb, 2, none⟩ = some (.int .i64 (rd_T45 L i).f2)) (ds := []) (YA 9 0) (by kernel_rfl) rfl rfl ⟨(HBX.out.cell (World.block_lt_of_cell? wr _ HX4.out)).trans HX4.out, (Z22 BM.out 0).trans rfl, (Z22 BM.out 1).trans rfl, (Z22 BM.out 2).trans rfl⟩ (fun hHeld => ?_)
    generalize World.drew _ = w4 at HBX BM hHeld ⊢
    refine Yq 0 (some 44) (YA 9 1) rfl ?_
    refine Yq 1 (some 45) (YA 9 3) rfl ?_
    refine Yq 2 (some 46) (YA 9 7) rfl ?_
    refine Yq 3 (some 47) (YA 9 15) rfl ?_
    refine Yq 4 (some 48) (YA 9 31) rfl ?_
    refine Ys 5 (some 49) (YA 9 63) rfl hHeld Q9 ?_
    refine Ys 6 (some 50) (YA 9 127) rfl hHeld Q9 ?_
    refine one_ (i := 7) (N := some 51) (YA 9 255) rfl rfl (by kernel_rfl) (by decide) (fun K hK => ?_)
    refine goes_ Try.func72 (by kernel_rfl) rfl #[.slice Al (rd_L2 X ((X.length : Int) - 1)).length cl', .agg #[.int .i64 (rd_T45 L i).f0, .int .i64 (rd_T45 L i).f1, .int .i64 (rd_T45 L i).f2]] (by rfl) rfl rfl Q34 ?_
    with_reducible refine (spec_moApply.calls k1 Al cl' (rd_L2 X ((X.length : Int) - 1)) (rd_T45 L i).f0 (rd_T45 L i).f1 (rd_T45 L i).f2 nx _ (Z21 HIE.out HBX.out) HLE.out T1.out).mono ?_
    rintro e w5 ⟨v5, rfl, ho5, hb5⟩
    refine ⟨_, rfl, ?_⟩
    obtain ⟨A5, c5, rfl⟩ := Z17 ho5
    have HN := Ya (show (Kd.int .i64).R 3 w5 w4.heap.size (fun k_ => k_ ≠ gs) (.slice A5 nx.length c5) nx from Z12 (Kd.R_bound ho5) (fun k_ hk_ => Nat.ne_of_gt (Nat.lt_of_lt_of_le GL.out (Nat.le_trans HBX.out.size hk_.2.1))))
    have n0_ := Ya (Z27 BM.out hb5)
    have n1_ := Ya (Z8 HBX.out hb5)
    have HWS := Ya HBX.out.size
    clear BM HBX ho5 hb5
    have BM := n0_
    have HBX := n1_
    clear n0_ n1_
    refine hK.out _ _ ⟨(HBX.out.cell (World.block_lt_of_cell? wr _ HX4.out)).trans HX4.out, (Z22 BM.out 0).trans rfl, (Z22 BM.out 1).trans rfl, (Z22 BM.out 2).trans rfl⟩ (fun hHeld => ?_)
    clear hK K
    refine norm_ (a' := ?_) ?_ ?_
    rotate_left
    ·show Act.put _ (some 51) _ = _
     simp only [Act.put, Z0, Z1, Z2, i64_w, i32_w]
     rfl
    refine Yq 8 (some 10) (YA 9 511) rfl ?_
    refine done_ (by kernel_rfl) ?_
    have HXW := Ya (Z21 HC1.out HBX.out)
    go_wp2_with fail
    refine (spec_raPlace.calls k1 _ cX X A5 c5 nx p _ HXW.out (Kd.R_reads' HX1.out).2.1 (Kd.R_reads' HN.out).2.2 (Kd.R_reads' HN.out).2.1 T2.out).mono ?_
    rintro e w6 ⟨rfl, hd6⟩
    have hb6 := Drawn0.below hd6
    have n0_ := Ya (Z14 HN.out hb6)
    have B6 := Ya (Z8 HBX.out hb6)
    clear HN HBX BM HXW hb6 hd6
    have HN := n0_
    clear n0_
    have BG6 := Ya (Z27 BG.out B6.out)
    have HQ := Ya (Kept.of_below B6.out (fun k_ => k_ = gs))
    have HB6 := Ya (HB.out.trans (B6.out.mono HB.out.size))
    have HN2 := Ya (Kd.R_lower HN.out (Nat.le_trans HB.out.size HWS.out))
    go_wp2_with (first | ((with_reducible refine gate_dst (N := 56) rfl ?_); refine Kd.R_lit (keptK (Kd.slice 3 (Kd.int .i64)) w6 (fun k_ => k_ = gs)) (w0 := w6) w6.heap.size 24 ?hg (N := 56) ?hd (xs := ([] : List (List Int))) (inner := []) (ok := fun _ => True) (okp := fun _ => False) ?hr ?hp (fun _ hk => hk.elim) trivial (Below.refl _ _) (Nat.le_refl _) (by simp) ?_; (case hd => rfl); (case hg => rfl); (case hr => first | (go_simp; done) | (go_simp; rfl)); (case hp => exact (Reps.none _ _)); intro v7 w7 ho hb hg hnew; have HO7 := Ya ho; have HB7 := Ya hb; clear ho hb hg hnew) | ((with_reducible refine gate_builtin (b := .append) (xs := #[.tmp 56, .tmp 57]) rfl ?_); at_builtin; refine Kd.R_append_rows (keptK (Kd.slice 3 (Kd.int .i64)) w6 (fun k_ => k_ = gs)) (Rr := fun x_ cs_ => ∀ W_, Kept w6 W_ (fun k_ => k_ = gs) → Kd.K (Kd.slice 3 (Kd.int .i64)) W_ x_ cs_) (w0 := w6) w6.heap.size rfl (.tmp 56) (.tmp 57) 50 24 (.slice none 0 0) 24 rfl Try.underlying50 info24 rfl (show 0 < 1 from Nat.one_pos) (by omega) v7 ([] : List (List Int)) X _ X.length cX (fun _ => True) (fun _ => False) rfl Q31 HO7.out ?rR (fun _ _ h_ => h_) (fun _ hk => hk.elim) (fun _ _ => trivial) HB7.out HB7.out.size ?rL ?_; (case rR => exact ReadsRow.imp_ (Kd.R_reads' (Z14 (Kd.R_kept HX1.out HQ.out (fun k_ hk_ e_ => hk_ e_)) HB7.out)).2.2 (Below.refl _ _) (fun _ _ hp_ W_ hW_ => hp_ W_ ((HZ1.out.then_ HQ.out (fun _ h_ => .inl h_)).then_ hW_ (fun _ h_ => .inl h_)))); (case rL => have := CX.out; simp only [List.length_nil]; omega); intro v8 w8 ho8 hb8 hg8 hat8; rw [List.nil_append] at ho8; have HO8 := Ya ho8; have HB8 := Ya hb8; clear HO7 HB7 ho8 hb8 hg8 hat8) | ((with_reducible refine gate_builtin (b := .append) (xs := #[.tmp 58, .tmp 60]) rfl ?_); at_builtin; refine Kd.R_append (keptK (Kd.slice 3 (Kd.int .i64)) w6 (fun k_ => k_ = gs)) (w0 := w6) w6.heap.size rfl (.tmp 58) (.tmp 60) 50 24 (.slice none 0 0) 24 rfl Try.underlying50 info24 rfl (show 0 < 1 from Nat.one_pos) (by omega) v8 X nx [.slice A5 nx.length c5] (fun _ => True) (fun _ => False) rfl Q31 ?aP (fun _ hk => hk.elim) (fun _ _ => trivial) HO8.out HB8.out HB8.out.size ?aL ?_; (case aP => exact fun W_ hW_ => ⟨A5, c5, rfl, (Kd.R_reads' HN2.out).2.1, Kd.C_kept_own HN2.out (fun _ hk_ e_ => hk_ e_) W_ hW_⟩); (case aL => have := CX.out; omega); intro v9 w9 ho9 hb9 hg9 hat9; have HO9 := Ya ho9; have HB9 := Ya hb9; clear HO8 HB8 ho9 hb9 hg9 hat9) | ((with_reducible refine gate_callee (f := 83) rfl ?_); refine Yz 66 Try.func83 #[.slice As st.length cs] ?_ (hargs := Q51); (with_reducible refine (spec_l1Own.calls As cs st so _ ?o1 ?o2 T3.out).mono ?_); (case o1 => exact (Kd.R_reads' (Z14 (Kd.R_kept HT1.out HQ.out (fun k_ hk_ e_ => hk_ e_)) HB9.out)).2.2); (case o2 => exact (Kd.R_reads' HT1.out).2.1); rintro e w10 ⟨v10, rfl, ho10, hb10⟩; refine ⟨_, rfl, ?_⟩; have HO10 := Ya (Kd.R_lower ho10 HB9.out.size); have n0_ := Ya (Z14 HO9.out hb10); have HB10 := Ya (Z8 HB9.out hb10); have n1_ := Ya (Z12 (Kd.R_bound HO9.out) (fun k_ hk_ => (⟨hk_.2.1, hk_.2.2.1⟩ : w6.heap.size ≤ k_ ∧ k_ < w9.heap.size))); have n2_ := Ya (Z14 n1_.out hb10); have HSZ := Ya (Kd.R_base ho10); clear HO9 HB9 n1_ n0_ ho10 hb10; have HO9 := n2_; clear n2_) | ((with_reducible refine gate_builtin (b := .append) (xs := #[.tmp 66, .tmp 68]) rfl ?_); at_builtin; refine Kd.R_append (Kd.int .i64) (w0 := w6) w6.heap.size rfl (.tmp 66) (.tmp 68) 24 3 (.int .i64 0) 8 rfl Try.underlying24 info3 rfl (by decide) (by omega) v10 so i [.int .i64 i] (fun _ => True) (fun _ => False) rfl Q31 ?bP (fun _ hk => hk.elim) (fun _ _ => trivial) HO10.out HB10.out HB10.out.size ?bL ?_; (case bP => exact rfl); (case bL => have := CS.out; omega); intro v11 w11 ho11 hb11 hg11 hat11; have n0_ := Ya (Kd.R_grown HO9.out hg11 (fun k_ hk_ e_ => by have := HSZ.out k_ e_.symm; omega)); have HO11 := Ya ho11; have HB11 := Ya hb11; clear HO9 HO10 HB10 HSZ ho11 hb11 hg11 hat11; have HO9 := n0_; clear n0_))
    obtain ⟨A9, c9, e9⟩ := Z17 HO9.out
    obtain ⟨A11, c11, e11⟩ := Z17 HO11.out
    subst e9 e11
    have BG11 := Ya (Z27 BG6.out HB11.out)
    have HX11 := Ya (show (keptK (Kd.slice 3 (Kd.int .i64)) w6 (fun k_ => k_ = gs)).R 24 w11 w0.heap.size (fun k_ => k_ ≠ gs) (.slice A9 (X ++ [nx]).length c9) (X ++ [nx]) from Z12 (Kd.R_lower HO9.out HB6.out.size) (fun k_ hk_ => Nat.ne_of_gt (Nat.lt_of_lt_of_le (blk_lt BG6.out) hk_.1)))
    have HT11 := Ya (show (Kd.int .i64).R 3 w11 w0.heap.size (fun k_ => k_ ≠ gs) (.slice A11 (so ++ [i]).length c11) (so ++ [i]) from Z12 (Kd.R_lower (Kd.R_bound HO11.out) HB6.out.size) (fun k_ hk_ => Nat.ne_of_gt (Nat.lt_of_lt_of_le (blk_lt BG6.out) hk_.2.1)))
    refine (IH.out k1 Q49 w0 gs _ cL L al lf' w6 A9 _ c9 (X ++ [nx]) A11 _ c11 (so ++ [i]) (o2, true, lf2) w11 HL.out HCL.out BG11.out HG.out (Kept.of_below HB11.out _) HX11.out HT11.out (HB6.out.trans (HB11.out.mono HB6.out.size)) T4.out).mono ?_
    rintro e w12 ⟨v12, rfl, hr12, hg12, hk12, hb12⟩
    have HR12 := Ya hr12
    have BG12 := Ya hg12
    have HK12 := Ya (HK.out.then_ ((HQ.out.below HB11.out).then_ hk12 (fun _ h_ => .inl h_)) (fun _ h_ => .inl h_))
    have HB12 := Ya hb12
    clear hr12 hg12 hk12 hb12
    have hy2 : w12.cell? ⟨gs, 2, none⟩ = some (.int .i64 lf2) := (Z22 BG12.out 2).trans rfl
    go_wp2
    go_ret2
    first | exact ⟨_, rfl, HR12.out, BG12.out, HK12.out, HB12.out⟩ | exact ⟨rfl, _, HR12.out, BG12.out, HK12.out, HB12.out⟩
   simp only [Bool.false_eq_true, if_false] at H
   by_cases cz : lf2 < 0
   ·rw [if_pos cz] at H
    obtain rfl := Option.some.inj H
    have czb : decide (lf2 < 0) = true := Z37 cz
    clear H
    go_wp2_with (first | ((with_reducible refine gate_dst (N := 9) rfl ?_); refine Yx 9 #[.int .i64 0, .int .i64 0, .int .i64 0] 45 ?_; intro gb hg w3 hbox hb; have BX := Ya hb; have GX := Ya (show wr.heap.size ≤ gb by rw [hg]; exact Nat.le_refl _); have BO := Ya hbox; have hcz0 : w3.cell? ⟨gb, 0, none⟩ = some (.int .i64 0) := (Z22 hbox 0).trans rfl; have hcz1 : w3.cell? ⟨gb, 1, none⟩ = some (.int .i64 0) := (Z22 hbox 1).trans rfl; have hcz2 : w3.cell? ⟨gb, 2, none⟩ = some (.int .i64 0) := (Z22 hbox 2).trans rfl; have hfz0 := Z23 hbox 0; have hfz1 := Z23 hbox 1; have hfz2 := Z23 hbox 2; clear hb hbox hg))
    have b3 : Below wr.heap.size wr ((((w3.setCell ⟨gb, 0, none⟩ (.int .i64 (rd_T45 L i).f0)).setCell ⟨gb, 1, none⟩ (.int .i64 (rd_T45 L i).f1)).setCell ⟨gb, 2, none⟩ (.int .i64 (rd_T45 L i).f2)).drew) := Z4 (Z6 (Z6 (Z6 BX.out GX.out) GX.out) GX.out)
    have m3 : ((((w3.setCell ⟨gb, 0, none⟩ (.int .i64 (rd_T45 L i).f0)).setCell ⟨gb, 1, none⟩ (.int .i64 (rd_T45 L i).f1)).setCell ⟨gb, 2, none⟩ (.int .i64 (rd_T45 L i).f2)).drew).heap[gb]? = some (.cells #[.int .i64 (rd_T45 L i).f0, .int .i64 (rd_T45 L i).f1, .int .i64 (rd_T45 L i).f2] 45 (0, 0)) := Z25 (Z28 (Z28 (Z28 BO.out 0 _ rfl) 1 _ rfl) 2 _ rfl)
    have HBX := Ya b3
    have BM := Ya m3
    have GL := Ya (blk_lt BG.out)
    clear b3 m3 BX BO hcz0 hcz1 hcz2 hfz0 hfz1 hfz2 hx0 hx1 hx2
    refine start_ (n := 9) (S := fun w' => w'.cell? (aX.add (X.length - 1)) = some (.slice Al (rd_L2 X ((X.length : Int) - 1)).length cl') ∧ w'.cell? ⟨gb, 0, none⟩ = some (.int .i64 (rd_T45 L i).f0) ∧ w'.cell? ⟨gb, 1, none⟩ = some (.int .i64 (rd_T45 L i).f1) ∧ w'.cell? ⟨gb, 2, none⟩ = some (.int .i64 (rd_T45 L i).f2)) (ds := []) (YA 9 0) (by kernel_rfl) rfl rfl ⟨(HBX.out.cell (World.block_lt_of_cell? wr _ HX4.out)).trans HX4.out, (Z22 BM.out 0).trans rfl, (Z22 BM.out 1).trans rfl, (Z22 BM.out 2).trans rfl⟩ (fun hHeld => ?_)
    generalize World.drew _ = w4 at HBX BM hHeld ⊢
    refine Yq 0 (some 44) (YA 9 1) rfl ?_
    refine Yq 1 (some 45) (YA 9 3) rfl ?_
    refine Yq 2 (some 46) (YA 9 7) rfl ?_
    refine Yq 3 (some 47) (YA 9 15) rfl ?_
    refine Yq 4 (some 48) (YA 9 31) rfl ?_
    refine Ys 5 (some 49) (YA 9 63) rfl hHeld Q9 ?_
    refine Ys 6 (some 50) (YA 9 127) rfl hHeld Q9 ?_
    refine one_ (i := 7) (N := some 51) (YA 9 255) rfl rfl (by kernel_rfl) (by decide) (fun K hK => ?_)
    refine goes_ Try.func72 (by kernel_rfl) rfl #[.slice Al (rd_L2 X ((X.length : Int) - 1)).length cl', .agg #[.int .i64 (rd_T45 L i).f0, .int .i64 (rd_T45 L i).f1, .int .i64 (rd_T45 L i).f2]] (by rfl) rfl rfl Q34 ?_
    with_reducible refine (spec_moApply.calls k1 Al cl' (rd_L2 X ((X.length : Int) - 1)) (rd_T45 L i).f0 (rd_T45 L i).f1 (rd_T45 L i).f2 nx _ (Z21 HIE.out HBX.out) HLE.out T1.out).mono ?_
    rintro e w5 ⟨v5, rfl, ho5, hb5⟩
    refine ⟨_, rfl, ?_⟩
    obtain ⟨A5, c5, rfl⟩ := Z17 ho5
    have HN := Ya (show (Kd.int .i64).R 3 w5 w4.heap.size (fun k_ => k_ ≠ gs) (.slice A5 nx.length c5) nx from Z12 (Kd.R_bound ho5) (fun k_ hk_ => Nat.ne_of_gt (Nat.lt_of_lt_of_le GL.out (Nat.le_trans HBX.out.size hk_.2.1))))
    have n0_ := Ya (Z27 BM.out hb5)
    have n1_ := Ya (Z8 HBX.out hb5)
    have HWS := Ya HBX.out.size
    clear BM HBX ho5 hb5
    have BM := n0_
    have HBX := n1_
    clear n0_ n1_
    refine hK.out _ _ ⟨(HBX.out.cell (World.block_lt_of_cell? wr _ HX4.out)).trans HX4.out, (Z22 BM.out 0).trans rfl, (Z22 BM.out 1).trans rfl, (Z22 BM.out 2).trans rfl⟩ (fun hHeld => ?_)
    clear hK K
    refine norm_ (a' := ?_) ?_ ?_
    rotate_left
    ·show Act.put _ (some 51) _ = _
     simp only [Act.put, Z0, Z1, Z2, i64_w, i32_w]
     rfl
    refine Yq 8 (some 10) (YA 9 511) rfl ?_
    refine done_ (by kernel_rfl) ?_
    have HXW := Ya (Z21 HC1.out HBX.out)
    go_wp2_with fail
    refine (spec_raPlace.calls k1 _ cX X A5 c5 nx p _ HXW.out (Kd.R_reads' HX1.out).2.1 (Kd.R_reads' HN.out).2.2 (Kd.R_reads' HN.out).2.1 T2.out).mono ?_
    rintro e w6 ⟨rfl, hd6⟩
    have hb6 := Drawn0.below hd6
    have n0_ := Ya (Z14 HN.out hb6)
    have B6 := Ya (Z8 HBX.out hb6)
    clear HN HBX BM HXW hb6 hd6
    have HN := n0_
    clear n0_
    have BG6 := Ya (Z27 BG.out B6.out)
    have HQ := Ya (Kept.of_below B6.out (fun k_ => k_ = gs))
    have HB6 := Ya (HB.out.trans (B6.out.mono HB.out.size))
    have HN2 := Ya (Kd.R_lower HN.out (Nat.le_trans HB.out.size HWS.out))
    go_wp2_with (first | ((with_reducible refine gate_dst (N := 56) rfl ?_); refine Kd.R_lit (keptK (Kd.slice 3 (Kd.int .i64)) w6 (fun k_ => k_ = gs)) (w0 := w6) w6.heap.size 24 ?hg (N := 56) ?hd (xs := ([] : List (List Int))) (inner := []) (ok := fun _ => True) (okp := fun _ => False) ?hr ?hp (fun _ hk => hk.elim) trivial (Below.refl _ _) (Nat.le_refl _) (by simp) ?_; (case hd => rfl); (case hg => rfl); (case hr => first | (go_simp; done) | (go_simp; rfl)); (case hp => exact (Reps.none _ _)); intro v7 w7 ho hb hg hnew; have HO7 := Ya ho; have HB7 := Ya hb; clear ho hb hg hnew) | ((with_reducible refine gate_builtin (b := .append) (xs := #[.tmp 56, .tmp 57]) rfl ?_); at_builtin; refine Kd.R_append_rows (keptK (Kd.slice 3 (Kd.int .i64)) w6 (fun k_ => k_ = gs)) (Rr := fun x_ cs_ => ∀ W_, Kept w6 W_ (fun k_ => k_ = gs) → Kd.K (Kd.slice 3 (Kd.int .i64)) W_ x_ cs_) (w0 := w6) w6.heap.size rfl (.tmp 56) (.tmp 57) 50 24 (.slice none 0 0) 24 rfl Try.underlying50 info24 rfl (show 0 < 1 from Nat.one_pos) (by omega) v7 ([] : List (List Int)) X _ X.length cX (fun _ => True) (fun _ => False) rfl Q31 HO7.out ?rR (fun _ _ h_ => h_) (fun _ hk => hk.elim) (fun _ _ => trivial) HB7.out HB7.out.size ?rL ?_; (case rR => exact ReadsRow.imp_ (Kd.R_reads' (Z14 (Kd.R_kept HX1.out HQ.out (fun k_ hk_ e_ => hk_ e_)) HB7.out)).2.2 (Below.refl _ _) (fun _ _ hp_ W_ hW_ => hp_ W_ ((HZ1.out.then_ HQ.out (fun _ h_ => .inl h_)).then_ hW_ (fun _ h_ => .inl h_)))); (case rL => have := CX.out; simp only [List.length_nil]; omega); intro v8 w8 ho8 hb8 hg8 hat8; rw [List.nil_append] at ho8; have HO8 := Ya ho8; have HB8 := Ya hb8; clear HO7 HB7 ho8 hb8 hg8 hat8) | ((with_reducible refine gate_builtin (b := .append) (xs := #[.tmp 58, .tmp 60]) rfl ?_); at_builtin; refine Kd.R_append (keptK (Kd.slice 3 (Kd.int .i64)) w6 (fun k_ => k_ = gs)) (w0 := w6) w6.heap.size rfl (.tmp 58) (.tmp 60) 50 24 (.slice none 0 0) 24 rfl Try.underlying50 info24 rfl (show 0 < 1 from Nat.one_pos) (by omega) v8 X nx [.slice A5 nx.length c5] (fun _ => True) (fun _ => False) rfl Q31 ?aP (fun _ hk => hk.elim) (fun _ _ => trivial) HO8.out HB8.out HB8.out.size ?aL ?_; (case aP => exact fun W_ hW_ => ⟨A5, c5, rfl, (Kd.R_reads' HN2.out).2.1, Kd.C_kept_own HN2.out (fun _ hk_ e_ => hk_ e_) W_ hW_⟩); (case aL => have := CX.out; omega); intro v9 w9 ho9 hb9 hg9 hat9; have HO9 := Ya ho9; have HB9 := Ya hb9; clear HO8 HB8 ho9 hb9 hg9 hat9) | ((with_reducible refine gate_callee (f := 83) rfl ?_); refine Yz 66 Try.func83 #[.slice As st.length cs] ?_ (hargs := Q51); (with_reducible refine (spec_l1Own.calls As cs st so _ ?o1 ?o2 T3.out).mono ?_); (case o1 => exact (Kd.R_reads' (Z14 (Kd.R_kept HT1.out HQ.out (fun k_ hk_ e_ => hk_ e_)) HB9.out)).2.2); (case o2 => exact (Kd.R_reads' HT1.out).2.1); rintro e w10 ⟨v10, rfl, ho10, hb10⟩; refine ⟨_, rfl, ?_⟩; have HO10 := Ya (Kd.R_lower ho10 HB9.out.size); have n0_ := Ya (Z14 HO9.out hb10); have HB10 := Ya (Z8 HB9.out hb10); have n1_ := Ya (Z12 (Kd.R_bound HO9.out) (fun k_ hk_ => (⟨hk_.2.1, hk_.2.2.1⟩ : w6.heap.size ≤ k_ ∧ k_ < w9.heap.size))); have n2_ := Ya (Z14 n1_.out hb10); have HSZ := Ya (Kd.R_base ho10); clear HO9 HB9 n1_ n0_ ho10 hb10; have HO9 := n2_; clear n2_) | ((with_reducible refine gate_builtin (b := .append) (xs := #[.tmp 66, .tmp 68]) rfl ?_); at_builtin; refine Kd.R_append (Kd.int .i64) (w0 := w6) w6.heap.size rfl (.tmp 66) (.tmp 68) 24 3 (.int .i64 0) 8 rfl Try.underlying24 info3 rfl (by decide) (by omega) v10 so i [.int .i64 i] (fun _ => True) (fun _ => False) rfl Q31 ?bP (fun _ hk => hk.elim) (fun _ _ => trivial) HO10.out HB10.out HB10.out.size ?bL ?_; (case bP => exact rfl); (case bL => have := CS.out; omega); intro v11 w11 ho11 hb11 hg11 hat11; have n0_ := Ya (Kd.R_grown HO9.out hg11 (fun k_ hk_ e_ => by have := HSZ.out k_ e_.symm; omega)); have HO11 := Ya ho11; have HB11 := Ya hb11; clear HO9 HO10 HB10 HSZ ho11 hb11 hg11 hat11; have HO9 := n0_; clear n0_))
    obtain ⟨A9, c9, e9⟩ := Z17 HO9.out
    obtain ⟨A11, c11, e11⟩ := Z17 HO11.out
    subst e9 e11
    have BG11 := Ya (Z27 BG6.out HB11.out)
    have HX11 := Ya (show (keptK (Kd.slice 3 (Kd.int .i64)) w6 (fun k_ => k_ = gs)).R 24 w11 w0.heap.size (fun k_ => k_ ≠ gs) (.slice A9 (X ++ [nx]).length c9) (X ++ [nx]) from Z12 (Kd.R_lower HO9.out HB6.out.size) (fun k_ hk_ => Nat.ne_of_gt (Nat.lt_of_lt_of_le (blk_lt BG6.out) hk_.1)))
    have HT11 := Ya (show (Kd.int .i64).R 3 w11 w0.heap.size (fun k_ => k_ ≠ gs) (.slice A11 (so ++ [i]).length c11) (so ++ [i]) from Z12 (Kd.R_lower (Kd.R_bound HO11.out) HB6.out.size) (fun k_ hk_ => Nat.ne_of_gt (Nat.lt_of_lt_of_le (blk_lt BG6.out) hk_.2.1)))
    refine (IH.out k1 Q49 w0 gs _ cL L al lf' w6 A9 _ c9 (X ++ [nx]) A11 _ c11 (so ++ [i]) (o2, false, lf2) w11 HL.out HCL.out BG11.out HG.out (Kept.of_below HB11.out _) HX11.out HT11.out (HB6.out.trans (HB11.out.mono HB6.out.size)) T4.out).mono ?_
    rintro e w12 ⟨v12, rfl, hr12, hg12, hk12, hb12⟩
    have HR12 := Ya hr12
    have BG12 := Ya hg12
    have HK12 := Ya (HK.out.then_ ((HQ.out.below HB11.out).then_ hk12 (fun _ h_ => .inl h_)) (fun _ h_ => .inl h_))
    have HB12 := Ya hb12
    clear hr12 hg12 hk12 hb12
    have hy2 : w12.cell? ⟨gs, 2, none⟩ = some (.int .i64 lf2) := (Z22 BG12.out 2).trans rfl
    go_wp2
    go_ret2
    first | exact ⟨_, rfl, Kd.R_nil _ _ _ _ _, BG12.out, HK12.out, HB12.out⟩ | exact ⟨rfl, _, Kd.R_nil _ _ _ _ _, BG12.out, HK12.out, HB12.out⟩
   rw [if_neg cz] at H
   have czb : decide (lf2 < 0) = false := Z36 cz
   have H' := Ya H
   clear H
   go_wp2_with (first | ((with_reducible refine gate_dst (N := 9) rfl ?_); refine Yx 9 #[.int .i64 0, .int .i64 0, .int .i64 0] 45 ?_; intro gb hg w3 hbox hb; have BX := Ya hb; have GX := Ya (show wr.heap.size ≤ gb by rw [hg]; exact Nat.le_refl _); have BO := Ya hbox; have hcz0 : w3.cell? ⟨gb, 0, none⟩ = some (.int .i64 0) := (Z22 hbox 0).trans rfl; have hcz1 : w3.cell? ⟨gb, 1, none⟩ = some (.int .i64 0) := (Z22 hbox 1).trans rfl; have hcz2 : w3.cell? ⟨gb, 2, none⟩ = some (.int .i64 0) := (Z22 hbox 2).trans rfl; have hfz0 := Z23 hbox 0; have hfz1 := Z23 hbox 1; have hfz2 := Z23 hbox 2; clear hb hbox hg))
   have b3 : Below wr.heap.size wr ((((w3.setCell ⟨gb, 0, none⟩ (.int .i64 (rd_T45 L i).f0)).setCell ⟨gb, 1, none⟩ (.int .i64 (rd_T45 L i).f1)).setCell ⟨gb, 2, none⟩ (.int .i64 (rd_T45 L i).f2)).drew) := Z4 (Z6 (Z6 (Z6 BX.out GX.out) GX.out) GX.out)
   have m3 : ((((w3.setCell ⟨gb, 0, none⟩ (.int .i64 (rd_T45 L i).f0)).setCell ⟨gb, 1, none⟩ (.int .i64 (rd_T45 L i).f1)).setCell ⟨gb, 2, none⟩ (.int .i64 (rd_T45 L i).f2)).drew).heap[gb]? = some (.cells #[.int .i64 (rd_T45 L i).f0, .int .i64 (rd_T45 L i).f1, .int .i64 (rd_T45 L i).f2] 45 (0, 0)) := Z25 (Z28 (Z28 (Z28 BO.out 0 _ rfl) 1 _ rfl) 2 _ rfl)
   have HBX := Ya b3
   have BM := Ya m3
   have GL := Ya (blk_lt BG.out)
   clear b3 m3 BX BO hcz0 hcz1 hcz2 hfz0 hfz1 hfz2 hx0 hx1 hx2
   refine start_ (n := 9) (S := fun w' => w'.cell? (aX.add (X.length - 1)) = some (.slice Al (rd_L2 X ((X.length : Int) - 1)).length cl') ∧ w'.cell? ⟨gb, 0, none⟩ = some (.int .i64 (rd_T45 L i).f0) ∧ w'.cell? ⟨gb, 1, none⟩ = some (.int .i64 (rd_T45 L i).f1) ∧ w'.cell? ⟨gb, 2, none⟩ = some (.int .i64 (rd_T45 L i).f2)) (ds := []) (YA 9 0) (by kernel_rfl) rfl rfl ⟨(HBX.out.cell (World.block_lt_of_cell? wr _ HX4.out)).trans HX4.out, (Z22 BM.out 0).trans rfl, (Z22 BM.out 1).trans rfl, (Z22 BM.out 2).trans rfl⟩ (fun hHeld => ?_)
   generalize World.drew _ = w4 at HBX BM hHeld ⊢
   refine Yq 0 (some 44) (YA 9 1) rfl ?_
   refine Yq 1 (some 45) (YA 9 3) rfl ?_
   refine Yq 2 (some 46) (YA 9 7) rfl ?_
   refine Yq 3 (some 47) (YA 9 15) rfl ?_
   refine Yq 4 (some 48) (YA 9 31) rfl ?_
   refine Ys 5 (some 49) (YA 9 63) rfl hHeld Q9 ?_
   refine Ys 6 (some 50) (YA 9 127) rfl hHeld Q9 ?_
   refine one_ (i := 7) (N := some 51) (YA 9 255) rfl rfl (by kernel_rfl) (by decide) (fun K hK => ?_)
   refine goes_ Try.func72 (by kernel_rfl) rfl #[.slice Al (rd_L2 X ((X.length : Int) - 1)).length cl', .agg #[.int .i64 (rd_T45 L i).f0, .int .i64 (rd_T45 L i).f1, .int .i64 (rd_T45 L i).f2]] (by rfl) rfl rfl Q34 ?_
   with_reducible refine (spec_moApply.calls k1 Al cl' (rd_L2 X ((X.length : Int) - 1)) (rd_T45 L i).f0 (rd_T45 L i).f1 (rd_T45 L i).f2 nx _ (Z21 HIE.out HBX.out) HLE.out T1.out).mono ?_
   rintro e w5 ⟨v5, rfl, ho5, hb5⟩
   refine ⟨_, rfl, ?_⟩
   obtain ⟨A5, c5, rfl⟩ := Z17 ho5
   have HN := Ya (show (Kd.int .i64).R 3 w5 w4.heap.size (fun k_ => k_ ≠ gs) (.slice A5 nx.length c5) nx from Z12 (Kd.R_bound ho5) (fun k_ hk_ => Nat.ne_of_gt (Nat.lt_of_lt_of_le GL.out (Nat.le_trans HBX.out.size hk_.2.1))))
   have n0_ := Ya (Z27 BM.out hb5)
   have n1_ := Ya (Z8 HBX.out hb5)
   have HWS := Ya HBX.out.size
   clear BM HBX ho5 hb5
   have BM := n0_
   have HBX := n1_
   clear n0_ n1_
   refine hK.out _ _ ⟨(HBX.out.cell (World.block_lt_of_cell? wr _ HX4.out)).trans HX4.out, (Z22 BM.out 0).trans rfl, (Z22 BM.out 1).trans rfl, (Z22 BM.out 2).trans rfl⟩ (fun hHeld => ?_)
   clear hK K
   refine norm_ (a' := ?_) ?_ ?_
   rotate_left
   ·show Act.put _ (some 51) _ = _
    simp only [Act.put, Z0, Z1, Z2, i64_w, i32_w]
    rfl
   refine Yq 8 (some 10) (YA 9 511) rfl ?_
   refine done_ (by kernel_rfl) ?_
   have HXW := Ya (Z21 HC1.out HBX.out)
   go_wp2_with fail
   refine (spec_raPlace.calls k1 _ cX X A5 c5 nx p _ HXW.out (Kd.R_reads' HX1.out).2.1 (Kd.R_reads' HN.out).2.2 (Kd.R_reads' HN.out).2.1 T2.out).mono ?_
   rintro e w6 ⟨rfl, hd6⟩
   have hb6 := Drawn0.below hd6
   have n0_ := Ya (Z14 HN.out hb6)
   have B6 := Ya (Z8 HBX.out hb6)
   clear HN HBX BM HXW hb6 hd6
   have HN := n0_
   clear n0_
   have BG6 := Ya (Z27 BG.out B6.out)
   have HQ := Ya (Kept.of_below B6.out (fun k_ => k_ = gs))
   have HB6 := Ya (HB.out.trans (B6.out.mono HB.out.size))
   have HN2 := Ya (Kd.R_lower HN.out (Nat.le_trans HB.out.size HWS.out))
   go_wp2_with (first | ((with_reducible refine gate_dst (N := 56) rfl ?_); refine Kd.R_lit (keptK (Kd.slice 3 (Kd.int .i64)) w6 (fun k_ => k_ = gs)) (w0 := w6) w6.heap.size 24 ?hg (N := 56) ?hd (xs := ([] : List (List Int))) (inner := []) (ok := fun _ => True) (okp := fun _ => False) ?hr ?hp (fun _ hk => hk.elim) trivial (Below.refl _ _) (Nat.le_refl _) (by simp) ?_; (case hd => rfl); (case hg => rfl); (case hr => first | (go_simp; done) | (go_simp; rfl)); (case hp => exact (Reps.none _ _)); intro v7 w7 ho hb hg hnew; have HO7 := Ya ho; have HB7 := Ya hb; clear ho hb hg hnew) | ((with_reducible refine gate_builtin (b := .append) (xs := #[.tmp 56, .tmp 57]) rfl ?_); at_builtin; refine Kd.R_append_rows (keptK (Kd.slice 3 (Kd.int .i64)) w6 (fun k_ => k_ = gs)) (Rr := fun x_ cs_ => ∀ W_, Kept w6 W_ (fun k_ => k_ = gs) → Kd.K (Kd.slice 3 (Kd.int .i64)) W_ x_ cs_) (w0 := w6) w6.heap.size rfl (.tmp 56) (.tmp 57) 50 24 (.slice none 0 0) 24 rfl Try.underlying50 info24 rfl (show 0 < 1 from Nat.one_pos) (by omega) v7 ([] : List (List Int)) X _ X.length cX (fun _ => True) (fun _ => False) rfl Q31 HO7.out ?rR (fun _ _ h_ => h_) (fun _ hk => hk.elim) (fun _ _ => trivial) HB7.out HB7.out.size ?rL ?_; (case rR => exact ReadsRow.imp_ (Kd.R_reads' (Z14 (Kd.R_kept HX1.out HQ.out (fun k_ hk_ e_ => hk_ e_)) HB7.out)).2.2 (Below.refl _ _) (fun _ _ hp_ W_ hW_ => hp_ W_ ((HZ1.out.then_ HQ.out (fun _ h_ => .inl h_)).then_ hW_ (fun _ h_ => .inl h_)))); (case rL => have := CX.out; simp only [List.length_nil]; omega); intro v8 w8 ho8 hb8 hg8 hat8; rw [List.nil_append] at ho8; have HO8 := Ya ho8; have HB8 := Ya hb8; clear HO7 HB7 ho8 hb8 hg8 hat8) | ((with_reducible refine gate_builtin (b := .append) (xs := #[.tmp 58, .tmp 60]) rfl ?_); at_builtin; refine Kd.R_append (keptK (Kd.slice 3 (Kd.int .i64)) w6 (fun k_ => k_ = gs)) (w0 := w6) w6.heap.size rfl (.tmp 58) (.tmp 60) 50 24 (.slice none 0 0) 24 rfl Try.underlying50 info24 rfl (show 0 < 1 from Nat.one_pos) (by omega) v8 X nx [.slice A5 nx.length c5] (fun _ => True) (fun _ => False) rfl Q31 ?aP (fun _ hk => hk.elim) (fun _ _ => trivial) HO8.out HB8.out HB8.out.size ?aL ?_; (case aP => exact fun W_ hW_ => ⟨A5, c5, rfl, (Kd.R_reads' HN2.out).2.1, Kd.C_kept_own HN2.out (fun _ hk_ e_ => hk_ e_) W_ hW_⟩); (case aL => have := CX.out; omega); intro v9 w9 ho9 hb9 hg9 hat9; have HO9 := Ya ho9; have HB9 := Ya hb9; clear HO8 HB8 ho9 hb9 hg9 hat9) | ((with_reducible refine gate_callee (f := 83) rfl ?_); refine Yz 66 Try.func83 #[.slice As st.length cs] ?_ (hargs := Q51); (with_reducible refine (spec_l1Own.calls As cs st so _ ?o1 ?o2 T3.out).mono ?_); (case o1 => exact (Kd.R_reads' (Z14 (Kd.R_kept HT1.out HQ.out (fun k_ hk_ e_ => hk_ e_)) HB9.out)).2.2); (case o2 => exact (Kd.R_reads' HT1.out).2.1); rintro e w10 ⟨v10, rfl, ho10, hb10⟩; refine ⟨_, rfl, ?_⟩; have HO10 := Ya (Kd.R_lower ho10 HB9.out.size); have n0_ := Ya (Z14 HO9.out hb10); have HB10 := Ya (Z8 HB9.out hb10); have n1_ := Ya (Z12 (Kd.R_bound HO9.out) (fun k_ hk_ => (⟨hk_.2.1, hk_.2.2.1⟩ : w6.heap.size ≤ k_ ∧ k_ < w9.heap.size))); have n2_ := Ya (Z14 n1_.out hb10); have HSZ := Ya (Kd.R_base ho10); clear HO9 HB9 n1_ n0_ ho10 hb10; have HO9 := n2_; clear n2_) | ((with_reducible refine gate_builtin (b := .append) (xs := #[.tmp 66, .tmp 68]) rfl ?_); at_builtin; refine Kd.R_append (Kd.int .i64) (w0 := w6) w6.heap.size rfl (.tmp 66) (.tmp 68) 24 3 (.int .i64 0) 8 rfl Try.underlying24 info3 rfl (by decide) (by omega) v10 so i [.int .i64 i] (fun _ => True) (fun _ => False) rfl Q31 ?bP (fun _ hk => hk.elim) (fun _ _ => trivial) HO10.out HB10.out HB10.out.size ?bL ?_; (case bP => exact rfl); (case bL => have := CS.out; omega); intro v11 w11 ho11 hb11 hg11 hat11; have n0_ := Ya (Kd.R_grown HO9.out hg11 (fun k_ hk_ e_ => by have := HSZ.out k_ e_.symm; omega)); have HO11 := Ya ho11; have HB11 := Ya hb11; clear HO9 HO10 HB10 HSZ ho11 hb11 hg11 hat11; have HO9 := n0_; clear n0_))
   obtain ⟨A9, c9, e9⟩ := Z17 HO9.out
   obtain ⟨A11, c11, e11⟩ := Z17 HO11.out
   subst e9 e11
   have BG11 := Ya (Z27 BG6.out HB11.out)
   have HX11 := Ya (show (keptK (Kd.slice 3 (Kd.int .i64)) w6 (fun k_ => k_ = gs)).R 24 w11 w0.heap.size (fun k_ => k_ ≠ gs) (.slice A9 (X ++ [nx]).length c9) (X ++ [nx]) from Z12 (Kd.R_lower HO9.out HB6.out.size) (fun k_ hk_ => Nat.ne_of_gt (Nat.lt_of_lt_of_le (blk_lt BG6.out) hk_.1)))
   have HT11 := Ya (show (Kd.int .i64).R 3 w11 w0.heap.size (fun k_ => k_ ≠ gs) (.slice A11 (so ++ [i]).length c11) (so ++ [i]) from Z12 (Kd.R_lower (Kd.R_bound HO11.out) HB6.out.size) (fun k_ hk_ => Nat.ne_of_gt (Nat.lt_of_lt_of_le (blk_lt BG6.out) hk_.2.1)))
   refine (IH.out k1 Q49 w0 gs _ cL L al lf' w6 A9 _ c9 (X ++ [nx]) A11 _ c11 (so ++ [i]) (o2, false, lf2) w11 HL.out HCL.out BG11.out HG.out (Kept.of_below HB11.out _) HX11.out HT11.out (HB6.out.trans (HB11.out.mono HB6.out.size)) T4.out).mono ?_
   rintro e w12 ⟨v12, rfl, hr12, hg12, hk12, hb12⟩
   have HR12 := Ya hr12
   have BG12 := Ya hg12
   have HK12 := Ya (HK.out.then_ ((HQ.out.below HB11.out).then_ hk12 (fun _ h_ => .inl h_)) (fun _ h_ => .inl h_))
   have HB12 := Ya hb12
   clear hr12 hg12 hk12 hb12
   have hy2 : w12.cell? ⟨gs, 2, none⟩ = some (.int .i64 lf2) := (Z22 BG12.out 2).trans rfl
   go_wp2
   go_roundg k1
   case measure => have := HK1.out; omega
   case rel => exact ⟨wrap64 (i + 1), lf2, rfl, H', ⟨Q22⟩, BG12, HK12, HB12⟩
open Go.Proofs.Ytllhnnjkonghlaa.FpW in
set_option maxHeartbeats 8000000 in
set_option maxRecDepth 100000 in
theorem spec_FirstPath.calls (k : Nat) (a0 : Int) (A1 : Option Addr) (c1 : Nat) (l1 : List (S45)) (a2 : Int) (r1 : List Int) (r2 : Bool) (w : World) (hr1 : Kd.C k45 w A1 l1.length l1) (hc1 : l1.length ≤ c1) (h : spec_FirstPath.f k a0 l1 a2 = some (r1, r2)) :
  Calls Try.prog 7 #[.int .i64 a0, .slice A1 l1.length c1, .int .i64 a2] w fun e w' => ∃ v0_ : Value, e = .returned (.tuple #[v0_, .bool r2]) ∧ Kd.R (Kd.int .i64) 3 w' w.heap.size (fun _ => True) v0_ r1 ∧ Below w.heap.size w w' := by
 have HR1 := Ya hr1
 have HC1 := Ya hc1
 unfold spec_FirstPath.f at h
 obtain ⟨t1, h1, H⟩ := Z35.mp h
 have T1 := Ya h1
 clear h h1 hr1 hc1
 cases t1
 ·simp only [Bool.false_eq_true, if_false, Option.some.injEq, Prod.mk.injEq] at H
  obtain ⟨rfl, rfl⟩ := H
  go_enter Try.func7, Try.ntmps7
  go_wp2_with fail
  refine (spec_moTask.calls k a0 A1 c1 l1 false _ HR1.out HC1.out T1.out).mono ?_
  rintro e w1 ⟨rfl, hb1⟩
  have HB := Ya hb1
  clear hb1
  go_wp2
  go_ret2
  exact ⟨_, rfl, Kd.R_nil _ _ _ _ _, HB.out⟩
 simp only [if_true] at H
 by_cases cg : 4 < a0
 ·rw [if_pos cg] at H
  simp only [Option.some.injEq, Prod.mk.injEq] at H
  obtain ⟨rfl, rfl⟩ := H
  have cgb : decide (4 < a0) = true := Z37 cg
  go_enter Try.func7, Try.ntmps7
  go_wp2_with fail
  refine (spec_moTask.calls k a0 A1 c1 l1 true _ HR1.out HC1.out T1.out).mono ?_
  rintro e w1 ⟨rfl, hb1⟩
  have HB := Ya hb1
  clear hb1
  go_wp2
  go_ret2
  exact ⟨_, rfl, Kd.R_nil _ _ _ _ _, HB.out⟩
 rw [if_neg cg] at H
 have cgb : decide (4 < a0) = false := Z36 cg
 replace H := Z35.mp H
 obtain ⟨t2, h2, H⟩ := H
 have T2 := Ya h2
 clear h2
 cases t2
 ·simp only [Bool.false_eq_true, if_false, Option.some.injEq, Prod.mk.injEq] at H
  obtain ⟨rfl, rfl⟩ := H
  go_enter Try.func7, Try.ntmps7
  go_wp2_with fail
  refine (spec_moTask.calls k a0 A1 c1 l1 true _ HR1.out HC1.out T1.out).mono ?_
  rintro e w1 ⟨rfl, hb1⟩
  have HB := Ya hb1
  clear hb1
  go_wp2_with fail
  refine (spec_l1In.calls a2 1 4000 false _ T2.out).mono ?_
  rintro e w2 ⟨rfl, hd2⟩
  have hb2 := Drawn0.below hd2
  replace HB := Ya (Z8 HB.out hb2)
  clear hb2 hd2
  go_wp2
  go_ret2
  exact ⟨_, rfl, Kd.R_nil _ _ _ _ _, HB.out⟩
 simp only [if_true] at H
 replace H := Z35.mp H
 obtain ⟨al, h3, H⟩ := H
 replace H := Z35.mp H
 obtain ⟨s, h4, H⟩ := H
 replace H := Z35.mp H
 obtain ⟨⟨o2, ok2, lf2⟩, h5, H⟩ := H
 simp only [Option.some.injEq, Prod.mk.injEq] at H
 obtain ⟨rfl, rfl⟩ := H
 have T3 := Ya h3
 have T4 := Ya h4
 have T5 := Ya h5
 clear h3 h4 h5
 go_enter Try.func7, Try.ntmps7
 go_wp2_with fail
 refine (spec_moTask.calls k a0 A1 c1 l1 true _ HR1.out HC1.out T1.out).mono ?_
 rintro e w1 ⟨rfl, hb1⟩
 have HB := Ya hb1
 clear hb1
 go_wp2_with fail
 refine (spec_l1In.calls a2 1 4000 true _ T2.out).mono ?_
 rintro e w2 ⟨rfl, hd2⟩
 have hb2 := Drawn0.below hd2
 replace HB := Ya (Z8 HB.out hb2)
 clear hb2 hd2
 go_wp2_with fail
 refine (spec_raFactorial.calls k a0 al _ T3.out).mono ?_
 rintro e w3 ⟨rfl, hd3⟩
 have hb3 := Drawn0.below hd3
 replace HB := Ya (Z8 HB.out hb3)
 clear hb3 hd3
 go_wp2_with (first | ((with_reducible refine gate_dst (N := 27) rfl ?_); refine Yx 27 #[.slice A1 l1.length c1, .int .i64 al, .int .i64 a2] 68 ?_; intro gs hg w4 hbox hb; have BG := Ya hbox; have GG := Ya (show w.heap.size ≤ gs by rw [hg]; exact HB.out.size); have HB4 := Ya (Z8 HB.out hb); clear HB hb hbox hg) | ((with_reducible refine gate_callee (f := 45) rfl ?_); refine Yz 30 Try.func45 #[.int .i64 a0] ?_ (hargs := Q51); (with_reducible refine (spec_raUpTo.calls k a0 s _ T4.out).mono ?_); rintro e w5 ⟨v5, rfl, ho5, hb5⟩; refine ⟨_, rfl, ?_⟩; obtain ⟨Af, cf, ef⟩ := Z17 ho5; subst ef; have HF := Ya (show (Kd.int .i64).R 3 w5 w4.heap.size (fun k_ => k_ ≠ gs) (.slice Af s.length cf) s from Z12 (Kd.R_bound ho5) (fun k_ hk_ => Nat.ne_of_gt (Nat.lt_of_lt_of_le (blk_lt BG.out) hk_.2.1))); have n0_ := Ya (Z27 BG.out hb5); have HB5 := Ya (Z8 HB4.out hb5); clear BG HB4 ho5 hb5; have BG := n0_; clear n0_) | ((with_reducible refine gate_dst (N := 31) rfl ?_); refine Kd.R_lit (keptK (Kd.slice 3 (Kd.int .i64)) w5 (fun k_ => k_ = gs)) (w0 := w5) w5.heap.size 24 ?hg (N := 31) ?hd (xs := [s]) (inner := [.slice Af s.length cf]) (ok := fun _ => True) (okp := fun _ => False) ?hr ?hp (fun _ hk => hk.elim) trivial (Below.refl _ _) (Nat.le_refl _) (by simp) ?_; (case hd => rfl); (case hg => rfl); (case hr => first | (go_simp; done) | (go_simp; rfl)); (case hp => exact (Reps.one (show Kd.M (keptK (Kd.slice 3 (Kd.int .i64)) w5 (fun k_ => k_ = gs)) _ _ _ s [.slice Af s.length cf] from fun W_ hW_ => ⟨Af, cf, rfl, (Kd.R_reads' HF.out).2.1, Kd.C_kept_own HF.out (fun _ hk_ e_ => hk_ e_) W_ hW_⟩) (Reps.none _ _))); intro v6 w6 ho hb hg hnew; obtain ⟨A6, c6, e6⟩ := Z17 ho; rw [show [s].length = 1 from rfl] at e6; subst e6; have HO6 := Ya ho; have HB6 := Ya hb; clear ho hb hg hnew))
 refine (spec_FirstPath.find k w gs A1 c1 l1 al a2 w5 A6 _ c6 [s] none 0 0 [] (o2, ok2, lf2) w6 HR1.out HC1.out (Z27 BG.out HB6.out) GG.out (Kept.of_below HB6.out _) (Z12 (Kd.R_lower (Kd.R_bound HO6.out) HB5.out.size) (fun k_ hk_ => Nat.ne_of_gt (Nat.lt_of_lt_of_le (blk_lt BG.out) hk_.2.1))) (Kd.R_nil _ _ _ _ _) (HB5.out.trans (HB6.out.mono HB5.out.size)) T5.out).mono ?_
 rintro e w7 ⟨v7, rfl, hr7, hg7, hk7, hb7⟩
 have HR7 := Ya hr7
 have HB7 := Ya hb7
 clear hr7 hg7 hk7 hb7
 go_wp2
 go_ret2
 exact ⟨_, rfl, HR7.out, HB7.out⟩
def impl_within.f (a0 : Int) (a1 : Int) (a2 : Int) : Option (Bool) := if a0 ≥ a1 then (some (decide (a0 ≤ a2))) else (some false)
set_option maxHeartbeats 8000000 in
set_option maxRecDepth 100000 in
theorem impl_within.calls (a0 : Int) (a1 : Int) (a2 : Int) (r : Bool) (w : World) (h : impl_within.f a0 a1 a2 = some r) :
  Calls Try.prog 48 #[.int .i64 a0, .int .i64 a1, .int .i64 a2] w fun e w' => e = .returned (.bool r) ∧ Drawn0 w w' := by
 have H : (if a0 ≥ a1 then (some (decide (a0 ≤ a2))) else (some false)) = some r := h
 clear h
 by_cases c4 : a0 ≥ a1
 ·rw [if_pos c4] at H
  have c4b0 : decide (a1 ≤ a0) = true := Z37 c4
  clear c4
  obtain rfl := Option.some.inj H
  go_enter Try.func48, Try.ntmps48
  go_wp2
  go_ret
  exact ⟨Q16, Q8⟩
 ·rw [if_neg c4] at H
  have c4b0 : decide (a1 ≤ a0) = false := Z36 c4
  clear c4
  obtain rfl := Option.some.inj H
  go_enter Try.func48, Try.ntmps48
  go_wp2
  go_ret
  exact ⟨Q16, Q8⟩
def impl_isMove.f (a0 : Int) (a1_0 : Int) (a1_1 : Int) (a1_2 : Int) : Option (Bool) := if a1_0 = 0 then (if 0 ≤ a1_1 then (if a1_1 < a1_2 then (some (decide (a1_2 < a0))) else (some false)) else (some false)) else (if a1_0 = 1 then ((impl_within.f a1_1 2 a0).bind fun t137 => (if t137 = true then (some (a1_2 == 0)) else (some false))) else (if a1_0 = 2 then ((impl_within.f a1_1 2 a0).bind fun t138 => (if t138 = true then (some (a1_2 == 0)) else (some false))) else (some false)))
set_option maxHeartbeats 8000000 in
set_option maxRecDepth 100000 in
theorem impl_isMove.calls (a0 : Int) (a1_0 : Int) (a1_1 : Int) (a1_2 : Int) (r : Bool) (w : World) (h : impl_isMove.f a0 a1_0 a1_1 a1_2 = some r) :
  Calls Try.prog 63 #[.int .i64 a0, .agg #[.int .i64 a1_0, .int .i64 a1_1, .int .i64 a1_2]] w fun e w' => e = .returned (.bool r) ∧ Below w.heap.size w w' := by
 have hu45 := Try.underlying45
 have HB := Ya (Below.refl w.heap.size w)
 have H : (if a1_0 = 0 then (if 0 ≤ a1_1 then (if a1_1 < a1_2 then (some (decide (a1_2 < a0))) else (some false)) else (some false)) else (if a1_0 = 1 then ((impl_within.f a1_1 2 a0).bind fun t137 => (if t137 = true then (some (a1_2 == 0)) else (some false))) else (if a1_0 = 2 then ((impl_within.f a1_1 2 a0).bind fun t138 => (if t138 = true then (some (a1_2 == 0)) else (some false))) else (some false)))) = some r := h
 clear h
 by_cases c3 : a1_0 = 0
 ·rw [if_pos c3] at H
  have c3b0 : (a1_0 == 0) = true := beq_iff_eq.mpr c3
  have c3b1 : (a1_0 != 0) = false := bne_eq_false_iff_eq.mpr c3
  clear c3
  by_cases c4 : 0 ≤ a1_1
  ·rw [if_pos c4] at H
   have c4b0 := Z37 c4
   clear c4
   by_cases c5 : a1_1 < a1_2
   ·rw [if_pos c5] at H
    have c5b0 := Z37 c5
    clear c5
    obtain rfl := Option.some.inj H
    go_enter Try.func63, Try.ntmps63
    go_wp2_with (first | ((with_reducible refine gate_dst (N := 3) rfl ?_); refine Yx 3 #[.int .i64 a1_0, .int .i64 a1_1, .int .i64 a1_2] 45 ?_; intro gb136 hg w6 hbox hb; have BK136 := Ya hbox; have GE136 := Yg hg; replace HB := Yh hb; clear hb hbox hg; have hcz7_0 : w6.cell? ⟨gb136, 0, none⟩ = some (.int .i64 a1_0) := (Z22 BK136.out 0).trans rfl; have hcz7_1 : w6.cell? ⟨gb136, 1, none⟩ = some (.int .i64 a1_1) := (Z22 BK136.out 1).trans rfl; have hcz7_2 : w6.cell? ⟨gb136, 2, none⟩ = some (.int .i64 a1_2) := (Z22 BK136.out 2).trans rfl; have hfz7_0 := Z23 BK136.out 0; have hfz7_1 := Z23 BK136.out 1; have hfz7_2 := Z23 BK136.out 2))
    go_ret
    exact ⟨Q2, Q0⟩
   ·rw [if_neg c5] at H
    have c5b0 := Z36 c5
    clear c5
    obtain rfl := Option.some.inj H
    go_enter Try.func63, Try.ntmps63
    go_wp2_with (first | ((with_reducible refine gate_dst (N := 3) rfl ?_); refine Yx 3 #[.int .i64 a1_0, .int .i64 a1_1, .int .i64 a1_2] 45 ?_; intro gb136 hg w8 hbox hb; have BK136 := Ya hbox; have GE136 := Yg hg; replace HB := Yh hb; clear hb hbox hg; have hcz9_0 : w8.cell? ⟨gb136, 0, none⟩ = some (.int .i64 a1_0) := (Z22 BK136.out 0).trans rfl; have hcz9_1 : w8.cell? ⟨gb136, 1, none⟩ = some (.int .i64 a1_1) := (Z22 BK136.out 1).trans rfl; have hcz9_2 : w8.cell? ⟨gb136, 2, none⟩ = some (.int .i64 a1_2) := (Z22 BK136.out 2).trans rfl; have hfz9_0 := Z23 BK136.out 0; have hfz9_1 := Z23 BK136.out 1; have hfz9_2 := Z23 BK136.out 2))
    go_ret
    exact ⟨Q2, Q0⟩
  ·rw [if_neg c4] at H
   have c4b0 := Z36 c4
   clear c4
   obtain rfl := Option.some.inj H
   go_enter Try.func63, Try.ntmps63
   go_wp2_with (first | ((with_reducible refine gate_dst (N := 3) rfl ?_); refine Yx 3 #[.int .i64 a1_0, .int .i64 a1_1, .int .i64 a1_2] 45 ?_; intro gb136 hg w10 hbox hb; have BK136 := Ya hbox; have GE136 := Yg hg; replace HB := Yh hb; clear hb hbox hg; have hcz11_0 : w10.cell? ⟨gb136, 0, none⟩ = some (.int .i64 a1_0) := (Z22 BK136.out 0).trans rfl; have hcz11_1 : w10.cell? ⟨gb136, 1, none⟩ = some (.int .i64 a1_1) := (Z22 BK136.out 1).trans rfl; have hcz11_2 : w10.cell? ⟨gb136, 2, none⟩ = some (.int .i64 a1_2) := (Z22 BK136.out 2).trans rfl; have hfz11_0 := Z23 BK136.out 0; have hfz11_1 := Z23 BK136.out 1; have hfz11_2 := Z23 BK136.out 2))
   go_ret
   exact ⟨Q2, Q0⟩
 ·rw [if_neg c3] at H
  have c3b0 : (a1_0 == 0) = false := beq_eq_false_iff_ne.mpr c3
  have c3b1 : (a1_0 != 0) = true := bne_iff_ne.mpr c3
  by_cases c12 : a1_0 = 1
  ·rw [if_pos c12] at H
   have c12b0 : (a1_0 == 1) = true := beq_iff_eq.mpr c12
   have c12b1 : (a1_0 != 1) = false := bne_eq_false_iff_eq.mpr c12
   clear c12
   replace H := Z35.mp H
   obtain ⟨t137, A130, H⟩ := H
   replace H : (if t137 = true then (some (a1_2 == 0)) else (some false)) = some r := H
   have A13 := Ya A130
   clear A130
   by_cases c14 : t137 = true
   ·subst c14
    have H1 : (some (a1_2 == 0)) = some r := by rw [if_pos rfl] at H; exact H
    clear H
    have H := H1
    clear H1
    obtain rfl := Option.some.inj H
    go_enter Try.func63, Try.ntmps63
    go_wp2_with (first | ((with_reducible refine gate_dst (N := 3) rfl ?_); refine Yx 3 #[.int .i64 a1_0, .int .i64 a1_1, .int .i64 a1_2] 45 ?_; intro gb136 hg w15 hbox hb; have BK136 := Ya hbox; have GE136 := Yg hg; replace HB := Yh hb; clear hb hbox hg; have hcz16_0 : w15.cell? ⟨gb136, 0, none⟩ = some (.int .i64 a1_0) := (Z22 BK136.out 0).trans rfl; have hcz16_1 : w15.cell? ⟨gb136, 1, none⟩ = some (.int .i64 a1_1) := (Z22 BK136.out 1).trans rfl; have hcz16_2 : w15.cell? ⟨gb136, 2, none⟩ = some (.int .i64 a1_2) := (Z22 BK136.out 2).trans rfl; have hfz16_0 := Z23 BK136.out 0; have hfz16_1 := Z23 BK136.out 1; have hfz16_2 := Z23 BK136.out 2) | ((with_reducible refine gate_callee (f := 48) rfl ?_); refine Yz 31 Try.func48 #[.int .i64 a1_1, .int .i64 2, .int .i64 a0] ?_; (with_reducible refine (impl_within.calls a1_1 2 a0 true _ A13.out).mono ?_); rintro e w' ⟨rfl, ⟨nd, rfl⟩⟩; refine ⟨_, rfl, ?_⟩))
    go_ret
    exact ⟨Q2, Q0⟩
   ·replace c14 := Bool.eq_false_iff.mpr c14
    subst c14
    have H1 : (some false) = some r := by rw [if_neg (show ¬ (false = true) by decide)] at H; exact H
    clear H
    have H := H1
    clear H1
    obtain rfl := Option.some.inj H
    go_enter Try.func63, Try.ntmps63
    go_wp2_with (first | ((with_reducible refine gate_dst (N := 3) rfl ?_); refine Yx 3 #[.int .i64 a1_0, .int .i64 a1_1, .int .i64 a1_2] 45 ?_; intro gb136 hg w17 hbox hb; have BK136 := Ya hbox; have GE136 := Yg hg; replace HB := Yh hb; clear hb hbox hg; have hcz18_0 : w17.cell? ⟨gb136, 0, none⟩ = some (.int .i64 a1_0) := (Z22 BK136.out 0).trans rfl; have hcz18_1 : w17.cell? ⟨gb136, 1, none⟩ = some (.int .i64 a1_1) := (Z22 BK136.out 1).trans rfl; have hcz18_2 : w17.cell? ⟨gb136, 2, none⟩ = some (.int .i64 a1_2) := (Z22 BK136.out 2).trans rfl; have hfz18_0 := Z23 BK136.out 0; have hfz18_1 := Z23 BK136.out 1; have hfz18_2 := Z23 BK136.out 2) | ((with_reducible refine gate_callee (f := 48) rfl ?_); refine Yz 31 Try.func48 #[.int .i64 a1_1, .int .i64 2, .int .i64 a0] ?_; (with_reducible refine (impl_within.calls a1_1 2 a0 false _ A13.out).mono ?_); rintro e w' ⟨rfl, ⟨nd, rfl⟩⟩; refine ⟨_, rfl, ?_⟩))
    go_ret
    exact ⟨Q2, Q0⟩
  ·rw [if_neg c12] at H
   have c12b0 : (a1_0 == 1) = false := beq_eq_false_iff_ne.mpr c12
   have c12b1 : (a1_0 != 1) = true := bne_iff_ne.mpr c12
   by_cases c19 : a1_0 = 2
   ·rw [if_pos c19] at H
    have c19b0 : (a1_0 == 2) = true := beq_iff_eq.mpr c19
    have c19b1 : (a1_0 != 2) = false := bne_eq_false_iff_eq.mpr c19
    clear c19
    replace H := Z35.mp H
    obtain ⟨t138, A200, H⟩ := H
    replace H : (if t138 = true then (some (a1_2 == 0)) else (some false)) = some r := H
    have A20 := Ya A200
    clear A200
    by_cases c21 : t138 = true
    ·subst c21
     have H1 : (some (a1_2 == 0)) = some r := by rw [if_pos rfl] at H; exact H
     clear H
     have H := H1
     clear H1
     obtain rfl := Option.some.inj H
     go_enter Try.func63, Try.ntmps63
     go_wp2_with (first | ((with_reducible refine gate_dst (N := 3) rfl ?_); refine Yx 3 #[.int .i64 a1_0, .int .i64 a1_1, .int .i64 a1_2] 45 ?_; intro gb136 hg w22 hbox hb; have BK136 := Ya hbox; have GE136 := Yg hg; replace HB := Yh hb; clear hb hbox hg; have hcz23_0 : w22.cell? ⟨gb136, 0, none⟩ = some (.int .i64 a1_0) := (Z22 BK136.out 0).trans rfl; have hcz23_1 : w22.cell? ⟨gb136, 1, none⟩ = some (.int .i64 a1_1) := (Z22 BK136.out 1).trans rfl; have hcz23_2 : w22.cell? ⟨gb136, 2, none⟩ = some (.int .i64 a1_2) := (Z22 BK136.out 2).trans rfl; have hfz23_0 := Z23 BK136.out 0; have hfz23_1 := Z23 BK136.out 1; have hfz23_2 := Z23 BK136.out 2) | ((with_reducible refine gate_callee (f := 48) rfl ?_); refine Yz 31 Try.func48 #[.int .i64 a1_1, .int .i64 2, .int .i64 a0] ?_; (with_reducible refine (impl_within.calls a1_1 2 a0 true _ A20.out).mono ?_); rintro e w' ⟨rfl, ⟨nd, rfl⟩⟩; refine ⟨_, rfl, ?_⟩))
     go_ret
     exact ⟨Q2, Q0⟩
    ·replace c21 := Bool.eq_false_iff.mpr c21
     subst c21
     have H1 : (some false) = some r := by rw [if_neg (show ¬ (false = true) by decide)] at H; exact H
     clear H
     have H := H1
     clear H1
     obtain rfl := Option.some.inj H
     go_enter Try.func63, Try.ntmps63
     go_wp2_with (first | ((with_reducible refine gate_dst (N := 3) rfl ?_); refine Yx 3 #[.int .i64 a1_0, .int .i64 a1_1, .int .i64 a1_2] 45 ?_; intro gb136 hg w24 hbox hb; have BK136 := Ya hbox; have GE136 := Yg hg; replace HB := Yh hb; clear hb hbox hg; have hcz25_0 : w24.cell? ⟨gb136, 0, none⟩ = some (.int .i64 a1_0) := (Z22 BK136.out 0).trans rfl; have hcz25_1 : w24.cell? ⟨gb136, 1, none⟩ = some (.int .i64 a1_1) := (Z22 BK136.out 1).trans rfl; have hcz25_2 : w24.cell? ⟨gb136, 2, none⟩ = some (.int .i64 a1_2) := (Z22 BK136.out 2).trans rfl; have hfz25_0 := Z23 BK136.out 0; have hfz25_1 := Z23 BK136.out 1; have hfz25_2 := Z23 BK136.out 2) | ((with_reducible refine gate_callee (f := 48) rfl ?_); refine Yz 31 Try.func48 #[.int .i64 a1_1, .int .i64 2, .int .i64 a0] ?_; (with_reducible refine (impl_within.calls a1_1 2 a0 false _ A20.out).mono ?_); rintro e w' ⟨rfl, ⟨nd, rfl⟩⟩; refine ⟨_, rfl, ?_⟩))
     go_ret
     exact ⟨Q2, Q0⟩
   ·rw [if_neg c19] at H
    have c19b0 : (a1_0 == 2) = false := beq_eq_false_iff_ne.mpr c19
    have c19b1 : (a1_0 != 2) = true := bne_iff_ne.mpr c19
    obtain rfl := Option.some.inj H
    go_enter Try.func63, Try.ntmps63
    go_wp2_with (first | ((with_reducible refine gate_dst (N := 3) rfl ?_); refine Yx 3 #[.int .i64 a1_0, .int .i64 a1_1, .int .i64 a1_2] 45 ?_; intro gb136 hg w26 hbox hb; have BK136 := Ya hbox; have GE136 := Yg hg; replace HB := Yh hb; clear hb hbox hg; have hcz27_0 : w26.cell? ⟨gb136, 0, none⟩ = some (.int .i64 a1_0) := (Z22 BK136.out 0).trans rfl; have hcz27_1 : w26.cell? ⟨gb136, 1, none⟩ = some (.int .i64 a1_1) := (Z22 BK136.out 1).trans rfl; have hcz27_2 : w26.cell? ⟨gb136, 2, none⟩ = some (.int .i64 a1_2) := (Z22 BK136.out 2).trans rfl; have hfz27_0 := Z23 BK136.out 0; have hfz27_1 := Z23 BK136.out 1; have hfz27_2 := Z23 BK136.out 2))
    go_ret
    exact ⟨Q2, Q0⟩
def impl_areMoves.l0 : Nat → Int → List (S45) → List (S45) → Int → Int → Option (Bool)
 | 0, _, _, _, _, _ => none
 | k + 1, x0, x1, x7, x8, x9 => if x9 < x8 then (if 0 ≤ x9 then (if x9 < (x7.length : Int) then ((impl_isMove.f x0 ((rd_T45 x7 x9).f0) ((rd_T45 x7 x9).f1) ((rd_T45 x7 x9).f2)).bind fun t141 => (if t141 = true then (impl_areMoves.l0 k x0 x1 x7 x8 (wrap64 (x9 + 1))) else (some false))) else (none)) else (none)) else ((impl_within.f x0 1 5).bind fun t142 => (if t142 = true then (some (decide ((x1.length : Int) ≤ 12))) else (some false)))
def impl_areMoves.f (k : Nat) (a0 : Int) (l1 : List (S45)) : Option (Bool) := impl_areMoves.l0 k a0 l1 l1 (l1.length : Int) 0
theorem impl_areMoves.mono_l : ∀ k, (∀ y0 y1 y2 y3 y4, LeO (impl_areMoves.l0 k y0 y1 y2 y3 y4) (impl_areMoves.l0 (k + 1) y0 y1 y2 y3 y4))
 | 0 => fun _ _ _ _ _ r h => by simp [impl_areMoves.l0] at h
 | k + 1 => by
  have ih0 := impl_areMoves.mono_l k
  ·intro y0 y1 y2 y3 y4
   unfold impl_areMoves.l0
   repeat' first
   | (with_reducible exact ih0 _ _ _ _ _)
   | (with_reducible exact LeO.refl _)
   | (with_reducible exact LeO.none _)
   | (with_reducible refine LeO.ite ?_ ?_)
   | (with_reducible refine LeO.bind ?_ (fun _ => ?_))
   | exact ih0 _ _ _ _ _
   | exact LeO.none _
   | refine LeO.ite ?_ ?_
   | refine LeO.bind ?_ (fun _ => ?_)
theorem impl_areMoves.mono : ∀ a0 a1 k, LeO (impl_areMoves.f k a0 a1) (impl_areMoves.f (k + 1) a0 a1) := by
 intro a0 a1 k
 have ih0 := impl_areMoves.mono_l k
 unfold impl_areMoves.f
 repeat' first
   | (with_reducible exact ih0 _ _ _ _ _)
   | (with_reducible exact LeO.refl _)
   | (with_reducible exact LeO.none _)
   | (with_reducible refine LeO.ite ?_ ?_)
   | (with_reducible refine LeO.bind ?_ (fun _ => ?_))
   | exact ih0 _ _ _ _ _
   | exact LeO.none _
   | refine LeO.ite ?_ ?_
   | refine LeO.bind ?_ (fun _ => ?_)
set_option maxHeartbeats 8000000 in
set_option maxRecDepth 100000 in
theorem impl_areMoves.calls (k : Nat) (a0 : Int) (A1 : Option Addr) (c1 : Nat) (l1 : List (S45)) (r : Bool) (w : World) (hr1 : Kd.C k45 w A1 l1.length l1) (hc1 : l1.length ≤ c1) (h : impl_areMoves.f k a0 l1 = some r) :
  Calls Try.prog 47 #[.int .i64 a0, .slice A1 l1.length c1] w fun e w' => e = .returned (.bool r) ∧ Below w.heap.size w w' := by
 have hu45 := Try.underlying45
 have HR1 := Ya hr1
 have HC1 := Ya hc1
 clear hr1 hc1
 have HB := Ya (Below.refl w.heap.size w)
 have H : (impl_areMoves.l0 k a0 l1 l1 (l1.length : Int) 0) = some r := h
 clear h
 have H' := Ya H
 clear H
 go_enter Try.func47, Try.ntmps47
 go_wp2
 go_loopg [9] k (fun kq v9 w' => ∃ (x9_1 : Int), v9 = .int .i64 x9_1 ∧ Aside0 (impl_areMoves.l0 kq a0 l1 l1 (l1.length : Int) x9_1 = some r) ∧ Aside0 (kq ≤ k) ∧ Aside0 (Below w.heap.size w w'))
 case atStart => exact ⟨(0), Q3, H', ⟨Nat.le_refl _⟩, ⟨Q0⟩⟩
 case round =>
  clear H'
  try clear c1
  try clear p2
  obtain ⟨x9_1, rfl, HA, HK1, HB⟩ := hrel
  cases gk with
  | zero => exact absurd HA.out (by simp [impl_areMoves.l0])
  | succ k1 =>
   have H := HA.out
   clear HA
   simp only [impl_areMoves.l0] at H
   by_cases c3 : x9_1 < (l1.length : Int)
   ·rw [if_pos c3] at H
    have c3b0 := Z37 c3
    clear c3
    by_cases c4 : 0 ≤ x9_1
    ·rw [if_pos c4] at H
     have c4b0 := Z37 c4
     clear c4
     by_cases c5 : x9_1 < (l1.length : Int)
     ·rw [if_pos c5] at H
      have c5b0 := Z37 c5
      clear c5
      replace H := Z35.mp H
      obtain ⟨t141, A60, H⟩ := H
      replace H : (if t141 = true then (impl_areMoves.l0 k1 a0 l1 l1 (l1.length : Int) (wrap64 (x9_1 + 1))) else (some false)) = some r := H
      have A6 := Ya A60
      clear A60
      by_cases c7 : t141 = true
      ·subst c7
       have H1 : (impl_areMoves.l0 k1 a0 l1 l1 (l1.length : Int) (wrap64 (x9_1 + 1))) = some r := by rw [if_pos rfl] at H; exact H
       clear H
       have H := H1
       clear H1
       have H' := Ya H
       clear H
       have p139 : 0 ≤ (x9_1 : Int) := Z29 Q1
       have q139 : x9_1 < (l1.length : Int) := Z29 Q1
       obtain ⟨ad139, e139, hx139_0, hx139_1, hx139_2⟩ := at_T45 HR1.out x9_1 p139 q139
       cases e139
       try replace hx139_0 := (HB.out.cell (World.block_lt_of_cell? w _ hx139_0)).trans hx139_0
       try replace hx139_1 := (HB.out.cell (World.block_lt_of_cell? w _ hx139_1)).trans hx139_1
       try replace hx139_2 := (HB.out.cell (World.block_lt_of_cell? w _ hx139_2)).trans hx139_2
       replace p139 := eq_true p139
       replace q139 := eq_true q139
       go_wp2_with (first | ((with_reducible refine gate_dst (N := 6) rfl ?_); (try (refine gate_guard (by rfl) ?_; dsimp only)); refine Yx 6 #[.int .i64 0, .int .i64 0, .int .i64 0] 45 ?_; intro gb140 hg w8 hbox hb; have BK140 := Ya hbox; have GE140 := Yg hg; replace HB := Yh hb; clear hb hbox hg; have hcz9_0 : w8.cell? ⟨gb140, 0, none⟩ = some (.int .i64 0) := (Z22 BK140.out 0).trans rfl; have hcz9_1 : w8.cell? ⟨gb140, 1, none⟩ = some (.int .i64 0) := (Z22 BK140.out 1).trans rfl; have hcz9_2 : w8.cell? ⟨gb140, 2, none⟩ = some (.int .i64 0) := (Z22 BK140.out 2).trans rfl; have hfz9_0 := Z23 BK140.out 0; have hfz9_1 := Z23 BK140.out 1; have hfz9_2 := Z23 BK140.out 2) | ((with_reducible refine gate_callee (f := 63) rfl ?_); refine Yz 15 Try.func63 #[.int .i64 a0, .agg #[.int .i64 ((rd_T45 l1 x9_1).f0), .int .i64 ((rd_T45 l1 x9_1).f1), .int .i64 ((rd_T45 l1 x9_1).f2)]] ?_; (with_reducible refine (impl_isMove.calls a0 ((rd_T45 l1 x9_1).f0) ((rd_T45 l1 x9_1).f1) ((rd_T45 l1 x9_1).f2) true _ A6.out).mono ?_); rintro e w10 ⟨rfl, hb⟩; refine ⟨_, rfl, ?_⟩; replace BK140 := Yb ⟨Yv3 BK140.out⟩ hb; replace HB := Yh hb; (try clear hb)))
       go_roundg k1
       case measure => have := HK1.out; omega
       case rel => exact ⟨(wrap64 (x9_1 + 1)), Q3, H', ⟨Q22⟩, ⟨Q0⟩⟩
      ·replace c7 := Bool.eq_false_iff.mpr c7
       subst c7
       have H1 : (some false) = some r := by rw [if_neg (show ¬ (false = true) by decide)] at H; exact H
       clear H
       have H := H1
       clear H1
       obtain rfl := Option.some.inj H
       have p139 : 0 ≤ (x9_1 : Int) := Z29 Q1
       have q139 : x9_1 < (l1.length : Int) := Z29 Q1
       obtain ⟨ad139, e139, hx139_0, hx139_1, hx139_2⟩ := at_T45 HR1.out x9_1 p139 q139
       cases e139
       try replace hx139_0 := (HB.out.cell (World.block_lt_of_cell? w _ hx139_0)).trans hx139_0
       try replace hx139_1 := (HB.out.cell (World.block_lt_of_cell? w _ hx139_1)).trans hx139_1
       try replace hx139_2 := (HB.out.cell (World.block_lt_of_cell? w _ hx139_2)).trans hx139_2
       replace p139 := eq_true p139
       replace q139 := eq_true q139
       go_wp2_with (first | ((with_reducible refine gate_dst (N := 6) rfl ?_); (try (refine gate_guard (by rfl) ?_; dsimp only)); refine Yx 6 #[.int .i64 0, .int .i64 0, .int .i64 0] 45 ?_; intro gb140 hg w11 hbox hb; have BK140 := Ya hbox; have GE140 := Yg hg; replace HB := Yh hb; clear hb hbox hg; have hcz12_0 : w11.cell? ⟨gb140, 0, none⟩ = some (.int .i64 0) := (Z22 BK140.out 0).trans rfl; have hcz12_1 : w11.cell? ⟨gb140, 1, none⟩ = some (.int .i64 0) := (Z22 BK140.out 1).trans rfl; have hcz12_2 : w11.cell? ⟨gb140, 2, none⟩ = some (.int .i64 0) := (Z22 BK140.out 2).trans rfl; have hfz12_0 := Z23 BK140.out 0; have hfz12_1 := Z23 BK140.out 1; have hfz12_2 := Z23 BK140.out 2) | ((with_reducible refine gate_callee (f := 63) rfl ?_); refine Yz 15 Try.func63 #[.int .i64 a0, .agg #[.int .i64 ((rd_T45 l1 x9_1).f0), .int .i64 ((rd_T45 l1 x9_1).f1), .int .i64 ((rd_T45 l1 x9_1).f2)]] ?_; (with_reducible refine (impl_isMove.calls a0 ((rd_T45 l1 x9_1).f0) ((rd_T45 l1 x9_1).f1) ((rd_T45 l1 x9_1).f2) false _ A6.out).mono ?_); rintro e w13 ⟨rfl, hb⟩; refine ⟨_, rfl, ?_⟩; replace BK140 := Yb ⟨Yv3 BK140.out⟩ hb; replace HB := Yh hb; (try clear hb)))
       go_ret
       exact ⟨Q2, Q0⟩
     ·rw [if_neg c5] at H
      exact absurd H (by simp)
    ·rw [if_neg c4] at H
     exact absurd H (by simp)
   ·rw [if_neg c3] at H
    have c3b0 := Z36 c3
    clear c3
    replace H := Z35.mp H
    obtain ⟨t142, A140, H⟩ := H
    replace H : (if t142 = true then (some (decide ((l1.length : Int) ≤ 12))) else (some false)) = some r := H
    have A14 := Ya A140
    clear A140
    by_cases c15 : t142 = true
    ·subst c15
     have H1 : (some (decide ((l1.length : Int) ≤ 12))) = some r := by rw [if_pos rfl] at H; exact H
     clear H
     have H := H1
     clear H1
     obtain rfl := Option.some.inj H
     go_wp2_with (first | ((with_reducible refine gate_callee (f := 48) rfl ?_); refine Yz 19 Try.func48 #[.int .i64 a0, .int .i64 1, .int .i64 5] ?_; (with_reducible refine (impl_within.calls a0 1 5 true _ A14.out).mono ?_); rintro e w' ⟨rfl, ⟨nd, rfl⟩⟩; refine ⟨_, rfl, ?_⟩))
     go_ret
     exact ⟨Q2, Q0⟩
    ·replace c15 := Bool.eq_false_iff.mpr c15
     subst c15
     have H1 : (some false) = some r := by rw [if_neg (show ¬ (false = true) by decide)] at H; exact H
     clear H
     have H := H1
     clear H1
     obtain rfl := Option.some.inj H
     go_wp2_with (first | ((with_reducible refine gate_callee (f := 48) rfl ?_); refine Yz 19 Try.func48 #[.int .i64 a0, .int .i64 1, .int .i64 5] ?_; (with_reducible refine (impl_within.calls a0 1 5 false _ A14.out).mono ?_); rintro e w' ⟨rfl, ⟨nd, rfl⟩⟩; refine ⟨_, rfl, ?_⟩))
     go_ret
     exact ⟨Q2, Q0⟩
def impl_identity.l0 : Nat → List Int → Int → Int → Option (List Int)
 | 0, _, _, _ => none
 | k + 1, x3, x6, x7 => if x7 < x6 then (if x3.length < 17592186044416 then (impl_identity.l0 k (x3 ++ [x7]) x6 (wrap64 (x7 + 1))) else (none)) else (some x3)
def impl_identity.f (k : Nat) (a0 : Int) : Option (List Int) := impl_identity.l0 k (([] : List Int)) a0 0
theorem impl_identity.mono_l : ∀ k, (∀ y0 y1 y2, LeO (impl_identity.l0 k y0 y1 y2) (impl_identity.l0 (k + 1) y0 y1 y2))
 | 0 => fun _ _ _ r h => by simp [impl_identity.l0] at h
 | k + 1 => by
  have ih0 := impl_identity.mono_l k
  ·intro y0 y1 y2
   unfold impl_identity.l0
   repeat' first
   | (with_reducible exact ih0 _ _ _)
   | (with_reducible exact LeO.refl _)
   | (with_reducible exact LeO.none _)
   | (with_reducible refine LeO.ite ?_ ?_)
   | (with_reducible refine LeO.bind ?_ (fun _ => ?_))
   | exact ih0 _ _ _
   | exact LeO.none _
   | refine LeO.ite ?_ ?_
   | refine LeO.bind ?_ (fun _ => ?_)
theorem impl_identity.mono : ∀ a0 k, LeO (impl_identity.f k a0) (impl_identity.f (k + 1) a0) := by
 intro a0 k
 have ih0 := impl_identity.mono_l k
 unfold impl_identity.f
 repeat' first
   | (with_reducible exact ih0 _ _ _)
   | (with_reducible exact LeO.refl _)
   | (with_reducible exact LeO.none _)
   | (with_reducible refine LeO.ite ?_ ?_)
   | (with_reducible refine LeO.bind ?_ (fun _ => ?_))
   | exact ih0 _ _ _
   | exact LeO.none _
   | refine LeO.ite ?_ ?_
   | refine LeO.bind ?_ (fun _ => ?_)
set_option maxHeartbeats 8000000 in
set_option maxRecDepth 100000 in
theorem impl_identity.calls (k : Nat) (a0 : Int) (r : List Int) (w : World) (h : impl_identity.f k a0 = some r) :
  Calls Try.prog 53 #[.int .i64 a0] w fun e w' => ∃ v0_ : Value, e = .returned (v0_) ∧ Kd.R (Kd.int .i64) 3 w' w.heap.size (fun _ => True) v0_ r ∧ Below w.heap.size w w' := by
 have HB := Ya (Below.refl w.heap.size w)
 have H : (impl_identity.l0 k (([] : List Int)) a0 0) = some r := h
 clear h
 obtain ⟨y143, hy143⟩ : ∃ y_ : List Int, y_ = (([] : List Int)) := ⟨_, rfl⟩
 replace H : (impl_identity.l0 k y143 a0 0) = some r := by first | (rw [hy143]; with_reducible exact H) | (have H2_ := (Option.bind_some _ _).symm.trans H; rw [hy143]; with_reducible exact H2_) | (have H2_ := (Option.bind_some _ _).symm.trans H; with_reducible exact H2_) | with_reducible exact H | (rw [hy143]; exact H) | exact H
 have Ny143 := Ya hy143
 clear hy143
 have H' := Ya H
 clear H
 go_enter Try.func53, Try.ntmps53
 go_wp2_with (first | ((with_reducible refine gate_dst (N := 5) rfl ?_); refine Kd.R_lit (Kd.int .i64) _ 3 ?hg (N := 5) ?hd (xs := ([] : List Int)) (inner := []) (ok := fun _ => True) (okp := fun _ => True) ?hr ?hp (fun _ hk => hk) trivial (Below.refl _ _) (Nat.le_refl _) (by simp) ?_; (case hd => rfl); (case hg => rfl); (case hr => first | (go_simp; done) | (go_simp; rfl)); (case hp => exact (Reps.none _ _)); intro v144 w2 ho3 hb hg_ hnew_; clear hg_ hnew_; (first | rw [← Ny143.out] at ho3 | (simp only [Int.reduceToNat] at ho3; rw [← Ny143.out] at ho3)); have HO145 := Yl ho3; replace HB := Yh hb; clear hb ho3))
 go_loopg [3, 7] k (fun kq v3 v7 w' => ∃ (x3_1 : List Int) (x7_1 : Int), v7 = .int .i64 x7_1 ∧ Aside0 (impl_identity.l0 kq x3_1 a0 x7_1 = some r) ∧ Aside0 (kq ≤ k) ∧ Aside0 (Kd.R (Kd.int .i64) 3 w' w.heap.size (fun _ => True) v3 x3_1) ∧ Aside0 (Below w.heap.size w w'))
 case atStart => exact ⟨(y143), (0), Q3, H', ⟨Nat.le_refl _⟩, ⟨by (with_reducible repeat (first | apply Z9 | apply Z10 | apply Z11)); exact HO145.out⟩, ⟨Q0⟩⟩
 case round =>
  clear H'
  try clear p2
  obtain ⟨x3_1, x7_1, rfl, HA, HK1, HO_3, HB⟩ := hrel
  cases gk with
  | zero => exact absurd HA.out (by simp [impl_identity.l0])
  | succ k1 =>
   have H := HA.out
   clear HA
   simp only [impl_identity.l0] at H
   by_cases c4 : x7_1 < a0
   ·rw [if_pos c4] at H
    have c4b0 := Z37 c4
    clear c4
    by_cases c5 : x3_1.length < 17592186044416
    ·rw [if_pos c5] at H
     have LMc5 := Ya c5
     clear c5
     obtain ⟨y146, hy146⟩ : ∃ y_ : List Int, y_ = (x3_1 ++ [x7_1]) := ⟨_, rfl⟩
     replace H : (impl_identity.l0 k1 y146 a0 (wrap64 (x7_1 + 1))) = some r := by first | (rw [hy146]; with_reducible exact H) | (have H2_ := (Option.bind_some _ _).symm.trans H; rw [hy146]; with_reducible exact H2_) | (have H2_ := (Option.bind_some _ _).symm.trans H; with_reducible exact H2_) | with_reducible exact H | (rw [hy146]; exact H) | exact H
     have Ny146 := Ya hy146
     clear hy146
     have H' := Ya H
     clear H
     go_wp2_with (first | ((with_reducible refine gate_builtin (b := .append) (xs := #[.tmp 10, .tmp 12]) rfl ?_); at_builtin; refine Kd.R_append (Kd.int .i64) (w0 := w) w.heap.size rfl (.tmp 10) (.tmp 12) 24 3 (.int .i64 0) 8 rfl Try.underlying24 info3 rfl (by decide) (by omega) u3 x3_1 x7_1 [.int .i64 x7_1] (fun _ => True) (fun _ => False) rfl rfl ?aP (fun _ hk => hk.elim) ?aF ?aO ?aB ?aS ?aL ?_; (case aP => exact rfl); (case aB => exact Q12); (case aF => exact (fun _ _ => trivial)); (case aO => exact (Yr HO_3.out)); (case aS => exact (Z7 Q12)); (case aL => have := LMc5.out; omega); intro v147 w6 ho hb hg hat; rw [← Ny146.out] at ho; replace HB := Ya hb; have HO148 := Ya ho; clear HO_3; clear ho hb hg hat))
     go_roundg k1
     case measure => have := HK1.out; omega
     case rel => exact ⟨(y146), (wrap64 (x7_1 + 1)), Q3, H', ⟨Q22⟩, ⟨by (with_reducible repeat (first | apply Z9 | apply Z10 | apply Z11)); exact HO148.out⟩, ⟨Q0⟩⟩
    ·rw [if_neg c5] at H
     exact absurd H (by simp)
   ·rw [if_neg c4] at H
    have c4b0 := Z36 c4
    clear c4
    obtain rfl := Option.some.inj H
    go_wp2
    go_ret
    exact ⟨_, Q2, Q24, Q0⟩
def impl_factorial.l0 : Nat → Int → Int → Int → Option (Int)
 | 0, _, _, _ => none
 | k + 1, x0, x3, x4 => if x4 ≤ x0 then (impl_factorial.l0 k x0 (wrap64 (x3 * x4)) (wrap64 (x4 + 1))) else (some x3)
def impl_factorial.f (k : Nat) (a0 : Int) : Option (Int) := impl_factorial.l0 k a0 1 2
theorem impl_factorial.mono_l : ∀ k, (∀ y0 y1 y2, LeO (impl_factorial.l0 k y0 y1 y2) (impl_factorial.l0 (k + 1) y0 y1 y2))
 | 0 => fun _ _ _ r h => by simp [impl_factorial.l0] at h
 | k + 1 => by
  have ih0 := impl_factorial.mono_l k
  ·intro y0 y1 y2
   unfold impl_factorial.l0
   repeat' first
   | (with_reducible exact ih0 _ _ _)
   | (with_reducible exact LeO.refl _)
   | (with_reducible exact LeO.none _)
   | (with_reducible refine LeO.ite ?_ ?_)
   | (with_reducible refine LeO.bind ?_ (fun _ => ?_))
   | exact ih0 _ _ _
   | exact LeO.none _
   | refine LeO.ite ?_ ?_
   | refine LeO.bind ?_ (fun _ => ?_)
theorem impl_factorial.mono : ∀ a0 k, LeO (impl_factorial.f k a0) (impl_factorial.f (k + 1) a0) := by
 intro a0 k
 have ih0 := impl_factorial.mono_l k
 unfold impl_factorial.f
 repeat' first
   | (with_reducible exact ih0 _ _ _)
   | (with_reducible exact LeO.refl _)
   | (with_reducible exact LeO.none _)
   | (with_reducible refine LeO.ite ?_ ?_)
   | (with_reducible refine LeO.bind ?_ (fun _ => ?_))
   | exact ih0 _ _ _
   | exact LeO.none _
   | refine LeO.ite ?_ ?_
   | refine LeO.bind ?_ (fun _ => ?_)
set_option maxHeartbeats 8000000 in
set_option maxRecDepth 100000 in
theorem impl_factorial.calls (k : Nat) (a0 : Int) (r : Int) (w : World) (h : impl_factorial.f k a0 = some r) :
  Calls Try.prog 50 #[.int .i64 a0] w fun e w' => e = .returned (.int .i64 r) ∧ Drawn0 w w' := by
 have H : (impl_factorial.l0 k a0 1 2) = some r := h
 clear h
 have H' := Ya H
 clear H
 go_enter Try.func50, Try.ntmps50
 go_wp2
 go_loopg [3, 4] k (fun kq v3 v4 w' => ∃ (x3_1 : Int) (x4_1 : Int), v3 = .int .i64 x3_1 ∧ v4 = .int .i64 x4_1 ∧ Aside0 (impl_factorial.l0 kq a0 x3_1 x4_1 = some r) ∧ Aside0 (kq ≤ k) ∧ Drawn0 w w')
 case atStart => exact ⟨(1), (2), Q3, Q3, H', ⟨Nat.le_refl _⟩, Q8⟩
 case round =>
  clear H'
  obtain ⟨x3_1, x4_1, rfl, rfl, HA, HK1, ⟨m1, rfl⟩⟩ := hrel
  cases gk with
  | zero => exact absurd HA.out (by simp [impl_factorial.l0])
  | succ k1 =>
   have H := HA.out
   clear HA
   simp only [impl_factorial.l0] at H
   by_cases c2 : x4_1 ≤ a0
   ·rw [if_pos c2] at H
    have c2b0 := Z37 c2
    clear c2
    have H' := Ya H
    clear H
    go_wp2
    go_roundg k1
    case measure => have := HK1.out; omega
    case rel => exact ⟨(wrap64 (x3_1 * x4_1)), (wrap64 (x4_1 + 1)), Q3, Q3, H', ⟨Q22⟩, Q8⟩
   ·rw [if_neg c2] at H
    have c2b0 := Z36 c2
    clear c2
    obtain rfl := Option.some.inj H
    go_wp2
    go_ret
    exact ⟨Q16, Q8⟩
def impl_copied.f (l0 : List Int) : Option (List Int) := (some (([] : List Int) : List Int)).bind fun y149 => (if y149.length + l0.length < 17592186044416 then (some (y149 ++ l0)) else (none))
set_option maxHeartbeats 8000000 in
set_option maxRecDepth 100000 in
theorem impl_copied.calls (A0 : Option Addr) (c0 : Nat) (l0 : List Int) (r : List Int) (w : World) (hr0 : Kd.C (Kd.int .i64) w A0 l0.length l0) (hc0 : l0.length ≤ c0) (h : impl_copied.f l0 = some r) :
  Calls Try.prog 84 #[.slice A0 l0.length c0] w fun e w' => ∃ v0_ : Value, e = .returned (v0_) ∧ Kd.R (Kd.int .i64) 3 w' w.heap.size (fun _ => True) v0_ r ∧ Below w.heap.size w w' := by
 have HR0 := Ya hr0
 have HC0 := Ya hc0
 clear hr0 hc0
 have HB := Ya (Below.refl w.heap.size w)
 have H : ((some (([] : List Int) : List Int)).bind fun y149 => (if y149.length + l0.length < 17592186044416 then (some (y149 ++ l0)) else (none))) = some r := h
 clear h
 obtain ⟨y149, hy149⟩ : ∃ y_ : List Int, y_ = (([] : List Int)) := ⟨_, rfl⟩
 replace H : (if y149.length + l0.length < 17592186044416 then (some (y149 ++ l0)) else (none)) = some r := by first | (rw [hy149]; with_reducible exact H) | (have H2_ := (Option.bind_some _ _).symm.trans H; rw [hy149]; with_reducible exact H2_) | (have H2_ := (Option.bind_some _ _).symm.trans H; with_reducible exact H2_) | with_reducible exact H | (rw [hy149]; exact H) | exact H
 have Ny149 := Ya hy149
 clear hy149
 by_cases c2 : y149.length + l0.length < 17592186044416
 ·rw [if_pos c2] at H
  have LMc2 := Ya c2
  clear c2
  obtain ⟨y152, hy152⟩ : ∃ y_ : List Int, y_ = (y149 ++ l0) := ⟨_, rfl⟩
  replace H : (some y152) = some r := by first | (rw [hy152]; with_reducible exact H) | (have H2_ := (Option.bind_some _ _).symm.trans H; rw [hy152]; with_reducible exact H2_) | (have H2_ := (Option.bind_some _ _).symm.trans H; with_reducible exact H2_) | with_reducible exact H | (rw [hy152]; exact H) | exact H
  have Ny152 := Ya hy152
  clear hy152
  obtain rfl := Option.some.inj H
  go_enter Try.func84, Try.ntmps84
  go_wp2_with (first | ((with_reducible refine gate_dst (N := 3) rfl ?_); refine Kd.R_lit (Kd.int .i64) _ 3 ?hg (N := 3) ?hd (xs := ([] : List Int)) (inner := []) (ok := fun _ => True) (okp := fun _ => True) ?hr ?hp (fun _ hk => hk) trivial (Below.refl _ _) (Nat.le_refl _) (by simp) ?_; (case hd => rfl); (case hg => rfl); (case hr => first | (go_simp; done) | (go_simp; rfl)); (case hp => exact (Reps.none _ _)); intro v150 w3 ho4 hb hg_ hnew_; clear hg_ hnew_; (first | rw [← Ny149.out] at ho4 | (simp only [Int.reduceToNat] at ho4; rw [← Ny149.out] at ho4)); have HO151 := Yl ho4; replace HB := Yh hb; clear hb ho4) | ((with_reducible refine gate_builtin (b := .append) (xs := #[.tmp 3, .tmp 4]) rfl ?_); at_builtin; refine Kd.R_append_rows (Kd.int .i64) (w0 := w) w.heap.size rfl (.tmp 3) (.tmp 4) 24 3 (.int .i64 0) 8 rfl Try.underlying24 info3 rfl (by decide) (by omega) v150 y149 l0 _ _ _ (fun _ => True) (fun _ => False) rfl rfl ?aO ?aR (fun _ _ h => h) (fun _ h => h.elim) ?aF ?aB ?aS ?aL ?_; (case aR => repeat (first | exact (Z21 HR0.out HB.out) | (with_reducible refine Z18 ?_ _) | (with_reducible refine Z19 ?_ _) | (with_reducible refine Z20 ?_))); (case aB => exact Q12); (case aF => exact (fun _ _ => trivial)); (case aO => exact (Yr HO151.out)); (case aS => exact (Z7 Q12)); (case aL => have := LMc2.out; omega); intro v153 w5 ho hb hg hat; rw [← Ny152.out] at ho; replace HB := Ya hb; have HO154 := Ya ho; clear HO151; clear ho hb hg hat))
  go_ret
  exact ⟨_, Q2, by (with_reducible repeat (first | apply Z9 | apply Z10 | apply Z11)); exact HO154.out, Q0⟩
 ·rw [if_neg c2] at H
  exact absurd H (by simp)
def slices_Reverse_int_int.l0 : Nat → List Int → Int → Int → Option (List Int)
 | 0, _, _, _ => none
 | k + 1, x0, x2, x3 => if x2 < x3 then (if 0 ≤ x3 then (if x3 < (x0.length : Int) then (if 0 ≤ x2 then (if x2 < (x0.length : Int) then (slices_Reverse_int_int.l0 k ((x0.set (x2 : Int).toNat (rd x0 x3)).set (x3 : Int).toNat (rd x0 x2)) (wrap64 (x2 + 1)) (wrap64 (x3 - 1))) else (none)) else (none)) else (none)) else (none)) else (some x0)
def slices_Reverse_int_int.f (k : Nat) (l0 : List Int) : Option (List Int) := slices_Reverse_int_int.l0 k l0 0 (wrap64 ((l0.length : Int) - 1))
theorem slices_Reverse_int_int.mono_l : ∀ k, (∀ y0 y1 y2, LeO (slices_Reverse_int_int.l0 k y0 y1 y2) (slices_Reverse_int_int.l0 (k + 1) y0 y1 y2))
 | 0 => fun _ _ _ r h => by simp [slices_Reverse_int_int.l0] at h
 | k + 1 => by
  have ih0 := slices_Reverse_int_int.mono_l k
  ·intro y0 y1 y2
   unfold slices_Reverse_int_int.l0
   repeat' first
   | (with_reducible exact ih0 _ _ _)
   | (with_reducible exact LeO.refl _)
   | (with_reducible exact LeO.none _)
   | (with_reducible refine LeO.ite ?_ ?_)
   | (with_reducible refine LeO.bind ?_ (fun _ => ?_))
   | exact ih0 _ _ _
   | exact LeO.none _
   | refine LeO.ite ?_ ?_
   | refine LeO.bind ?_ (fun _ => ?_)
theorem slices_Reverse_int_int.mono : ∀ a0 k, LeO (slices_Reverse_int_int.f k a0) (slices_Reverse_int_int.f (k + 1) a0) := by
 intro a0 k
 have ih0 := slices_Reverse_int_int.mono_l k
 unfold slices_Reverse_int_int.f
 repeat' first
   | (with_reducible exact ih0 _ _ _)
   | (with_reducible exact LeO.refl _)
   | (with_reducible exact LeO.none _)
   | (with_reducible refine LeO.ite ?_ ?_)
   | (with_reducible refine LeO.bind ?_ (fun _ => ?_))
   | exact ih0 _ _ _
   | exact LeO.none _
   | refine LeO.ite ?_ ?_
   | refine LeO.bind ?_ (fun _ => ?_)
def slices_Reverse_int_int.T3 : Bool × List (List Nat × List Nat) := (true, [([], []), ([], []), ([], []), ([], []), ([], []), ([], []), ([4, 5], [4, 5]), ([6], [6]), ([], []), ([], []), ([8, 9], [8, 9]), ([10], [10]), ([0, 1, 0, 1, 4, 5, 6, 7, 11], [0, 1]), ([12, 7, 0, 1, 4, 5, 6, 7, 11], [7, 12]), ([2, 3, 0, 1, 2, 3, 4, 5, 6, 7, 8, 9, 10, 11, 12, 13], [2, 3]), ([14, 11, 13, 0, 1, 2, 3, 4, 5, 6, 7, 8, 9, 10, 11, 12, 13], [11, 14])])
def slices_Reverse_int_int.B3 : List Nat := [0, 0, 0, 0, 0, 0, 48, 112, 0, 0, 768, 1792, 4083, 8179, 16383, 32767]
theorem slices_Reverse_int_int.tab3 : rtab .any (opsOf Try.f85 3) = slices_Reverse_int_int.T3 := by kernel_rfl
theorem slices_Reverse_int_int.bits3 : waitsOk slices_Reverse_int_int.T3.2 slices_Reverse_int_int.B3 = true := by kernel_rfl
set_option maxHeartbeats 8000000 in
set_option maxRecDepth 100000 in
theorem slices_Reverse_int_int.calls (k : Nat) (P0_ : Nat → Prop) (u9000_ : Value) (l0 : List Int) (r : List Int) (w0 w : World) (hB : Below w0.heap.size w0 w) (ho0 : Kd.R (Kd.int .i64) 3 w w0.heap.size P0_ u9000_ l0) (h : slices_Reverse_int_int.f k l0 = some r) :
  Calls Try.prog 85 #[u9000_] w fun e w' => e = .returned (.tuple #[]) ∧ Kd.R (Kd.int .i64) 3 w' w0.heap.size (fun k_ => (P0_ k_ ∨ w.heap.size ≤ k_)) u9000_ r ∧ Below w0.heap.size w0 w' ∧ Kept w w' (fun k_ => P0_ k_) := by
 have HO0 := Ya (show Kd.R (Kd.int .i64) 3 w w0.heap.size (fun k_ => (P0_ k_ ∨ w.heap.size ≤ k_)) u9000_ l0 from Z12 ho0 (fun k_ hk => (.inl hk)))
 have HK := Ya (Kept.refl w (fun k_ => P0_ k_))
 have HW0 := Ya hB.size
 have HB := Ya hB
 clear hB
 have H : (slices_Reverse_int_int.l0 k l0 0 (wrap64 ((l0.length : Int) - 1))) = some r := h
 clear h
 have H' := Ya H
 clear H
 obtain ⟨Ao2, co2, rfl⟩ := Z17 HO0.out
 go_enter Try.func85, Try.ntmps85
 go_wp2
 go_loopg [2, 3] k (fun kq v2 v3 w' => ∃ (x0_1 : List Int) (x2_1 : Int) (x3_1 : Int), v2 = .int .i64 x2_1 ∧ v3 = .int .i64 x3_1 ∧ Aside0 (slices_Reverse_int_int.l0 kq x0_1 x2_1 x3_1 = some r) ∧ Aside0 (kq ≤ k) ∧ Aside0 (Kd.R (Kd.int .i64) 3 w' w0.heap.size (fun k_ => (P0_ k_ ∨ w.heap.size ≤ k_)) (.slice Ao2 l0.length co2) x0_1) ∧ Aside0 (Kept w w' (fun k_ => P0_ k_)) ∧ Aside0 (Below w0.heap.size w0 w'))
 case atStart => exact ⟨(l0), (0), (wrap64 ((l0.length : Int) - 1)), Q3, Q3, H', ⟨Nat.le_refl _⟩, ⟨by (with_reducible repeat (first | apply Z9 | apply Z10 | apply Z11)); exact HO0.out⟩, ⟨Q53⟩, ⟨Q0⟩⟩
 case round =>
  clear H'
  try clear p2
  obtain ⟨x0_1, x2_1, x3_1, rfl, rfl, HA, HK1, HO_0, HK, HB⟩ := hrel
  have hl0_1 := (Kd.R_reads' HO_0.out).1
  rw [hl0_1] at HO_0
  (try simp only [hl0_1])
  cases gk with
  | zero => exact absurd HA.out (by simp [slices_Reverse_int_int.l0])
  | succ k1 =>
   have H := HA.out
   clear HA
   simp only [slices_Reverse_int_int.l0] at H
   by_cases c3 : x2_1 < x3_1
   ·rw [if_pos c3] at H
    have c3b0 := Z37 c3
    clear c3
    by_cases c4 : 0 ≤ x3_1
    ·rw [if_pos c4] at H
     have c4b0 := Z37 c4
     clear c4
     by_cases c5 : x3_1 < (x0_1.length : Int)
     ·rw [if_pos c5] at H
      have c5b0 := Z37 c5
      clear c5
      by_cases c6 : 0 ≤ x2_1
      ·rw [if_pos c6] at H
       have c6b0 := Z37 c6
       clear c6
       by_cases c7 : x2_1 < (x0_1.length : Int)
       ·rw [if_pos c7] at H
        have c7b0 := Z37 c7
        clear c7
        obtain ⟨y157, hy157⟩ : ∃ y_ : List Int, y_ = (x0_1.set (x2_1 : Int).toNat (rd x0_1 x3_1)) := ⟨_, rfl⟩
        replace H : (slices_Reverse_int_int.l0 k1 (y157.set (x3_1 : Int).toNat (rd x0_1 x2_1)) (wrap64 (x2_1 + 1)) (wrap64 (x3_1 - 1))) = some r := by first | (rw [hy157]; with_reducible exact H) | (have H2_ := (Option.bind_some _ _).symm.trans H; rw [hy157]; with_reducible exact H2_) | (have H2_ := (Option.bind_some _ _).symm.trans H; with_reducible exact H2_) | with_reducible exact H | (rw [hy157]; exact H) | exact H
        have Ny157 := Ya hy157
        clear hy157
        obtain ⟨y158, hy158⟩ : ∃ y_ : List Int, y_ = (y157.set (x3_1 : Int).toNat (rd x0_1 x2_1)) := ⟨_, rfl⟩
        replace H : (slices_Reverse_int_int.l0 k1 y158 (wrap64 (x2_1 + 1)) (wrap64 (x3_1 - 1))) = some r := by first | (rw [hy158]; with_reducible exact H) | (have H2_ := (Option.bind_some _ _).symm.trans H; rw [hy158]; with_reducible exact H2_) | (have H2_ := (Option.bind_some _ _).symm.trans H; with_reducible exact H2_) | with_reducible exact H | (rw [hy158]; exact H) | exact H
        have Ny158 := Ya hy158
        clear hy158
        have H' := Ya H
        clear H
        try go_wp2
        replace HO_0 := Ya (Z11 HO_0.out)
        replace HK := Ya (Kept.drew HK.out)
        replace HB := Ya (Z4 HB.out)
        have p155 : 0 ≤ (x3_1 : Int) := Z29 Q1
        have q155 : x3_1 < (x0_1.length : Int) := Z29 Q1
        obtain ⟨ad155, e155, hx155_0⟩ := Kd.at_int (Kd.R_reads' HO_0.out).2.2 x3_1 p155 q155
        cases e155
        replace p155 := eq_true p155
        replace q155 := eq_true q155
        have p156 : 0 ≤ (x2_1 : Int) := Z29 Q1
        have q156 : x2_1 < (x0_1.length : Int) := Z29 Q1
        obtain ⟨ad156, e156, hx156_0⟩ := Kd.at_int (Kd.R_reads' HO_0.out).2.2 x2_1 p156 q156
        obtain rfl : ad155 = ad156 := (by injection e156)
        replace p156 := eq_true p156
        replace q156 := eq_true q156
        have p8 : 0 ≤ (x2_1 : Int) := Z29 Q1
        have q8 : (x2_1 : Int) < ((x0_1.length : Int) : Int) := Z29 Q1
        obtain ⟨go8, co8, eo8, gb8, gl8, cl8, HG8⟩ := Kd.R_form HO_0.out (by omega)
        (first | cases eo8 | (injection eo8 with ea_ en_ ec_; (first | subst ea_ | (injection ea_ with ea_; subst ea_)); subst ec_; clear en_))
        have GB8 := Ya gb8
        have GG8 := Ya HG8
        clear gb8 gl8 HG8
        have HMgo8 := Ya (show (P0_ go8 ∨ w.heap.size ≤ go8) from (HO_0.out.1 _ rfl))
        (first | simp only [add_plain] at hx155_0 | skip)
        (first | simp only [add_plain] at hx156_0 | skip)
        obtain ⟨hx8_0, hf8_0⟩ := Kd.R_celln 0 HO_0.out (x2_1 : Int) p8 q8
        replace p8 := eq_true p8
        replace q8 := eq_true q8
        have HP11 := Kd.R_putn HO_0.out (x2_1 : Int) (rd x0_1 x3_1)
        rw [← Ny157.out] at HP11
        have HQ11 := Ya HP11
        clear HP11
        have p9 : 0 ≤ (x3_1 : Int) := Z29 Q1
        have q9 : (x3_1 : Int) < ((x0_1.length : Int) : Int) := Z29 Q1
        obtain ⟨hx9_0, hf9_0⟩ := Kd.R_celln 0 HQ11.out (x3_1 : Int) p9 q9
        replace p9 := eq_true p9
        replace q9 := eq_true q9
        have HP12 := Kd.R_putn HQ11.out (x3_1 : Int) (rd x0_1 x2_1)
        rw [← Ny158.out] at HP12
        have HQ12 := Ya HP12
        clear HP12
        refine start_ (n := 16) (S := fun w' => w'.cell? ⟨go8, (x3_1).toNat, none⟩ = some (.int .i64 (rd x0_1 x3_1)) ∧ w'.cell? ⟨go8, (x2_1).toNat, none⟩ = some (.int .i64 (rd x0_1 x2_1))) (ds := [13, 15]) (YA 16 0) (by kernel_rfl) rfl rfl ⟨hx155_0, hx156_0⟩ (fun hHeld => ?_); refine with_tabW slices_Reverse_int_int.tab3 slices_Reverse_int_int.bits3 (fun HT_ HW_ => ?_)
        generalize wr.drew = w10 at HO_0 HK HB GG8 HQ11 HQ12 hf8_0 hf9_0 hx155_0 hx156_0 hx8_0 hx9_0 hHeld ⊢
        refine Yp 0 (some 14) (YA 16 1) rfl HT_.out ?_
        refine Yp 1 (some 15) (YA 16 3) rfl HT_.out ?_
        refine Yp 2 (some 16) (YA 16 7) rfl HT_.out ?_
        refine Yp 3 (some 17) (YA 16 15) rfl HT_.out ?_
        refine Yp 4 (some 18) (YA 16 31) rfl HT_.out ?_
        refine Yp 5 (some 19) (YA 16 63) rfl HT_.out ?_
        refine Yp 6 (some 20) (YA 16 127) rfl HT_.out ?_
        refine Yp 8 (some 22) (YA 16 383) rfl HT_.out ?_
        refine Yp 9 (some 23) (YA 16 895) rfl HT_.out ?_
        refine Yp 10 (some 24) (YA 16 1919) rfl HT_.out ?_
        refine Yt 7 (some 21) (YA 16 2047) rfl HT_.out HW_.out hHeld Q28 ?_
        refine Yt 11 (some 25) (YA 16 4095) rfl HT_.out HW_.out hHeld Q28 ?_
        refine Yp 12 (some 26) (YA 16 8191) rfl HT_.out ?_
        refine last_ (i := 13) (N := none) (YA 16 16383) rfl rfl (one_of HT_.out (by kernel_rfl)) (by decide) (fun K hK => ?_)
        refine skip_ (w1 := ?_) (by rfl) rfl ?_ ?_
        rotate_left
        ·go_simp
         rfl
        refine hK.out _ _ ?_
        clear hK K
        refine Yp 14 (some 27) (YA 16 32767) rfl HT_.out ?_
        refine last_ (i := 15) (N := none) (YA 16 65535) rfl rfl (one_of HT_.out (by kernel_rfl)) (by decide) (fun K hK => ?_)
        refine skip_ (w1 := ?_) (by rfl) rfl ?_ ?_
        rotate_left
        ·go_simp
         rfl
        refine hK.out _ _ ?_
        clear hK K
        refine done_ (done_of HT_.out (by kernel_rfl)) ?_
        try go_wp2
        (try simp only [← hl0_1])
        go_roundg k1
        case measure => have := HK1.out; omega
        case rel => exact ⟨(y158), (wrap64 (x2_1 + 1)), (wrap64 (x3_1 - 1)), Q3, Q3, H', ⟨Q22⟩, ⟨by (try simp only [hl0_1]); (with_reducible repeat (first | apply Z9 | apply Z10 | apply Z11)); exact HQ12.out⟩, ⟨by repeat (first | (with_reducible first | exact HK.out | apply Kept.alloc | apply Kept.drewN | apply Kept.drew | refine Kept.setCell ?_ HMgo8.out _ | refine Kept.setCell ?_ HMgo8.out _) | exact HK.out)⟩, ⟨Q0⟩⟩
       ·rw [if_neg c7] at H
        exact absurd H (by simp)
      ·rw [if_neg c6] at H
       exact absurd H (by simp)
     ·rw [if_neg c5] at H
      exact absurd H (by simp)
    ·rw [if_neg c4] at H
     exact absurd H (by simp)
   ·rw [if_neg c3] at H
    have c3b0 := Z36 c3
    clear c3
    obtain rfl := Option.some.inj H
    go_wp2
    first | go_end0 | ((try simp only [Exit.inBlock, Exit.then]); refine bodyPost_ret (results_none rfl _ _ _) rfl ?_)
    exact ⟨Q2, (by first | exact (Yr HO_0.out) | (simp only [hl0_1]; exact (Yr HO_0.out))), Q0, Q53⟩
end Go.Proofs.Ytllhnnjkonghlaa.MFnReached
