import Derived.Test.YtapbbmicfkbafaaGreatMFnSwappersx0
import Derived.Test.YtapbbmicfkbafaaGreatMFnSwappersx1
import Derived.Test.YtapbbmicfkbafaaGreatMFnSwappersx2
import Derived.Test.YtapbbmicfkbafaaGreatMFnSwappersx3
import Derived.Test.YtapbbmicfkbafaaGreatMFnSwappersx4
import Derived.Test.YtapbbmicfkbafaaGreatMFnSwappersx5
namespace Go.Proofs.YtapbbmicfkbafaaGreat.MFnSwappers
open Go.RowKit Go.Proofs.YtapbbmicfkbafaaGreatW.PrintWords Go.Proofs.YtapbbmicfkbafaaGreatW.PrintLast Go.Proofs.YtapbbmicfkbafaaGreatW.PrintMore
attribute [local go_sem] max2_int min2_int max_two min_two max_three min_three max_four min_four   
set_option linter.unusedVariables false
set_option maxHeartbeats 16000000
set_option maxRecDepth 100000
set_option linter.unusedSimpArgs false
mutual
def spec_foRank.j0 : Nat → Bool → List Int → List Int → List Bool → List Int → List Int → List Int → Option (Int)
 | 0, _, _, _, _, _, _, _ => none
 | k + 1, al, ab, ac, af, ag, ad, ah => if al = true then (some (-1)) else ((spec_gcMixedRank.f k ab ac).bind fun ae => ((spec_foSwapperAt.f k (ad.length : Int) ae).bind fun aa => (if aa.2.2.2.2.2.2 = true then ((spec_foSame.f k ab ac af ag aa.1 aa.2.1 aa.2.2.1 aa.2.2.2.1).bind fun ai => (if ai = true then ((spec_l1Same.f k ad aa.2.2.2.2.1).bind fun aj => (if aj = true then ((spec_l1Same.f k ah aa.2.2.2.2.2.1).bind fun ak => (spec_foRank.j1 k ae (!ak))) else (spec_foRank.j1 k ae true))) else (spec_foRank.j1 k ae true))) else (spec_foRank.j1 k ae true))))
def spec_foRank.j1 : Nat → Int → Bool → Option (Int)
 | 0, _, _ => none
 | k + 1, x3, aa => if aa = true then (some (-1)) else (some x3)
end
def spec_foRank.f (k : Nat) (ab : List Int) (ac : List Int) (ad : List Bool) (ae : List Int) (aa : List Int) (af : List Int) : Option (Int) := (spec_foSize.f (aa.length : Int)).bind fun ag => (if ag = true then ((spec_raPermutation.f k aa).bind fun ah => (if ah = true then ((spec_foGood.f k ab ac ad ae).bind fun ai => (spec_foRank.j0 k (!ai) ab ac ad ae aa af)) else (spec_foRank.j0 k true ab ac ad ae aa af))) else (spec_foRank.j0 k true ab ac ad ae aa af))
theorem spec_foRank.calls (k : Nat) (aU : Option Addr) (aV : Nat) (ai : List Int) (aW : Option Addr) (aX : Nat) (aj : List Int) (aY : Option Addr) (aZ : Nat) (am : List Bool) (a0 : Option Addr) (a1 : Nat) (an : List Int) (a2 : Option Addr) (a3 : Nat) (ab : List Int) (a4 : Option Addr) (a5 : Nat) (az : List Int) (r : Int) (w : World) (bP : Kd.C (Kd.int .i64) w aU ai.length ai) (bQ : ai.length ≤ aV) (bR : Kd.C (Kd.int .i64) w aW aj.length aj) (bS : aj.length ≤ aX) (bT : Kd.C Kd.bool w aY am.length am) (bU : am.length ≤ aZ) (bV : Kd.C (Kd.int .i64) w a0 an.length an) (bW : an.length ≤ a1) (bX : Kd.C (Kd.int .i64) w a2 ab.length ab) (bY : ab.length ≤ a3) (bZ : Kd.C (Kd.int .i64) w a4 az.length az) (b0 : az.length ≤ a5) (h : spec_foRank.f k ai aj am an ab az = some r) :
  Calls Tryz.prog 28 #[.agg #[.slice aU ai.length aV, .slice aW aj.length aX, .slice aY am.length aZ, .slice a0 an.length a1, .slice a2 ab.length a3, .slice a4 az.length a5]] w fun e w' => e = .returned (.int .i64 r) ∧ Below w.heap.size w w' := by
 have hu29 := Tryz.underlying29
 have hu27 := Tryz.underlying27
 have aH := Ya bP
 have aI := Ya bQ
 clear bP bQ
 have aJ := Ya bR
 have aK := Ya bS
 clear bR bS
 have aO := Ya bT
 have aP := Ya bU
 clear bT bU
 have aQ := Ya bV
 have aR := Ya bW
 clear bV bW
 have aS := Ya bX
 have aT := Ya bY
 clear bX bY
 have b9 := Ya bZ
 have ca := Ya b0
 clear bZ b0
 have HB := Ya (Below.refl w.heap.size w)
 have H : ((spec_foSize.f (ab.length : Int)).bind fun cb => (if cb = true then ((spec_raPermutation.f k ab).bind fun cc => (if cc = true then ((spec_foGood.f k ai aj am an).bind fun a8 => (spec_foRank.j0 k (!a8) ai aj am an ab az)) else (spec_foRank.j0 k true ai aj am an ab az))) else (spec_foRank.j0 k true ai aj am an ab az))) = some r := h
 clear h
 have eU := Ya H
 clear H
 go_enter Tryz.func28, Tryz.ntmps28
 go_upto_region 1 with (first | ((with_reducible refine gate_dst (N := 1) rfl ?_); refine Yx 1 #[.slice aU ai.length aV, .slice aW aj.length aX, .slice aY am.length aZ, .slice a0 an.length a1, .slice a2 ab.length a3, .slice a4 az.length a5] 29 ?_; intro b1 hg w3 hbox hb; have BK570 := Ya hbox; have fb := Yg hg; replace HB := Yh hb; clear hb hbox hg))
 (try simp only [Act.put, Z0, Z1, Z2])
 go_cut [22] (fun ft wc => ∃ (kq : Nat) (a6 : Bool), ft = .bool a6 ∧ Aside0 (spec_foRank.j0 kq a6 ai aj am an ab az = some r) ∧ Aside0 (kq ≤ k) ∧ Aside0 (wc.heap[b1]? = some (.cells #[(.slice aU ai.length aV), (.slice aW aj.length aX), (.slice aY am.length aZ), (.slice a0 an.length a1), (.slice a2 ab.length a3), (.slice a4 az.length a5)] 29 (0, 0))) ∧ Aside0 (Below w.heap.size w wc))
 case first =>
  have H := eU.1
  clear eU
  replace H := YB H
  obtain ⟨cb, A4, H⟩ := H
  replace H := YC H
  obtain ⟨rfl, H⟩ | ⟨rfl, H⟩ := H
  ·replace H := YB H
   obtain ⟨cc, A6, H⟩ := H
   replace H := YC H
   obtain ⟨rfl, H⟩ | ⟨rfl, H⟩ := H
   ·replace H := YB H
    obtain ⟨a8, A8, H⟩ := H
    have H' := Ya H
    clear H
    obtain ⟨eV, eW, eX, eY, eZ, e0, e1, e3, e4, e5, e6, e7⟩ := Y6 BK570.1
    go_wp2_with (first | ((with_reducible refine gate_callee (f := 44) rfl ?_); refine Yz 9 Tryz.func44 #[.int .i64 (ab.length : Int)] ?_; (with_reducible refine (spec_foSize.calls (ab.length : Int) true _ A4.1).mono ?_); rintro e w' ⟨rfl, ⟨nd, rfl⟩⟩; refine ⟨_, rfl, ?_⟩) | (go_at_call 52; (with_reducible refine (spec_raPermutation.calls k _ _ ab true _ ?af aT.1 A6.1).mono ?_); (case af => exact Yc (Z19 aS.1 Q0)); rintro e w' ⟨rfl, ⟨nd, rfl⟩⟩) | (go_at_call 53; (with_reducible refine (spec_foGood.calls k _ _ ai _ _ aj _ _ am _ _ an a8 _ ?af aI.1 ?aB aK.1 ?aC aP.1 ?aD aR.1 A8.1).mono ?_); (case af => exact Yc (Z19 aH.1 Q0)); (case aB => exact Yc (Z19 aJ.1 Q0)); (case aC => exact Yc (Z19 aO.1 Q0)); (case aD => exact Yc (Z19 aQ.1 Q0)); rintro e fI ⟨rfl, hb⟩; replace BK570 := Yb BK570 hb; replace HB := Yh hb; (try clear hb)))
    go_meet
    case rel => exact ⟨_, (!a8), Q17, H', ⟨Q43⟩, ⟨Q40⟩, ⟨Q12⟩⟩
   ·have H' := Ya H
    clear H
    obtain ⟨cf, cg, ch, cj, ck, cl, cm, cp, cq, cr, ct, cu⟩ := Y6 BK570.1
    go_wp2_with (first | ((with_reducible refine gate_callee (f := 44) rfl ?_); refine Yz 9 Tryz.func44 #[.int .i64 (ab.length : Int)] ?_; (with_reducible refine (spec_foSize.calls (ab.length : Int) true _ A4.1).mono ?_); rintro e w' ⟨rfl, ⟨nd, rfl⟩⟩; refine ⟨_, rfl, ?_⟩) | (go_at_call 52; (with_reducible refine (spec_raPermutation.calls k _ _ ab false _ ?af aT.1 A6.1).mono ?_); (case af => exact Yc (Z19 aS.1 Q0)); rintro e w' ⟨rfl, ⟨nd, rfl⟩⟩))
    go_meet
    case rel => exact ⟨_, (true), Q17, H', ⟨Q43⟩, ⟨Q40⟩, ⟨Q12⟩⟩
  ·have H' := Ya H
   clear H
   obtain ⟨cv, cw, cx, cy, cz, cA, cB, cC, cD, cE, cF, cG⟩ := Y6 BK570.1
   go_wp2_with (first | ((with_reducible refine gate_callee (f := 44) rfl ?_); refine Yz 9 Tryz.func44 #[.int .i64 (ab.length : Int)] ?_; (with_reducible refine (spec_foSize.calls (ab.length : Int) false _ A4.1).mono ?_); rintro e w' ⟨rfl, ⟨nd, rfl⟩⟩; refine ⟨_, rfl, ?_⟩))
   go_meet
   case rel => exact ⟨_, (true), Q17, H', ⟨Q43⟩, ⟨Q40⟩, ⟨Q12⟩⟩
 case rest =>
  clear eU
  obtain ⟨kq, a6, rfl, HA, HJ1, BK570, HB⟩ := hcut
  cases kq with
  | zero => exact absurd HA.1 (by simp [spec_foRank.j0])
  | succ a9 =>
   have H := HA.1
   clear HA
   simp only [spec_foRank.j0] at H
   replace H := YC H
   obtain ⟨rfl, H⟩ | ⟨rfl, H⟩ := H
   ·obtain rfl := Option.some.inj H
    go_wp2
    go_ret
    exact ⟨Q2, Q12⟩
   ·replace H := YB H
    obtain ⟨ba, fu, H⟩ := H
    replace H := YB H
    obtain ⟨⟨ac, ad, aA, ae, ag, al, e8⟩, fv, H⟩ := H
    dsimp only at H
    have b2 := Ya H
    clear H
    obtain ⟨bb, bc, bd, be, bf, bg, bh, bi, bj, bk, bl, bm⟩ := Y6 BK570.1
    go_upto_region 5 with (first | ((with_reducible refine gate_callee (f := 54) rfl ?_); refine Yz 29 Tryz.func54 #[.slice aU ai.length aV, .slice aW aj.length aX] ?_; (with_reducible refine (spec_gcMixedRank.calls a9 _ _ ai _ _ aj ba _ (Yc (Z19 aH.1 HB.1)) aI.1 (Yc (Z19 aJ.1 HB.1)) aK.1 fu.1).mono ?_); rintro e fJ ⟨rfl, hb⟩; refine ⟨_, rfl, ?_⟩; replace BK570 := Yb BK570 hb; replace HB := Yh hb; (try clear hb); obtain ⟨bn, bo, bp, bq, br, bu, bv, bw, bx, bz, bA, bB⟩ := Y6 BK570.1) | ((with_reducible refine gate_callee (f := 46) rfl ?_); refine Yz 35 Tryz.func46 #[.int .i64 (ab.length : Int), .int .i64 ba] ?_; (with_reducible refine (spec_foSwapperAt.calls a9 (ab.length : Int) ba ac ad aA ae ag al e8 _ fv.1).mono ?_); rintro e fK ⟨fw, fx, fy, fz, fA, fB, rfl, fc, fd, fe, ff, fg, fh, hb⟩; refine ⟨_, rfl, ?_⟩; have HO577 := Yl fc; have HO580 := Yl fd; have HO583 := Yl fe; have HO586 := Yl ff; have HO589 := Yl fg; have HO592 := Yl fh; replace BK570 := Yb BK570 hb; replace HB := Yh hb; (try clear hb fc fd fe ff fg fh)) | ((with_reducible refine gate_dst (N := 4) rfl ?_); refine Yx 4 YN6 29 ?_; intro cd hg fL hbox hb; replace HO577 := Yw HO577 hb; replace HO580 := Yw HO580 hb; replace HO583 := Yw HO583 hb; replace HO586 := Yw HO586 hb; replace HO589 := Yw HO589 hb; replace HO592 := Yw HO592 hb; have BK594 := Ya hbox; have fi := Yg hg; replace HB := Yh hb; have aa := Yn BK570 hg; have aq := Ym BK570 hg; replace BK570 := Yb BK570 hb; clear hb hbox hg; obtain ⟨ao, ah, rfl⟩ := Z15 HO577.1; have fj := aq.1; have fk := aa.1; obtain ⟨bC, bD, bE, bF, bG, bH, bI, bJ, bK, bL, bN, bO⟩ := Y6 BK594.1; obtain ⟨ar, ak, rfl⟩ := Z15 HO580.1; obtain ⟨a7, aL, rfl⟩ := Z15 HO583.1; obtain ⟨ay, ap, rfl⟩ := Z15 HO586.1; obtain ⟨au, av, rfl⟩ := Z15 HO589.1; obtain ⟨aw, ax, rfl⟩ := Z15 HO592.1))
    (try simp only [Act.put, Z0, Z1, Z2])
    go_cut [63] (fun fC wc => ∃ (kq : Nat) (aN : Bool), fC = .bool aN ∧ Aside0 (spec_foRank.j1 kq ba aN = some r) ∧ Aside0 (kq ≤ a9) ∧ Aside0 (Kd.R (Kd.int .i64) 3 wc w.heap.size (fun k_ => some k_ ≠ ((.slice ar ad.length ak) : Value).ownBlock ∧ some k_ ≠ ((.slice ay ae.length ap) : Value).ownBlock ∧ some k_ ≠ ((.slice au ag.length av) : Value).ownBlock ∧ some k_ ≠ ((.slice aw al.length ax) : Value).ownBlock) (.slice ao ac.length ah) ac) ∧ Aside0 (Kd.R (Kd.int .i64) 3 wc w.heap.size (fun k_ => some k_ ≠ ((.slice ao ac.length ah) : Value).ownBlock ∧ some k_ ≠ ((.slice ay ae.length ap) : Value).ownBlock ∧ some k_ ≠ ((.slice au ag.length av) : Value).ownBlock ∧ some k_ ≠ ((.slice aw al.length ax) : Value).ownBlock) (.slice ar ad.length ak) ad) ∧ Aside0 (Kd.R Kd.bool 4 wc w.heap.size (fun _ => True) (.slice a7 aA.length aL) aA) ∧ Aside0 (Kd.R (Kd.int .i64) 3 wc w.heap.size (fun k_ => some k_ ≠ ((.slice ao ac.length ah) : Value).ownBlock ∧ some k_ ≠ ((.slice ar ad.length ak) : Value).ownBlock ∧ some k_ ≠ ((.slice au ag.length av) : Value).ownBlock ∧ some k_ ≠ ((.slice aw al.length ax) : Value).ownBlock) (.slice ay ae.length ap) ae) ∧ Aside0 (Kd.R (Kd.int .i64) 3 wc w.heap.size (fun k_ => some k_ ≠ ((.slice ao ac.length ah) : Value).ownBlock ∧ some k_ ≠ ((.slice ar ad.length ak) : Value).ownBlock ∧ some k_ ≠ ((.slice ay ae.length ap) : Value).ownBlock ∧ some k_ ≠ ((.slice aw al.length ax) : Value).ownBlock) (.slice au ag.length av) ag) ∧ Aside0 (Kd.R (Kd.int .i64) 3 wc w.heap.size (fun k_ => some k_ ≠ ((.slice ao ac.length ah) : Value).ownBlock ∧ some k_ ≠ ((.slice ar ad.length ak) : Value).ownBlock ∧ some k_ ≠ ((.slice ay ae.length ap) : Value).ownBlock ∧ some k_ ≠ ((.slice au ag.length av) : Value).ownBlock) (.slice aw al.length ax) al) ∧ Aside0 (wc.heap[b1]? = some (.cells #[(.slice aU ai.length aV), (.slice aW aj.length aX), (.slice aY am.length aZ), (.slice a0 an.length a1), (.slice a2 ab.length a3), (.slice a4 az.length a5)] 29 (0, 0))) ∧ Aside0 (wc.heap[cd]? = some (.cells #[(.slice ao ac.length ah), (.slice ar ad.length ak), (.slice a7 aA.length aL), (.slice ay ae.length ap), (.slice au ag.length av), (.slice aw al.length ax)] 29 (0, 0))) ∧ Aside0 (Below w.heap.size w wc))
    case first =>
     have H := b2.1
     clear b2
     replace H := YC H
     obtain ⟨rfl, H⟩ | ⟨rfl, H⟩ := H
     ·replace H := YB H
      obtain ⟨fD, e9, H⟩ := H
      replace H := YC H
      obtain ⟨rfl, H⟩ | ⟨rfl, H⟩ := H
      ·replace H := YB H
       obtain ⟨fE, fl, H⟩ := H
       replace H := YC H
       obtain ⟨rfl, H⟩ | ⟨rfl, H⟩ := H
       ·replace H := YB H
        obtain ⟨ce, fF, H⟩ := H
        have H' := Ya H
        clear H
        have fm := aa.1
        have fo := aq.1
        obtain ⟨cH, cI, cJ, cK, cL, cM, cN, cO, cP, cQ, cR, cS⟩ := Y6 BK570.1
        obtain ⟨cT, cU, cV, cW, cX, cY, cZ, da, db, dc, dd, de⟩ := Y6 BK594.1
        go_wp2_with (first | (go_at_call 55; (with_reducible refine (spec_foSame.calls a9 _ _ ai _ _ aj _ _ am _ _ an _ _ ac _ _ ad _ _ aA _ _ ae true _ ?af aI.1 ?aB aK.1 ?aC aP.1 ?aD aR.1 ?aM (YL HO577) ?aE (YL HO580) ?aF (YL HO583) ?aG (YL HO586) e9.1).mono ?_); (case af => exact Z19 aH.1 Q0); (case aB => exact Z19 aJ.1 Q0); (case aC => exact Z19 aO.1 Q0); (case aD => exact Z19 aQ.1 Q0); (case aM => refine (Kd.R_reads' (e := 3) (base := w.heap.size) (ok := fun k_ => (some k_ ≠ (.slice ar ad.length ak : Value).ownBlock ∧ (some k_ ≠ (.slice ay ae.length ap : Value).ownBlock ∧ (some k_ ≠ (.slice au ag.length av : Value).ownBlock ∧ some k_ ≠ (.slice aw al.length ax : Value).ownBlock)))) (n := ac.length) (c := ah) ?_).2.2; exact (Yj (Yf6 HO577.1 BK594.1) (fun _ h_ => h_.1))); (case aE => refine (Kd.R_reads' (e := 3) (base := w.heap.size) (ok := fun k_ => (some k_ ≠ (.slice ao ac.length ah : Value).ownBlock ∧ (some k_ ≠ (.slice ay ae.length ap : Value).ownBlock ∧ (some k_ ≠ (.slice au ag.length av : Value).ownBlock ∧ some k_ ≠ (.slice aw al.length ax : Value).ownBlock)))) (n := ad.length) (c := ak) ?_).2.2; exact (Yj (Yf6 HO580.1 BK594.1) (fun _ h_ => h_.1))); (case aF => refine (Kd.R_reads' (e := 4) (base := w.heap.size) (ok := fun k_ => True) (n := aA.length) (c := aL) ?_).2.2; exact (Yj (Yf6 HO583.1 BK594.1) (fun _ h_ => h_.1))); (case aG => refine (Kd.R_reads' (e := 3) (base := w.heap.size) (ok := fun k_ => (some k_ ≠ (.slice ao ac.length ah : Value).ownBlock ∧ (some k_ ≠ (.slice ar ad.length ak : Value).ownBlock ∧ (some k_ ≠ (.slice au ag.length av : Value).ownBlock ∧ some k_ ≠ (.slice aw al.length ax : Value).ownBlock)))) (n := ae.length) (c := ap) ?_).2.2; exact (Yj (Yf6 HO586.1 BK594.1) (fun _ h_ => h_.1))); rintro e fM ⟨rfl, hb⟩; replace HO577 := Ya (Z13 (Yj (Yf6 HO577.1 BK594.1) (fun _ h_ => h_.1)) hb); replace HO580 := Ya (Z13 (Yj (Yf6 HO580.1 BK594.1) (fun _ h_ => h_.1)) hb); replace HO583 := Ya (Z13 (Yj (Yf6 HO583.1 BK594.1) (fun _ h_ => h_.1)) hb); replace HO586 := Ya (Z13 (Yj (Yf6 HO586.1 BK594.1) (fun _ h_ => h_.1)) hb); replace HO589 := Ya (Z13 (Yj (Yf6 HO589.1 BK594.1) (fun _ h_ => h_.1)) hb); replace HO592 := Ya (Z13 (Yj (Yf6 HO592.1 BK594.1) (fun _ h_ => h_.1)) hb); replace BK570 := Yb ⟨Yo6 BK570.1 aa.1⟩ hb; replace BK594 := Yb ⟨Yv6 BK594.1⟩ hb; replace HB := Yh hb; (try clear hb); obtain ⟨df, dg, dh, di, dj, dk, dl, dm, dn, dp, dq, dr⟩ := Y6 BK570.1; obtain ⟨dt, du, dv, dw, dx, dy, dz, dA, dB, dC, dD, dE⟩ := Y6 BK594.1) | (go_at_call 56; (with_reducible refine (spec_l1Same.calls a9 _ _ ab _ _ ag true _ (Yc (Z19 aS.1 HB.1)) aT.1 (YX HO589) (YL HO589) fl.1).mono ?_); rintro e w' ⟨rfl, ⟨nd, rfl⟩⟩) | (go_at_call 56; (with_reducible refine (spec_l1Same.calls a9 _ _ az _ _ al ce _ ?af ca.1 (YX HO592) (YL HO592) fF.1).mono ?_); (case af => exact Yc (Z19 b9.1 Q0)); rintro e w' ⟨rfl, ⟨nd, rfl⟩⟩))
        go_meet
        case rel => exact ⟨_, (!ce), Q17, H', ⟨Q66⟩, ⟨Q62⟩, ⟨Q61⟩, ⟨Q60⟩, ⟨Q59⟩, ⟨Q58⟩, ⟨Q57⟩, ⟨Q40⟩, ⟨Q54⟩, ⟨Q12⟩⟩
       ·have H' := Ya H
        clear H
        have fp := aa.1
        have fq := aq.1
        obtain ⟨dF, dG, dH, dI, dJ, dK, dL, dM, dN, dO, dP, dQ⟩ := Y6 BK570.1
        obtain ⟨dR, dS, dT, dU, dV, dW, dX, dY, dZ, d4, d5, d6⟩ := Y6 BK594.1
        go_wp2_with (first | (go_at_call 55; (with_reducible refine (spec_foSame.calls a9 _ _ ai _ _ aj _ _ am _ _ an _ _ ac _ _ ad _ _ aA _ _ ae true _ ?af aI.1 ?aB aK.1 ?aC aP.1 ?aD aR.1 ?aM (YL HO577) ?aE (YL HO580) ?aF (YL HO583) ?aG (YL HO586) e9.1).mono ?_); (case af => exact Z19 aH.1 Q0); (case aB => exact Z19 aJ.1 Q0); (case aC => exact Z19 aO.1 Q0); (case aD => exact Z19 aQ.1 Q0); (case aM => refine (Kd.R_reads' (e := 3) (base := w.heap.size) (ok := fun k_ => (some k_ ≠ (.slice ar ad.length ak : Value).ownBlock ∧ (some k_ ≠ (.slice ay ae.length ap : Value).ownBlock ∧ (some k_ ≠ (.slice au ag.length av : Value).ownBlock ∧ some k_ ≠ (.slice aw al.length ax : Value).ownBlock)))) (n := ac.length) (c := ah) ?_).2.2; exact (Yj (Yf6 HO577.1 BK594.1) (fun _ h_ => h_.1))); (case aE => refine (Kd.R_reads' (e := 3) (base := w.heap.size) (ok := fun k_ => (some k_ ≠ (.slice ao ac.length ah : Value).ownBlock ∧ (some k_ ≠ (.slice ay ae.length ap : Value).ownBlock ∧ (some k_ ≠ (.slice au ag.length av : Value).ownBlock ∧ some k_ ≠ (.slice aw al.length ax : Value).ownBlock)))) (n := ad.length) (c := ak) ?_).2.2; exact (Yj (Yf6 HO580.1 BK594.1) (fun _ h_ => h_.1))); (case aF => refine (Kd.R_reads' (e := 4) (base := w.heap.size) (ok := fun k_ => True) (n := aA.length) (c := aL) ?_).2.2; exact (Yj (Yf6 HO583.1 BK594.1) (fun _ h_ => h_.1))); (case aG => refine (Kd.R_reads' (e := 3) (base := w.heap.size) (ok := fun k_ => (some k_ ≠ (.slice ao ac.length ah : Value).ownBlock ∧ (some k_ ≠ (.slice ar ad.length ak : Value).ownBlock ∧ (some k_ ≠ (.slice au ag.length av : Value).ownBlock ∧ some k_ ≠ (.slice aw al.length ax : Value).ownBlock)))) (n := ae.length) (c := ap) ?_).2.2; exact (Yj (Yf6 HO586.1 BK594.1) (fun _ h_ => h_.1))); rintro e fN ⟨rfl, hb⟩; replace HO577 := Ya (Z13 (Yj (Yf6 HO577.1 BK594.1) (fun _ h_ => h_.1)) hb); replace HO580 := Ya (Z13 (Yj (Yf6 HO580.1 BK594.1) (fun _ h_ => h_.1)) hb); replace HO583 := Ya (Z13 (Yj (Yf6 HO583.1 BK594.1) (fun _ h_ => h_.1)) hb); replace HO586 := Ya (Z13 (Yj (Yf6 HO586.1 BK594.1) (fun _ h_ => h_.1)) hb); replace HO589 := Ya (Z13 (Yj (Yf6 HO589.1 BK594.1) (fun _ h_ => h_.1)) hb); replace HO592 := Ya (Z13 (Yj (Yf6 HO592.1 BK594.1) (fun _ h_ => h_.1)) hb); replace BK570 := Yb ⟨Yo6 BK570.1 aa.1⟩ hb; replace BK594 := Yb ⟨Yv6 BK594.1⟩ hb; replace HB := Yh hb; (try clear hb); obtain ⟨d7, d8, d9, ea, eb, ec, ed, ee, ef, eg, eh, ei⟩ := Y6 BK570.1; obtain ⟨ej, ek, em, en, eo, ep, eq, er, es, et, eu, ev⟩ := Y6 BK594.1) | (go_at_call 56; (with_reducible refine (spec_l1Same.calls a9 _ _ ab _ _ ag false _ (Yc (Z19 aS.1 HB.1)) aT.1 (YX HO589) (YL HO589) fl.1).mono ?_); rintro e w' ⟨rfl, ⟨nd, rfl⟩⟩))
        go_meet
        case rel => exact ⟨_, (true), Q17, H', ⟨Q66⟩, ⟨Q62⟩, ⟨Q61⟩, ⟨Q60⟩, ⟨Q59⟩, ⟨Q58⟩, ⟨Q57⟩, ⟨Q40⟩, ⟨Q54⟩, ⟨Q12⟩⟩
      ·have H' := Ya H
       clear H
       have fr := aa.1
       have fs := aq.1
       obtain ⟨ew, ex, ey, ez, eA, eB, eC, eD, eE, eF, eG, eH⟩ := Y6 BK570.1
       obtain ⟨eI, eJ, eK, eL, eM, eN, eO, eP, eQ, eR, eS, eT⟩ := Y6 BK594.1
       go_wp2_with (first | (go_at_call 55; (with_reducible refine (spec_foSame.calls a9 _ _ ai _ _ aj _ _ am _ _ an _ _ ac _ _ ad _ _ aA _ _ ae false _ ?af aI.1 ?aB aK.1 ?aC aP.1 ?aD aR.1 ?aM (YL HO577) ?aE (YL HO580) ?aF (YL HO583) ?aG (YL HO586) e9.1).mono ?_); (case af => exact Z19 aH.1 Q0); (case aB => exact Z19 aJ.1 Q0); (case aC => exact Z19 aO.1 Q0); (case aD => exact Z19 aQ.1 Q0); (case aM => refine (Kd.R_reads' (e := 3) (base := w.heap.size) (ok := fun k_ => (some k_ ≠ (.slice ar ad.length ak : Value).ownBlock ∧ (some k_ ≠ (.slice ay ae.length ap : Value).ownBlock ∧ (some k_ ≠ (.slice au ag.length av : Value).ownBlock ∧ some k_ ≠ (.slice aw al.length ax : Value).ownBlock)))) (n := ac.length) (c := ah) ?_).2.2; exact (Yj (Yf6 HO577.1 BK594.1) (fun _ h_ => h_.1))); (case aE => refine (Kd.R_reads' (e := 3) (base := w.heap.size) (ok := fun k_ => (some k_ ≠ (.slice ao ac.length ah : Value).ownBlock ∧ (some k_ ≠ (.slice ay ae.length ap : Value).ownBlock ∧ (some k_ ≠ (.slice au ag.length av : Value).ownBlock ∧ some k_ ≠ (.slice aw al.length ax : Value).ownBlock)))) (n := ad.length) (c := ak) ?_).2.2; exact (Yj (Yf6 HO580.1 BK594.1) (fun _ h_ => h_.1))); (case aF => refine (Kd.R_reads' (e := 4) (base := w.heap.size) (ok := fun k_ => True) (n := aA.length) (c := aL) ?_).2.2; exact (Yj (Yf6 HO583.1 BK594.1) (fun _ h_ => h_.1))); (case aG => refine (Kd.R_reads' (e := 3) (base := w.heap.size) (ok := fun k_ => (some k_ ≠ (.slice ao ac.length ah : Value).ownBlock ∧ (some k_ ≠ (.slice ar ad.length ak : Value).ownBlock ∧ (some k_ ≠ (.slice au ag.length av : Value).ownBlock ∧ some k_ ≠ (.slice aw al.length ax : Value).ownBlock)))) (n := ae.length) (c := ap) ?_).2.2; exact (Yj (Yf6 HO586.1 BK594.1) (fun _ h_ => h_.1))); rintro e fO ⟨rfl, hb⟩; replace HO577 := Ya (Z13 (Yj (Yf6 HO577.1 BK594.1) (fun _ h_ => h_.1)) hb); replace HO580 := Ya (Z13 (Yj (Yf6 HO580.1 BK594.1) (fun _ h_ => h_.1)) hb); replace HO583 := Ya (Z13 (Yj (Yf6 HO583.1 BK594.1) (fun _ h_ => h_.1)) hb); replace HO586 := Ya (Z13 (Yj (Yf6 HO586.1 BK594.1) (fun _ h_ => h_.1)) hb); replace HO589 := Ya (Z13 (Yj (Yf6 HO589.1 BK594.1) (fun _ h_ => h_.1)) hb); replace HO592 := Ya (Z13 (Yj (Yf6 HO592.1 BK594.1) (fun _ h_ => h_.1)) hb); replace BK570 := Yb ⟨Yo6 BK570.1 aa.1⟩ hb; replace BK594 := Yb ⟨Yv6 BK594.1⟩ hb; replace HB := Yh hb; (try clear hb)))
       go_meet
       case rel => exact ⟨_, (true), Q17, H', ⟨Q66⟩, ⟨Q62⟩, ⟨Q61⟩, ⟨Q60⟩, ⟨Q59⟩, ⟨Q58⟩, ⟨Q57⟩, ⟨Q40⟩, ⟨Q54⟩, ⟨Q12⟩⟩
     ·have H' := Ya H
      clear H
      go_wp2
      go_meet
      case rel => exact ⟨_, (true), Q17, H', ⟨Q66⟩, ⟨Yj (Yf6 HO577.1 BK594.1) (fun _ hk => ⟨hk.1.1, ⟨hk.1.2.1, ⟨hk.1.2.2.1, hk.1.2.2.2⟩⟩⟩)⟩, ⟨Yj (Yf6 HO580.1 BK594.1) (fun _ hk => ⟨hk.1.1, ⟨hk.1.2.1, ⟨hk.1.2.2.1, hk.1.2.2.2⟩⟩⟩)⟩, ⟨Yj (Yf6 HO583.1 BK594.1) (fun _ hk => trivial)⟩, ⟨Yj (Yf6 HO586.1 BK594.1) (fun _ hk => ⟨hk.1.1, ⟨hk.1.2.1, ⟨hk.1.2.2.1, hk.1.2.2.2⟩⟩⟩)⟩, ⟨Yj (Yf6 HO589.1 BK594.1) (fun _ hk => ⟨hk.1.1, ⟨hk.1.2.1, ⟨hk.1.2.2.1, hk.1.2.2.2⟩⟩⟩)⟩, ⟨Yj (Yf6 HO592.1 BK594.1) (fun _ hk => ⟨hk.1.1, ⟨hk.1.2.1, ⟨hk.1.2.2.1, hk.1.2.2.2⟩⟩⟩)⟩, ⟨by (with_reducible repeat (first | refine Z22 ?_ _ | refine Z23 ?_ | refine Z24 ?_ _)); refine blk_far ?_ aa.1 _; (with_reducible repeat (first | refine Z22 ?_ _ | refine Z23 ?_ | refine Z24 ?_ _)); refine blk_far ?_ aa.1 _; (with_reducible repeat (first | refine Z22 ?_ _ | refine Z23 ?_ | refine Z24 ?_ _)); refine blk_far ?_ aa.1 _; (with_reducible repeat (first | refine Z22 ?_ _ | refine Z23 ?_ | refine Z24 ?_ _)); refine blk_far ?_ aa.1 _; (with_reducible repeat (first | refine Z22 ?_ _ | refine Z23 ?_ | refine Z24 ?_ _)); refine blk_far ?_ aa.1 _; (with_reducible repeat (first | refine Z22 ?_ _ | refine Z23 ?_ | refine Z24 ?_ _)); refine blk_far ?_ aa.1 _; (with_reducible repeat (first | refine Z22 ?_ _ | refine Z23 ?_ | refine Z24 ?_ _)); exact BK570.1⟩, ⟨by (with_reducible repeat (first | refine Z22 ?_ _ | refine Z23 ?_ | refine Z24 ?_ _)); refine Z26 (cs := #[.slice ao ac.length ah, .slice ar ad.length ak, .slice a7 aA.length aL, .slice ay ae.length ap, .slice au ag.length av, .slice none 0 0]) ?_ 5 _ rfl; (with_reducible repeat (first | refine Z22 ?_ _ | refine Z23 ?_ | refine Z24 ?_ _)); refine Z26 (cs := #[.slice ao ac.length ah, .slice ar ad.length ak, .slice a7 aA.length aL, .slice ay ae.length ap, .slice none 0 0, .slice none 0 0]) ?_ 4 _ rfl; (with_reducible repeat (first | refine Z22 ?_ _ | refine Z23 ?_ | refine Z24 ?_ _)); refine Z26 (cs := #[.slice ao ac.length ah, .slice ar ad.length ak, .slice a7 aA.length aL, .slice none 0 0, .slice none 0 0, .slice none 0 0]) ?_ 3 _ rfl; (with_reducible repeat (first | refine Z22 ?_ _ | refine Z23 ?_ | refine Z24 ?_ _)); refine Z26 (cs := #[.slice ao ac.length ah, .slice ar ad.length ak, .slice none 0 0, .slice none 0 0, .slice none 0 0, .slice none 0 0]) ?_ 2 _ rfl; (with_reducible repeat (first | refine Z22 ?_ _ | refine Z23 ?_ | refine Z24 ?_ _)); refine Z26 (cs := #[.slice ao ac.length ah, .slice none 0 0, .slice none 0 0, .slice none 0 0, .slice none 0 0, .slice none 0 0]) ?_ 1 _ rfl; (with_reducible repeat (first | refine Z22 ?_ _ | refine Z23 ?_ | refine Z24 ?_ _)); refine Z26 (cs := YN6) ?_ 0 _ rfl; (with_reducible repeat (first | refine Z22 ?_ _ | refine Z23 ?_ | refine Z24 ?_ _)); exact BK594.1⟩, ⟨Q12⟩⟩
    case rest =>
     clear b2
     try clear bb
     try clear bc
     try clear bd
     try clear be
     try clear bf
     try clear bg
     try clear bn
     try clear bo
     try clear bp
     try clear bq
     try clear br
     try clear bu
     try clear bC
     try clear bD
     try clear bE
     try clear bF
     try clear bG
     try clear bH
     try clear bh
     try clear bi
     try clear bj
     try clear bk
     try clear bl
     try clear bm
     try clear bv
     try clear bw
     try clear bx
     try clear bz
     try clear bA
     try clear bB
     try clear bI
     try clear bJ
     try clear bK
     try clear bL
     try clear bN
     try clear bO
     obtain ⟨kq, aN, rfl, HA, fG, b3, b4, b5, b6, b7, b8, BK570, BK594, HB⟩ := hcut
     cases kq with
     | zero => exact absurd HA.1 (by simp [spec_foRank.j1])
     | succ fH =>
      have H := HA.1
      clear HA
      simp only [spec_foRank.j1] at H
      replace H := YC H
      obtain ⟨rfl, H⟩ | ⟨rfl, H⟩ := H
      ·obtain rfl := Option.some.inj H
       go_wp2
       go_ret
       exact ⟨Q2, Q12⟩
      ·obtain rfl := Option.some.inj H
       go_wp2
       go_ret
       exact ⟨Q2, Q12⟩
def spec_StepSwapper.f (k : Nat) (ab : List Int) (ac : List Int) (ad : List Bool) (ae : List Int) (af : List Int) (ag : List Int) : Option (List Int × List Int × List Bool × List Int × List Int × List Int × Int × Bool) := (spec_foRank.f k ab ac ad ae af ag).bind fun ah => (if ah < 0 then (some (([] : List Int), ([] : List Int), ([] : List Bool), ([] : List Int), ([] : List Int), ([] : List Int), 0, false)) else ((spec_foSwap.f k ab ac ad ae af ag).bind fun aa => (if aa.2.2.2.2.2.2 < 0 then (some (([] : List Int), ([] : List Int), ([] : List Bool), ([] : List Int), ([] : List Int), ([] : List Int), 0, false)) else (some (aa.1, aa.2.1, aa.2.2.1, aa.2.2.2.1, aa.2.2.2.2.1, aa.2.2.2.2.2.1, aa.2.2.2.2.2.2, true)))))
theorem spec_StepSwapper.calls (k : Nat) (ay : Option Addr) (az : Nat) (ac : List Int) (aA : Option Addr) (aB : Nat) (ad : List Int) (aC : Option Addr) (aD : Nat) (ae : List Bool) (aE : Option Addr) (aF : Nat) (af : List Int) (aG : Option Addr) (aH : Nat) (ag : List Int) (aI : Option Addr) (aJ : Nat) (ah : List Int) (r1 : List Int) (r2 : List Int) (r3 : List Bool) (r4 : List Int) (r5 : List Int) (r6 : List Int) (r7 : Int) (r8 : Bool) (w : World) (aY : Kd.C (Kd.int .i64) w ay ac.length ac) (aZ : ac.length ≤ az) (a0 : Kd.C (Kd.int .i64) w aA ad.length ad) (a1 : ad.length ≤ aB) (a2 : Kd.C Kd.bool w aC ae.length ae) (a3 : ae.length ≤ aD) (a4 : Kd.C (Kd.int .i64) w aE af.length af) (a5 : af.length ≤ aF) (a6 : Kd.C (Kd.int .i64) w aG ag.length ag) (a7 : ag.length ≤ aH) (a8 : Kd.C (Kd.int .i64) w aI ah.length ah) (a9 : ah.length ≤ aJ) (h : spec_StepSwapper.f k ac ad ae af ag ah = some (r1, r2, r3, r4, r5, r6, r7, r8)) :
  Calls Tryz.prog 7 #[.agg #[.slice ay ac.length az, .slice aA ad.length aB, .slice aC ae.length aD, .slice aE af.length aF, .slice aG ag.length aH, .slice aI ah.length aJ]] w fun e w' => ∃ v0_ v1_ v2_ v3_ v4_ v5_ : Value, e = .returned (.tuple #[.agg #[v0_, v1_, v2_, v3_, v4_, v5_], .int .i64 r7, .bool r8]) ∧ Kd.R (Kd.int .i64) 3 w' w.heap.size (fun k_ => some k_ ≠ (v1_ : Value).ownBlock ∧ some k_ ≠ (v3_ : Value).ownBlock ∧ some k_ ≠ (v4_ : Value).ownBlock ∧ some k_ ≠ (v5_ : Value).ownBlock) v0_ r1 ∧ Kd.R (Kd.int .i64) 3 w' w.heap.size (fun k_ => some k_ ≠ (v0_ : Value).ownBlock ∧ some k_ ≠ (v3_ : Value).ownBlock ∧ some k_ ≠ (v4_ : Value).ownBlock ∧ some k_ ≠ (v5_ : Value).ownBlock) v1_ r2 ∧ Kd.R Kd.bool 4 w' w.heap.size (fun _ => True) v2_ r3 ∧ Kd.R (Kd.int .i64) 3 w' w.heap.size (fun k_ => some k_ ≠ (v0_ : Value).ownBlock ∧ some k_ ≠ (v1_ : Value).ownBlock ∧ some k_ ≠ (v4_ : Value).ownBlock ∧ some k_ ≠ (v5_ : Value).ownBlock) v3_ r4 ∧ Kd.R (Kd.int .i64) 3 w' w.heap.size (fun k_ => some k_ ≠ (v0_ : Value).ownBlock ∧ some k_ ≠ (v1_ : Value).ownBlock ∧ some k_ ≠ (v3_ : Value).ownBlock ∧ some k_ ≠ (v5_ : Value).ownBlock) v4_ r5 ∧ Kd.R (Kd.int .i64) 3 w' w.heap.size (fun k_ => some k_ ≠ (v0_ : Value).ownBlock ∧ some k_ ≠ (v1_ : Value).ownBlock ∧ some k_ ≠ (v3_ : Value).ownBlock ∧ some k_ ≠ (v4_ : Value).ownBlock) v5_ r6 ∧ Below w.heap.size w w' := by
 have hu29 := Tryz.underlying29
 have aK := Ya aY
 have aL := Ya aZ
 clear aY aZ
 have aM := Ya a0
 have aN := Ya a1
 clear a0 a1
 have aO := Ya a2
 have aP := Ya a3
 clear a2 a3
 have aQ := Ya a4
 have aR := Ya a5
 clear a4 a5
 have aS := Ya a6
 have aT := Ya a7
 clear a6 a7
 have aU := Ya a8
 have aV := Ya a9
 clear a8 a9
 have HB := Ya (Below.refl w.heap.size w)
 have H : ((spec_foRank.f k ac ad ae af ag ah).bind fun aX => (if aX < 0 then (some (([] : List Int), ([] : List Int), ([] : List Bool), ([] : List Int), ([] : List Int), ([] : List Int), 0, false)) else ((spec_foSwap.f k ac ad ae af ag ah).bind fun ap => (if ap.2.2.2.2.2.2 < 0 then (some (([] : List Int), ([] : List Int), ([] : List Bool), ([] : List Int), ([] : List Int), ([] : List Int), 0, false)) else (some (ap.1, ap.2.1, ap.2.2.1, ap.2.2.2.1, ap.2.2.2.2.1, ap.2.2.2.2.2.1, ap.2.2.2.2.2.2, true)))))) = some (r1, r2, r3, r4, r5, r6, r7, r8) := h
 clear h
 replace H := YB H
 obtain ⟨aX, A2, H⟩ := H
 by_cases c3 : aX < 0
 ·rw [if_pos c3] at H
  have b8 := Z35 c3
  clear c3
  simp only [Option.some.injEq, Prod.mk.injEq] at H
  obtain ⟨rfl, rfl, rfl, rfl, rfl, rfl, rfl, rfl⟩ := H
  go_enter Tryz.func7, Tryz.ntmps7
  go_wp2_with (first | ((with_reducible refine gate_dst (N := 1) rfl ?_); refine Yx 1 #[.slice ay ac.length az, .slice aA ad.length aB, .slice aC ae.length aD, .slice aE af.length aF, .slice aG ag.length aH, .slice aI ah.length aJ] 29 ?_; intro ba hg w4 hbox hb; have aa := Ya hbox; have bb := Yg hg; replace HB := Yh hb; clear hb hbox hg) | ((with_reducible refine gate_dst (N := 2) rfl ?_); refine Yx 2 YN6 29 ?_; intro aW hg w5 hbox hb; have ab := Ya hbox; have bc := Yg hg; replace HB := Yh hb; have ai := Yn aa hg; have aj := Ym aa hg; replace aa := Yb aa hb; clear hb hbox hg; have cU := ai.1; have cV := aj.1; have dn := Y6 aa.1) | ((with_reducible refine gate_callee (f := 28) rfl ?_); refine Yz 8 Tryz.func28 #[.agg #[.slice ay ac.length az, .slice aA ad.length aB, .slice aC ae.length aD, .slice aE af.length aF, .slice aG ag.length aH, .slice aI ah.length aJ]] ?_; (with_reducible refine (spec_foRank.calls k _ _ ac _ _ ad _ _ ae _ _ af _ _ ag _ _ ah aX _ (Yc (Z19 aK.1 HB.1)) aL.1 (Yc (Z19 aM.1 HB.1)) aN.1 (Yc (Z19 aO.1 HB.1)) aP.1 (Yc (Z19 aQ.1 HB.1)) aR.1 (Yc (Z19 aS.1 HB.1)) aT.1 (Yc (Z19 aU.1 HB.1)) aV.1 A2.1).mono ?_); rintro e w8 ⟨rfl, hb⟩; refine ⟨_, rfl, ?_⟩; replace aa := Yb aa hb; replace ab := Yb ab hb; replace HB := Yh hb; (try clear hb); obtain ⟨b9, ca, cb, cc, cd, ce, cf, cg, ch, cj, ck, cl⟩ := Y6 ab.1))
  refine bodyPost_ret (results_ctt rfl _ _ aW 29 YN6 (0, 0) _ rfl (Yk (Yv6 ab.1)) Tryz.underlying29 rfl (by kernel_rfl)) rfl ?_
  exact ⟨_, _, _, _, _, _, Q2, Q3, Q3, Q3, Q3, Q3, Q3, Q12⟩
 ·rw [if_neg c3] at H
  have b8 := Z34 c3
  clear c3
  replace H := YB H
  obtain ⟨⟨bd, be, bf, bg, bh, bi, bj⟩, cH, H⟩ := H
  dsimp only at H
  by_cases bk : bj < 0
  ·rw [if_pos bk] at H
   have bl := Z35 bk
   clear bk
   simp only [Option.some.injEq, Prod.mk.injEq] at H
   obtain ⟨rfl, rfl, rfl, rfl, rfl, rfl, rfl, rfl⟩ := H
   go_enter Tryz.func7, Tryz.ntmps7
   go_wp2_with (first | ((with_reducible refine gate_dst (N := 1) rfl ?_); refine Yx 1 #[.slice ay ac.length az, .slice aA ad.length aB, .slice aC ae.length aD, .slice aE af.length aF, .slice aG ag.length aH, .slice aI ah.length aJ] 29 ?_; intro ba hg dp hbox hb; have aa := Ya hbox; have bb := Yg hg; replace HB := Yh hb; clear hb hbox hg) | ((with_reducible refine gate_dst (N := 2) rfl ?_); refine Yx 2 YN6 29 ?_; intro aW hg dq hbox hb; have ab := Ya hbox; have bc := Yg hg; replace HB := Yh hb; have ai := Yn aa hg; have aj := Ym aa hg; replace aa := Yb aa hb; clear hb hbox hg; have cI := ai.1; have cJ := aj.1; have cW := Y6 aa.1) | ((with_reducible refine gate_callee (f := 28) rfl ?_); refine Yz 8 Tryz.func28 #[.agg #[.slice ay ac.length az, .slice aA ad.length aB, .slice aC ae.length aD, .slice aE af.length aF, .slice aG ag.length aH, .slice aI ah.length aJ]] ?_; (with_reducible refine (spec_foRank.calls k _ _ ac _ _ ad _ _ ae _ _ af _ _ ag _ _ ah aX _ (Yc (Z19 aK.1 HB.1)) aL.1 (Yc (Z19 aM.1 HB.1)) aN.1 (Yc (Z19 aO.1 HB.1)) aP.1 (Yc (Z19 aQ.1 HB.1)) aR.1 (Yc (Z19 aS.1 HB.1)) aT.1 (Yc (Z19 aU.1 HB.1)) aV.1 A2.1).mono ?_); rintro e dr ⟨rfl, hb⟩; refine ⟨_, rfl, ?_⟩; replace aa := Yb aa hb; replace ab := Yb ab hb; replace HB := Yh hb; (try clear hb); obtain ⟨bw, bx, bz, bA, bB, bC, bD, bE, bF, bG, bH, bI⟩ := Y6 aa.1) | ((with_reducible refine gate_callee (f := 29) rfl ?_); refine Yz 13 Tryz.func29 #[.agg #[.slice ay ac.length az, .slice aA ad.length aB, .slice aC ae.length aD, .slice aE af.length aF, .slice aG ag.length aH, .slice aI ah.length aJ]] ?_; (with_reducible refine (spec_foSwap.calls k _ _ ac _ _ ad _ _ ae _ _ af _ _ ag _ _ ah bd be bf bg bh bi bj _ (Yc (Z19 aK.1 HB.1)) aL.1 (Yc (Z19 aM.1 HB.1)) aN.1 (Yc (Z19 aO.1 HB.1)) aP.1 (Yc (Z19 aQ.1 HB.1)) aR.1 (Yc (Z19 aS.1 HB.1)) aT.1 (Yc (Z19 aU.1 HB.1)) aV.1 cH.1).mono ?_); rintro e dt ⟨cm, cp, cq, cr, ct, cu, rfl, bm, bn, bo, bp, bq, br, hb⟩; refine ⟨_, rfl, ?_⟩; have aq := Yl bm; have ar := Yl bn; have au := Yl bo; have av := Yl bp; have aw := Yl bq; have ax := Yl br; replace aa := Yb aa hb; replace ab := Yb ab hb; replace HB := Yh hb; (try clear hb bm bn bo bp bq br)) | ((with_reducible refine gate_dst (N := 5) rfl ?_); refine Yx 5 YN6 29 ?_; intro bu hg du hbox hb; replace aq := Yw aq hb; replace ar := Yw ar hb; replace au := Yw au hb; replace av := Yw av hb; replace aw := Yw aw hb; replace ax := Yw ax hb; have al := Ya hbox; have bv := Yg hg; replace HB := Yh hb; have am := Yn aa hg; have an := Ym aa hg; replace aa := Yb aa hb; have ak := Yn ab hg; have ao := Ym ab hg; replace ab := Yb ab hb; clear hb hbox hg; obtain ⟨cX, cY, rfl⟩ := Z15 aq.1; have cK := an.1; have cL := am.1; have cM := ao.1; have cN := ak.1; have cZ := Y6 al.1; obtain ⟨da, db, rfl⟩ := Z15 ar.1; obtain ⟨dc, dd, rfl⟩ := Z15 au.1; obtain ⟨de, df, rfl⟩ := Z15 av.1; obtain ⟨dg, dh, rfl⟩ := Z15 aw.1; obtain ⟨di, dj, rfl⟩ := Z15 ax.1; have dk := Y6 ab.1))
   refine bodyPost_ret (results_ctt rfl _ _ aW 29 YN6 (0, 0) _ rfl (Yk (Yv6 (Yo6 ab.1 ak.1))) Tryz.underlying29 rfl (by kernel_rfl)) rfl ?_
   exact ⟨_, _, _, _, _, _, Q2, Q3, Q3, Q3, Q3, Q3, Q3, Q12⟩
  ·rw [if_neg bk] at H
   have bl := Z34 bk
   clear bk
   simp only [Option.some.injEq, Prod.mk.injEq] at H
   obtain ⟨rfl, rfl, rfl, rfl, rfl, rfl, rfl, rfl⟩ := H
   go_enter Tryz.func7, Tryz.ntmps7
   go_wp2_with (first | ((with_reducible refine gate_dst (N := 1) rfl ?_); refine Yx 1 #[.slice ay ac.length az, .slice aA ad.length aB, .slice aC ae.length aD, .slice aE af.length aF, .slice aG ag.length aH, .slice aI ah.length aJ] 29 ?_; intro ba hg dv hbox hb; have aa := Ya hbox; have bb := Yg hg; replace HB := Yh hb; clear hb hbox hg) | ((with_reducible refine gate_dst (N := 2) rfl ?_); refine Yx 2 YN6 29 ?_; intro aW hg dw hbox hb; have ab := Ya hbox; have bc := Yg hg; replace HB := Yh hb; have ai := Yn aa hg; have aj := Ym aa hg; replace aa := Yb aa hb; clear hb hbox hg; have cO := ai.1; have cP := aj.1; have dl := Y6 aa.1) | ((with_reducible refine gate_callee (f := 28) rfl ?_); refine Yz 8 Tryz.func28 #[.agg #[.slice ay ac.length az, .slice aA ad.length aB, .slice aC ae.length aD, .slice aE af.length aF, .slice aG ag.length aH, .slice aI ah.length aJ]] ?_; (with_reducible refine (spec_foRank.calls k _ _ ac _ _ ad _ _ ae _ _ af _ _ ag _ _ ah aX _ (Yc (Z19 aK.1 HB.1)) aL.1 (Yc (Z19 aM.1 HB.1)) aN.1 (Yc (Z19 aO.1 HB.1)) aP.1 (Yc (Z19 aQ.1 HB.1)) aR.1 (Yc (Z19 aS.1 HB.1)) aT.1 (Yc (Z19 aU.1 HB.1)) aV.1 A2.1).mono ?_); rintro e dx ⟨rfl, hb⟩; refine ⟨_, rfl, ?_⟩; replace aa := Yb aa hb; replace ab := Yb ab hb; replace HB := Yh hb; (try clear hb); have dm := Y6 aa.1) | ((with_reducible refine gate_callee (f := 29) rfl ?_); refine Yz 13 Tryz.func29 #[.agg #[.slice ay ac.length az, .slice aA ad.length aB, .slice aC ae.length aD, .slice aE af.length aF, .slice aG ag.length aH, .slice aI ah.length aJ]] ?_; (with_reducible refine (spec_foSwap.calls k _ _ ac _ _ ad _ _ ae _ _ af _ _ ag _ _ ah bd be bf bg bh bi bj _ (Yc (Z19 aK.1 HB.1)) aL.1 (Yc (Z19 aM.1 HB.1)) aN.1 (Yc (Z19 aO.1 HB.1)) aP.1 (Yc (Z19 aQ.1 HB.1)) aR.1 (Yc (Z19 aS.1 HB.1)) aT.1 (Yc (Z19 aU.1 HB.1)) aV.1 cH.1).mono ?_); rintro e dy ⟨cm, cp, cq, cr, ct, cu, rfl, bm, bn, bo, bp, bq, br, hb⟩; refine ⟨_, rfl, ?_⟩; have aq := Yl bm; have ar := Yl bn; have au := Yl bo; have av := Yl bp; have aw := Yl bq; have ax := Yl br; replace aa := Yb aa hb; replace ab := Yb ab hb; replace HB := Yh hb; (try clear hb bm bn bo bp bq br)) | ((with_reducible refine gate_dst (N := 5) rfl ?_); refine Yx 5 YN6 29 ?_; intro bu hg dz hbox hb; replace aq := Yw aq hb; replace ar := Yw ar hb; replace au := Yw au hb; replace av := Yw av hb; replace aw := Yw aw hb; replace ax := Yw ax hb; have al := Ya hbox; have bv := Yg hg; replace HB := Yh hb; have am := Yn aa hg; have an := Ym aa hg; replace aa := Yb aa hb; have ak := Yn ab hg; have ao := Ym ab hg; replace ab := Yb ab hb; clear hb hbox hg; obtain ⟨cv, cw, rfl⟩ := Z15 aq.1; have cQ := an.1; have cR := am.1; have cS := ao.1; have cT := ak.1; obtain ⟨bJ, bK, bL, bN, bO, bP, bQ, bR, bS, bT, bU, bV⟩ := Y6 al.1; obtain ⟨cx, cy, rfl⟩ := Z15 ar.1; obtain ⟨cz, cA, rfl⟩ := Z15 au.1; obtain ⟨cB, cC, rfl⟩ := Z15 av.1; obtain ⟨cD, cE, rfl⟩ := Z15 aw.1; obtain ⟨cF, cG, rfl⟩ := Z15 ax.1; obtain ⟨bW, bX, bY, bZ, b0, b1, b2, b3, b4, b5, b6, b7⟩ := Y6 ab.1))
   refine bodyPost_ret (results_ctt rfl _ _ aW 29 #[.slice cv bd.length cw, .slice cx be.length cy, .slice cz bf.length cA, .slice cB bg.length cC, .slice cD bh.length cE, .slice cF bi.length cG] (0, 0) _ rfl (Yk (Yv6 (Yo6 ab.1 ak.1))) Tryz.underlying29 rfl (by kernel_rfl)) rfl ?_
   exact ⟨_, _, _, _, _, _, Q2, Yj (Yd6 aq.1 al.1 ab.1) (fun _ hk => ⟨hk.1.1.1, ⟨hk.1.1.2.1, ⟨hk.1.1.2.2.1, hk.1.1.2.2.2⟩⟩⟩), Yj (Yd6 ar.1 al.1 ab.1) (fun _ hk => ⟨hk.1.1.1, ⟨hk.1.1.2.1, ⟨hk.1.1.2.2.1, hk.1.1.2.2.2⟩⟩⟩), Yj (Yd6 au.1 al.1 ab.1) (fun _ hk => trivial), Yj (Yd6 av.1 al.1 ab.1) (fun _ hk => ⟨hk.1.1.1, ⟨hk.1.1.2.1, ⟨hk.1.1.2.2.1, hk.1.1.2.2.2⟩⟩⟩), Yj (Yd6 aw.1 al.1 ab.1) (fun _ hk => ⟨hk.1.1.1, ⟨hk.1.1.2.1, ⟨hk.1.1.2.2.1, hk.1.1.2.2.2⟩⟩⟩), Yj (Yd6 ax.1 al.1 ab.1) (fun _ hk => ⟨hk.1.1.1, ⟨hk.1.1.2.1, ⟨hk.1.1.2.2.1, hk.1.1.2.2.2⟩⟩⟩), Q12⟩
def impl_SwapperRank.f (k : Nat) (aa : List Int) (ab : List Int) (ac : List Bool) (ad : List Int) (ae : List Int) (af : List Int) : Option (Int × Bool) := (impl_IsSwapper.f k aa ab ac ad ae af).bind fun ag => (if ag = true then ((impl_mixedRank.f k aa ab).bind fun ah => (some (ah, true))) else (some (0, false)))
theorem impl_SwapperRank.calls (k : Nat) (ah : Option Addr) (ai : Nat) (ab : List Int) (aj : Option Addr) (ak : Nat) (ac : List Int) (al : Option Addr) (am : Nat) (ad : List Bool) (an : Option Addr) (ao : Nat) (ae : List Int) (ap : Option Addr) (aq : Nat) (af : List Int) (ar : Option Addr) (au : Nat) (ag : List Int) (r1 : Int) (r2 : Bool) (w : World) (az : Kd.C (Kd.int .i64) w ah ab.length ab) (aA : ab.length ≤ ai) (aB : Kd.C (Kd.int .i64) w aj ac.length ac) (aC : ac.length ≤ ak) (aD : Kd.C Kd.bool w al ad.length ad) (aE : ad.length ≤ am) (aF : Kd.C (Kd.int .i64) w an ae.length ae) (aG : ae.length ≤ ao) (aH : Kd.C (Kd.int .i64) w ap af.length af) (aI : af.length ≤ aq) (aJ : Kd.C (Kd.int .i64) w ar ag.length ag) (aK : ag.length ≤ au) (h : impl_SwapperRank.f k ab ac ad ae af ag = some (r1, r2)) :
  Calls Tryz.prog 8 #[.agg #[.slice ah ab.length ai, .slice aj ac.length ak, .slice al ad.length am, .slice an ae.length ao, .slice ap af.length aq, .slice ar ag.length au]] w fun e w' => e = .returned (.tuple #[.int .i64 r1, .bool r2]) ∧ Below w.heap.size w w' := by
 have hu29 := Tryz.underlying29
 have av := Ya az
 have aw := Ya aA
 clear az aA
 have ax := Ya aB
 have ay := Ya aC
 clear aB aC
 have aL := Ya aD
 have aM := Ya aE
 clear aD aE
 have aN := Ya aF
 have aO := Ya aG
 clear aF aG
 have aP := Ya aH
 have aQ := Ya aI
 clear aH aI
 have aR := Ya aJ
 have aS := Ya aK
 clear aJ aK
 have HB := Ya (Below.refl w.heap.size w)
 have H : ((impl_IsSwapper.f k ab ac ad ae af ag).bind fun aU => (if aU = true then ((impl_mixedRank.f k ab ac).bind fun aT => (some (aT, true))) else (some (0, false)))) = some (r1, r2) := h
 clear h
 replace H := YB H
 obtain ⟨aU, A2, H⟩ := H
 replace H := YC H
 obtain ⟨rfl, H⟩ | ⟨rfl, H⟩ := H
 ·replace H := YB H
  obtain ⟨aT, A4, H⟩ := H
  simp only [Option.some.injEq, Prod.mk.injEq] at H
  obtain ⟨rfl, rfl⟩ := H
  go_enter Tryz.func8, Tryz.ntmps8
  go_wp2_with (first | ((with_reducible refine gate_dst (N := 1) rfl ?_); refine Yx 1 #[.slice ah ab.length ai, .slice aj ac.length ak, .slice al ad.length am, .slice an ae.length ao, .slice ap af.length aq, .slice ar ag.length au] 29 ?_; intro aV hg w5 hbox hb; have aa := Ya hbox; have aW := Yg hg; replace HB := Yh hb; clear hb hbox hg; have a9 := Y6 aa.1) | ((with_reducible refine gate_callee (f := 11) rfl ?_); refine Yz 5 Tryz.func11 #[.agg #[.slice ah ab.length ai, .slice aj ac.length ak, .slice al ad.length am, .slice an ae.length ao, .slice ap af.length aq, .slice ar ag.length au]] ?_; (with_reducible refine (impl_IsSwapper.calls k _ _ ab _ _ ac _ _ ad _ _ ae _ _ af _ _ ag true _ (Yc (Z19 av.1 HB.1)) aw.1 (Yc (Z19 ax.1 HB.1)) ay.1 (Yc (Z19 aL.1 HB.1)) aM.1 (Yc (Z19 aN.1 HB.1)) aO.1 (Yc (Z19 aP.1 HB.1)) aQ.1 (Yc (Z19 aR.1 HB.1)) aS.1 A2.1).mono ?_); rintro e w7 ⟨rfl, hb⟩; refine ⟨_, rfl, ?_⟩; replace aa := Yb aa hb; replace HB := Yh hb; (try clear hb); have ba := Y6 aa.1) | ((with_reducible refine gate_callee (f := 30) rfl ?_); refine Yz 13 Tryz.func30 #[.slice ah ab.length ai, .slice aj ac.length ak] ?_; (with_reducible refine (impl_mixedRank.calls k _ _ ab _ _ ac aT _ (Yc (Z19 av.1 HB.1)) aw.1 (Yc (Z19 ax.1 HB.1)) ay.1 A4.1).mono ?_); rintro e w9 ⟨rfl, hb⟩; refine ⟨_, rfl, ?_⟩; replace aa := Yb aa hb; replace HB := Yh hb; (try clear hb)))
  go_ret2
  exact ⟨Q2, Q12⟩
 ·simp only [Option.some.injEq, Prod.mk.injEq] at H
  obtain ⟨rfl, rfl⟩ := H
  go_enter Tryz.func8, Tryz.ntmps8
  go_wp2_with (first | ((with_reducible refine gate_dst (N := 1) rfl ?_); refine Yx 1 #[.slice ah ab.length ai, .slice aj ac.length ak, .slice al ad.length am, .slice an ae.length ao, .slice ap af.length aq, .slice ar ag.length au] 29 ?_; intro aV hg bb hbox hb; have aa := Ya hbox; have aW := Yg hg; replace HB := Yh hb; clear hb hbox hg; obtain ⟨aX, aY, aZ, a0, a1, a2, a3, a4, a5, a6, a7, a8⟩ := Y6 aa.1) | ((with_reducible refine gate_callee (f := 11) rfl ?_); refine Yz 5 Tryz.func11 #[.agg #[.slice ah ab.length ai, .slice aj ac.length ak, .slice al ad.length am, .slice an ae.length ao, .slice ap af.length aq, .slice ar ag.length au]] ?_; (with_reducible refine (impl_IsSwapper.calls k _ _ ab _ _ ac _ _ ad _ _ ae _ _ af _ _ ag false _ (Yc (Z19 av.1 HB.1)) aw.1 (Yc (Z19 ax.1 HB.1)) ay.1 (Yc (Z19 aL.1 HB.1)) aM.1 (Yc (Z19 aN.1 HB.1)) aO.1 (Yc (Z19 aP.1 HB.1)) aQ.1 (Yc (Z19 aR.1 HB.1)) aS.1 A2.1).mono ?_); rintro e bc ⟨rfl, hb⟩; refine ⟨_, rfl, ?_⟩; replace aa := Yb aa hb; replace HB := Yh hb; (try clear hb)))
  go_ret2
  exact ⟨Q2, Q12⟩
def spec_SwapperRank.f (k : Nat) (ab : List Int) (ac : List Int) (ad : List Bool) (ae : List Int) (af : List Int) (ag : List Int) : Option (Int × Bool) := (spec_foRank.f k ab ac ad ae af ag).bind fun aa => (if aa < 0 then (some (0, false)) else (some (aa, true)))
theorem spec_SwapperRank.calls (k : Nat) (ah : Option Addr) (ai : Nat) (aa : List Int) (aj : Option Addr) (ak : Nat) (ab : List Int) (al : Option Addr) (am : Nat) (ac : List Bool) (an : Option Addr) (ao : Nat) (ad : List Int) (ap : Option Addr) (aq : Nat) (ae : List Int) (ar : Option Addr) (au : Nat) (af : List Int) (r1 : Int) (r2 : Bool) (w : World) (aw : Kd.C (Kd.int .i64) w ah aa.length aa) (ax : aa.length ≤ ai) (ay : Kd.C (Kd.int .i64) w aj ab.length ab) (az : ab.length ≤ ak) (aA : Kd.C Kd.bool w al ac.length ac) (aB : ac.length ≤ am) (aC : Kd.C (Kd.int .i64) w an ad.length ad) (aD : ad.length ≤ ao) (aE : Kd.C (Kd.int .i64) w ap ae.length ae) (aF : ae.length ≤ aq) (aG : Kd.C (Kd.int .i64) w ar af.length af) (aH : af.length ≤ au) (h : spec_SwapperRank.f k aa ab ac ad ae af = some (r1, r2)) :
  Calls Tryz.prog 9 #[.agg #[.slice ah aa.length ai, .slice aj ab.length ak, .slice al ac.length am, .slice an ad.length ao, .slice ap ae.length aq, .slice ar af.length au]] w fun e w' => e = .returned (.tuple #[.int .i64 r1, .bool r2]) ∧ Below w.heap.size w w' := by
 have hu29 := Tryz.underlying29
 have aI := Ya aw
 have aJ := Ya ax
 clear aw ax
 have aK := Ya ay
 have aL := Ya az
 clear ay az
 have aM := Ya aA
 have aN := Ya aB
 clear aA aB
 have aO := Ya aC
 have aP := Ya aD
 clear aC aD
 have aQ := Ya aE
 have aR := Ya aF
 clear aE aF
 have aS := Ya aG
 have aT := Ya aH
 clear aG aH
 have HB := Ya (Below.refl w.heap.size w)
 have H : ((spec_foRank.f k aa ab ac ad ae af).bind fun av => (if av < 0 then (some (0, false)) else (some (av, true)))) = some (r1, r2) := h
 clear h
 replace H := YB H
 obtain ⟨av, A2, H⟩ := H
 by_cases c3 : av < 0
 ·rw [if_pos c3] at H
  have aW := Z35 c3
  clear c3
  simp only [Option.some.injEq, Prod.mk.injEq] at H
  obtain ⟨rfl, rfl⟩ := H
  go_enter Tryz.func9, Tryz.ntmps9
  go_wp2_with (first | ((with_reducible refine gate_dst (N := 1) rfl ?_); refine Yx 1 #[.slice ah aa.length ai, .slice aj ab.length ak, .slice al ac.length am, .slice an ad.length ao, .slice ap ae.length aq, .slice ar af.length au] 29 ?_; intro aU hg w4 hbox hb; have ag := Ya hbox; have aV := Yg hg; replace HB := Yh hb; clear hb hbox hg; have aX := Y6 ag.1) | ((with_reducible refine gate_callee (f := 28) rfl ?_); refine Yz 6 Tryz.func28 #[.agg #[.slice ah aa.length ai, .slice aj ab.length ak, .slice al ac.length am, .slice an ad.length ao, .slice ap ae.length aq, .slice ar af.length au]] ?_; (with_reducible refine (spec_foRank.calls k _ _ aa _ _ ab _ _ ac _ _ ad _ _ ae _ _ af av _ (Yc (Z19 aI.1 HB.1)) aJ.1 (Yc (Z19 aK.1 HB.1)) aL.1 (Yc (Z19 aM.1 HB.1)) aN.1 (Yc (Z19 aO.1 HB.1)) aP.1 (Yc (Z19 aQ.1 HB.1)) aR.1 (Yc (Z19 aS.1 HB.1)) aT.1 A2.1).mono ?_); rintro e w6 ⟨rfl, hb⟩; refine ⟨_, rfl, ?_⟩; replace ag := Yb ag hb; replace HB := Yh hb; (try clear hb)))
  go_ret2
  exact ⟨Q2, Q12⟩
 ·rw [if_neg c3] at H
  have aW := Z34 c3
  clear c3
  simp only [Option.some.injEq, Prod.mk.injEq] at H
  obtain ⟨rfl, rfl⟩ := H
  go_enter Tryz.func9, Tryz.ntmps9
  go_wp2_with (first | ((with_reducible refine gate_dst (N := 1) rfl ?_); refine Yx 1 #[.slice ah aa.length ai, .slice aj ab.length ak, .slice al ac.length am, .slice an ad.length ao, .slice ap ae.length aq, .slice ar af.length au] 29 ?_; intro aU hg w7 hbox hb; have ag := Ya hbox; have aV := Yg hg; replace HB := Yh hb; clear hb hbox hg; have aY := Y6 ag.1) | ((with_reducible refine gate_callee (f := 28) rfl ?_); refine Yz 6 Tryz.func28 #[.agg #[.slice ah aa.length ai, .slice aj ab.length ak, .slice al ac.length am, .slice an ad.length ao, .slice ap ae.length aq, .slice ar af.length au]] ?_; (with_reducible refine (spec_foRank.calls k _ _ aa _ _ ab _ _ ac _ _ ad _ _ ae _ _ af av _ (Yc (Z19 aI.1 HB.1)) aJ.1 (Yc (Z19 aK.1 HB.1)) aL.1 (Yc (Z19 aM.1 HB.1)) aN.1 (Yc (Z19 aO.1 HB.1)) aP.1 (Yc (Z19 aQ.1 HB.1)) aR.1 (Yc (Z19 aS.1 HB.1)) aT.1 A2.1).mono ?_); rintro e w9 ⟨rfl, hb⟩; refine ⟨_, rfl, ?_⟩; replace ag := Yb ag hb; replace HB := Yh hb; (try clear hb)))
  go_ret2
  exact ⟨Q2, Q12⟩
def laws_uSame.l0 : Nat → List Int → List Int → Int → Int → Option (Bool)
 | 0, _, _, _, _ => none
 | k + 1, x0, x1, ab, aa => if aa < ab then (if 0 ≤ aa then (if aa < (x0.length : Int) then (if aa < (x1.length : Int) then (if (rd x0 aa) = (rd x1 aa) then (laws_uSame.l0 k x0 x1 ab (wrap64 (aa + 1))) else (some false)) else (none)) else (none)) else (none)) else (some true)
def laws_uSame.f (k : Nat) (l0 : List Int) (l1 : List Int) : Option (Bool) := if (l0.length : Int) = (l1.length : Int) then (laws_uSame.l0 k l0 l1 (l0.length : Int) 0) else (some false)
theorem laws_uSame.calls (k : Nat) (A0 : Option Addr) (c0 : Nat) (l0 : List Int) (A1 : Option Addr) (c1 : Nat) (l1 : List Int) (r : Bool) (w : World) (ar : Kd.C (Kd.int .i64) w A0 l0.length l0) (au : l0.length ≤ c0) (av : Kd.C (Kd.int .i64) w A1 l1.length l1) (aw : l1.length ≤ c1) (h : laws_uSame.f k l0 l1 = some r) :
  Calls Tryz.prog 14 #[.slice A0 l0.length c0, .slice A1 l1.length c1] w fun e w' => e = .returned (.bool r) ∧ Drawn0 w w' := by
 have HR0 := Ya ar
 have aC := Ya au
 clear ar au
 have ax := Ya av
 have aD := Ya aw
 clear av aw
 have H : (if (l0.length : Int) = (l1.length : Int) then (laws_uSame.l0 k l0 l1 (l0.length : Int) 0) else (some false)) = some r := h
 clear h
 by_cases c3 : (l0.length : Int) = (l1.length : Int)
 ·rw [if_pos c3] at H
  have aj : ((l0.length : Int) == (l1.length : Int)) = true := beq_iff_eq.mpr c3
  have ak : ((l0.length : Int) != (l1.length : Int)) = false := bne_eq_false_iff_eq.mpr c3
  have al : (l0.length == l1.length) = true := by first | simpa using c3 | (simp at c3 ⊢; omega)
  clear c3
  have H' := Ya H
  clear H
  go_enter Tryz.func14, Tryz.ntmps14
  go_wp2
  repeat (go_quiet (fail); try go_wp2)
  go_loopg [13] k (fun kq ay w' => ∃ (aa : Int), ay = .int .i64 aa ∧ Aside0 (laws_uSame.l0 kq l0 l1 (l0.length : Int) aa = some r) ∧ Aside0 (kq ≤ k) ∧ Drawn0 w w')
  case atStart => exact ⟨(0), Q17, H', ⟨Nat.le_refl _⟩, Q16⟩
  case round =>
   clear H'
   try clear c1
   try clear c3
   try clear aj
   try clear ak
   try clear al
   obtain ⟨aa, rfl, HA, HK1, ⟨m1, rfl⟩⟩ := hrel
   cases gk with
   | zero => exact absurd HA.1 (by simp [laws_uSame.l0])
   | succ k1 =>
    have H := HA.1
    clear HA
    simp only [laws_uSame.l0] at H
    by_cases c4 : aa < (l0.length : Int)
    ·rw [if_pos c4] at H
     have ao := Z35 c4
     clear c4
     by_cases c5 : 0 ≤ aa
     ·rw [if_pos c5] at H
      have az := Z35 c5
      clear c5
      by_cases c6 : aa < (l0.length : Int)
      ·rw [if_pos c6] at H
       have aA := Z35 c6
       clear c6
       by_cases c7 : aa < (l1.length : Int)
       ·rw [if_pos c7] at H
        have aB := Z35 c7
        clear c7
        by_cases c8 : (rd l0 aa) = (rd l1 aa)
        ·rw [if_pos c8] at H
         have ap : ((rd l0 aa) == (rd l1 aa)) = true := beq_iff_eq.mpr c8
         have aq : ((rd l0 aa) != (rd l1 aa)) = false := bne_eq_false_iff_eq.mpr c8
         clear c8
         have H' := Ya H
         clear H
         have ab : 0 ≤ (aa : Int) := Z27 Q5
         have ac : aa < (l0.length : Int) := Z27 Q5
         obtain ⟨am, ah, af⟩ := Kd.at_int HR0.1 aa ab ac
         cases ah
         replace ab := eq_true ab
         replace ac := eq_true ac
         have ad : 0 ≤ (aa : Int) := Z27 Q5
         have ae : aa < (l1.length : Int) := Z27 Q5
         obtain ⟨an, ai, ag⟩ := Kd.at_int ax.1 aa ad ae
         cases ai
         replace ad := eq_true ad
         replace ae := eq_true ae
         go_wp2
         repeat (go_quiet (fail); try go_wp2)
         go_roundg k1
         case measure => have := HK1.1; omega
         case rel => exact ⟨(wrap64 (aa + 1)), Q17, H', ⟨Q35⟩, Q16⟩
        ·rw [if_neg c8] at H
         have ap : ((rd l0 aa) == (rd l1 aa)) = false := beq_eq_false_iff_ne.mpr c8
         have aq : ((rd l0 aa) != (rd l1 aa)) = true := bne_iff_ne.mpr c8
         obtain rfl := Option.some.inj H
         have ab : 0 ≤ (aa : Int) := Z27 Q5
         have ac : aa < (l0.length : Int) := Z27 Q5
         obtain ⟨am, ah, af⟩ := Kd.at_int HR0.1 aa ab ac
         cases ah
         replace ab := eq_true ab
         replace ac := eq_true ac
         have ad : 0 ≤ (aa : Int) := Z27 Q5
         have ae : aa < (l1.length : Int) := Z27 Q5
         obtain ⟨an, ai, ag⟩ := Kd.at_int ax.1 aa ad ae
         cases ai
         replace ad := eq_true ad
         replace ae := eq_true ae
         go_wp2
         repeat (go_quiet (fail); try go_wp2)
         go_ret
         exact ⟨Q24, Q16⟩
       ·rw [if_neg c7] at H
        exact absurd H (by simp)
      ·rw [if_neg c6] at H
       exact absurd H (by simp)
     ·rw [if_neg c5] at H
      exact absurd H (by simp)
    ·rw [if_neg c4] at H
     have ao := Z34 c4
     clear c4
     obtain rfl := Option.some.inj H
     go_wp2
     repeat (go_quiet (fail); try go_wp2)
     go_ret
     exact ⟨Q24, Q16⟩
 ·rw [if_neg c3] at H
  have aj : ((l0.length : Int) == (l1.length : Int)) = false := beq_eq_false_iff_ne.mpr c3
  have ak : ((l0.length : Int) != (l1.length : Int)) = true := bne_iff_ne.mpr c3
  have al : (l0.length == l1.length) = false := by first | simpa using c3 | (simp at c3 ⊢; omega)
  obtain rfl := Option.some.inj H
  go_enter Tryz.func14, Tryz.ntmps14
  go_wp2
  repeat (go_quiet (fail); try go_wp2)
  go_ret
  exact ⟨Q24, Q16⟩
def laws_uBools.l0 : Nat → List Bool → List Bool → Int → Int → Option (Bool)
 | 0, _, _, _, _ => none
 | k + 1, x0, x1, ab, aa => if aa < ab then (if 0 ≤ aa then (if aa < (x0.length : Int) then (if aa < (x1.length : Int) then (if ((rdOf false x0 aa) != (rdOf false x1 aa)) = true then (some false) else (laws_uBools.l0 k x0 x1 ab (wrap64 (aa + 1)))) else (none)) else (none)) else (none)) else (some true)
def laws_uBools.f (k : Nat) (l0 : List Bool) (l1 : List Bool) : Option (Bool) := if (l0.length : Int) = (l1.length : Int) then (laws_uBools.l0 k l0 l1 (l0.length : Int) 0) else (some false)
theorem laws_uBools.calls (k : Nat) (A0 : Option Addr) (c0 : Nat) (l0 : List Bool) (A1 : Option Addr) (c1 : Nat) (l1 : List Bool) (r : Bool) (w : World) (au : Kd.C Kd.bool w A0 l0.length l0) (av : l0.length ≤ c0) (aw : Kd.C Kd.bool w A1 l1.length l1) (ax : l1.length ≤ c1) (h : laws_uBools.f k l0 l1 = some r) :
  Calls Tryz.prog 61 #[.slice A0 l0.length c0, .slice A1 l1.length c1] w fun e w' => e = .returned (.bool r) ∧ Drawn0 w w' := by
 have HR0 := Ya au
 have aE := Ya av
 clear au av
 have ay := Ya aw
 have aF := Ya ax
 clear aw ax
 have H : (if (l0.length : Int) = (l1.length : Int) then (laws_uBools.l0 k l0 l1 (l0.length : Int) 0) else (some false)) = some r := h
 clear h
 by_cases c3 : (l0.length : Int) = (l1.length : Int)
 ·rw [if_pos c3] at H
  have aj : ((l0.length : Int) == (l1.length : Int)) = true := beq_iff_eq.mpr c3
  have ak : ((l0.length : Int) != (l1.length : Int)) = false := bne_eq_false_iff_eq.mpr c3
  have al : (l0.length == l1.length) = true := by first | simpa using c3 | (simp at c3 ⊢; omega)
  clear c3
  have H' := Ya H
  clear H
  go_enter Tryz.func61, Tryz.ntmps61
  go_wp2
  repeat (go_quiet (fail); try go_wp2)
  go_loopg [13] k (fun kq az w' => ∃ (aa : Int), az = .int .i64 aa ∧ Aside0 (laws_uBools.l0 kq l0 l1 (l0.length : Int) aa = some r) ∧ Aside0 (kq ≤ k) ∧ Drawn0 w w')
  case atStart => exact ⟨(0), Q17, H', ⟨Nat.le_refl _⟩, Q16⟩
  case round =>
   clear H'
   try clear c1
   try clear c3
   try clear aj
   try clear ak
   try clear al
   obtain ⟨aa, rfl, HA, HK1, ⟨m1, rfl⟩⟩ := hrel
   cases gk with
   | zero => exact absurd HA.1 (by simp [laws_uBools.l0])
   | succ k1 =>
    have H := HA.1
    clear HA
    simp only [laws_uBools.l0] at H
    by_cases c4 : aa < (l0.length : Int)
    ·rw [if_pos c4] at H
     have ao := Z35 c4
     clear c4
     by_cases c5 : 0 ≤ aa
     ·rw [if_pos c5] at H
      have aA := Z35 c5
      clear c5
      by_cases c6 : aa < (l0.length : Int)
      ·rw [if_pos c6] at H
       have aB := Z35 c6
       clear c6
       by_cases c7 : aa < (l1.length : Int)
       ·rw [if_pos c7] at H
        have aC := Z35 c7
        clear c7
        by_cases c8 : ((rdOf false l0 aa) != (rdOf false l1 aa)) = true
        ·rw [if_pos c8] at H
         have ap : ((rdOf false l0 aa) != (rdOf false l1 aa)) = true := c8
         (try (have aq : decide ((rdOf false l0 aa) = (rdOf false l1 aa)) = false := by simpa using c8))
         (try (have ar : ((rdOf false l0 aa) == (rdOf false l1 aa)) = false := by simpa using c8))
         (try (have aD : ¬ ((rdOf false l0 aa) = (rdOf false l1 aa)) := by simpa using c8))
         clear c8
         obtain rfl := Option.some.inj H
         have ab : 0 ≤ (aa : Int) := Z27 Q5
         have ac : aa < (l0.length : Int) := Z27 Q5
         obtain ⟨am, ah, af⟩ := Kd.at_bool HR0.1 aa ab ac
         cases ah
         replace ab := eq_true ab
         replace ac := eq_true ac
         have ad : 0 ≤ (aa : Int) := Z27 Q5
         have ae : aa < (l1.length : Int) := Z27 Q5
         obtain ⟨an, ai, ag⟩ := Kd.at_bool ay.1 aa ad ae
         cases ai
         replace ad := eq_true ad
         replace ae := eq_true ae
         go_wp2
         repeat (go_quiet (fail); try go_wp2)
         go_ret
         exact ⟨Q24, Q16⟩
        ·rw [if_neg c8] at H
         have ap : ((rdOf false l0 aa) != (rdOf false l1 aa)) = false := by simpa using c8
         (try (have aq : decide ((rdOf false l0 aa) = (rdOf false l1 aa)) = true := by simpa using c8))
         (try (have ar : ((rdOf false l0 aa) == (rdOf false l1 aa)) = true := by simpa using c8))
         clear c8
         have H' := Ya H
         clear H
         have ab : 0 ≤ (aa : Int) := Z27 Q5
         have ac : aa < (l0.length : Int) := Z27 Q5
         obtain ⟨am, ah, af⟩ := Kd.at_bool HR0.1 aa ab ac
         cases ah
         replace ab := eq_true ab
         replace ac := eq_true ac
         have ad : 0 ≤ (aa : Int) := Z27 Q5
         have ae : aa < (l1.length : Int) := Z27 Q5
         obtain ⟨an, ai, ag⟩ := Kd.at_bool ay.1 aa ad ae
         cases ai
         replace ad := eq_true ad
         replace ae := eq_true ae
         go_wp2
         repeat (go_quiet (fail); try go_wp2)
         go_roundg k1
         case measure => have := HK1.1; omega
         case rel => exact ⟨(wrap64 (aa + 1)), Q17, H', ⟨Q35⟩, Q16⟩
       ·rw [if_neg c7] at H
        exact absurd H (by simp)
      ·rw [if_neg c6] at H
       exact absurd H (by simp)
     ·rw [if_neg c5] at H
      exact absurd H (by simp)
    ·rw [if_neg c4] at H
     have ao := Z34 c4
     clear c4
     obtain rfl := Option.some.inj H
     go_wp2
     repeat (go_quiet (fail); try go_wp2)
     go_ret
     exact ⟨Q24, Q16⟩
 ·rw [if_neg c3] at H
  have aj : ((l0.length : Int) == (l1.length : Int)) = false := beq_eq_false_iff_ne.mpr c3
  have ak : ((l0.length : Int) != (l1.length : Int)) = true := bne_iff_ne.mpr c3
  have al : (l0.length == l1.length) = false := by first | simpa using c3 | (simp at c3 ⊢; omega)
  obtain rfl := Option.some.inj H
  go_enter Tryz.func61, Tryz.ntmps61
  go_wp2
  repeat (go_quiet (fail); try go_wp2)
  go_ret
  exact ⟨Q24, Q16⟩
def laws_uFocus.f (k : Nat) (aa : List Int) (ab : List Int) (ac : List Bool) (ad : List Int) (ae : List Int) (af : List Int) (ag : List Bool) (ah : List Int) : Option (Bool) := (laws_uSame.f k aa ae).bind fun ai => (if ai = true then ((laws_uSame.f k ab af).bind fun aj => (if aj = true then ((laws_uBools.f k ac ag).bind fun ak => (if ak = true then ((laws_uSame.f k ad ah).bind fun al => (some al)) else (some false))) else (some false))) else (some false))
theorem laws_uFocus.calls (k : Nat) (ao : Option Addr) (ap : Nat) (ad : List Int) (ay : Option Addr) (az : Nat) (ah : List Int) (aA : Option Addr) (aB : Nat) (aj : List Bool) (aC : Option Addr) (aD : Nat) (al : List Int) (aq : Option Addr) (ar : Nat) (ae : List Int) (aE : Option Addr) (aF : Nat) (ai : List Int) (aG : Option Addr) (aH : Nat) (ak : List Bool) (aI : Option Addr) (aJ : Nat) (am : List Int) (r : Bool) (w : World) (aS : Kd.C (Kd.int .i64) w ao ad.length ad) (aT : ad.length ≤ ap) (aU : Kd.C (Kd.int .i64) w ay ah.length ah) (aV : ah.length ≤ az) (aW : Kd.C Kd.bool w aA aj.length aj) (aX : aj.length ≤ aB) (aY : Kd.C (Kd.int .i64) w aC al.length al) (aZ : al.length ≤ aD) (a0 : Kd.C (Kd.int .i64) w aq ae.length ae) (a1 : ae.length ≤ ar) (a2 : Kd.C (Kd.int .i64) w aE ai.length ai) (a3 : ai.length ≤ aF) (a4 : Kd.C Kd.bool w aG ak.length ak) (a5 : ak.length ≤ aH) (a6 : Kd.C (Kd.int .i64) w aI am.length am) (a7 : am.length ≤ aJ) (h : laws_uFocus.f k ad ah aj al ae ai ak am = some r) :
  Calls Tryz.prog 31 #[.agg #[.slice ao ad.length ap, .slice ay ah.length az, .slice aA aj.length aB, .slice aC al.length aD], .agg #[.slice aq ae.length ar, .slice aE ai.length aF, .slice aG ak.length aH, .slice aI am.length aJ]] w fun e w' => e = .returned (.bool r) ∧ Below w.heap.size w w' := by
 have hu27 := Tryz.underlying27
 have au := Ya aS
 have av := Ya aT
 clear aS aT
 have aK := Ya aU
 have aL := Ya aV
 clear aU aV
 have a8 := Ya aW
 have a9 := Ya aX
 clear aW aX
 have bd := Ya aY
 have be := Ya aZ
 clear aY aZ
 have aw := Ya a0
 have ax := Ya a1
 clear a0 a1
 have aM := Ya a2
 have aN := Ya a3
 clear a2 a3
 have ba := Ya a4
 have bb := Ya a5
 clear a4 a5
 have bf := Ya a6
 have bg := Ya a7
 clear a6 a7
 have HB := Ya (Below.refl w.heap.size w)
 have H : ((laws_uSame.f k ad ae).bind fun bh => (if bh = true then ((laws_uSame.f k ah ai).bind fun bi => (if bi = true then ((laws_uBools.f k aj ak).bind fun bj => (if bj = true then ((laws_uSame.f k al am).bind fun bc => (some bc)) else (some false))) else (some false))) else (some false))) = some r := h
 clear h
 replace H := YB H
 obtain ⟨bh, A3, H⟩ := H
 replace H := YC H
 obtain ⟨rfl, H⟩ | ⟨rfl, H⟩ := H
 ·replace H := YB H
  obtain ⟨bi, A5, H⟩ := H
  replace H := YC H
  obtain ⟨rfl, H⟩ | ⟨rfl, H⟩ := H
  ·replace H := YB H
   obtain ⟨bj, A7, H⟩ := H
   replace H := YC H
   obtain ⟨rfl, H⟩ | ⟨rfl, H⟩ := H
   ·replace H := YB H
    obtain ⟨bc, A9, H⟩ := H
    obtain rfl := Option.some.inj H
    go_enter Tryz.func31, Tryz.ntmps31
    go_wp2_with (first | ((with_reducible refine gate_dst (N := 2) rfl ?_); refine Yx 2 #[.slice ao ad.length ap, .slice ay ah.length az, .slice aA aj.length aB, .slice aC al.length aD] 27 ?_; intro aO hg b6 hbox hb; have aa := Ya hbox; have aP := Yg hg; replace HB := Yh hb; clear hb hbox hg) | ((with_reducible refine gate_dst (N := 3) rfl ?_); refine Yx 3 #[.slice aq ae.length ar, .slice aE ai.length aF, .slice aG ak.length aH, .slice aI am.length aJ] 27 ?_; intro aQ hg b7 hbox hb; have an := Ya hbox; have aR := Yg hg; replace HB := Yh hb; have ab := Yn aa hg; have ac := Ym aa hg; replace aa := Yb aa hb; clear hb hbox hg; have bU := ab.1; have bV := ac.1; have b2 := Y4 aa.1; obtain ⟨bk, bl, bm, bn, bo, bp, bq, br⟩ := Y4 an.1) | ((with_reducible refine gate_callee (f := 14) rfl ?_); refine Yz 9 Tryz.func14 #[.slice ao ad.length ap, .slice aq ae.length ar] ?_; (with_reducible refine (laws_uSame.calls k _ _ ad _ _ ae true _ (Yc (Z19 au.1 HB.1)) av.1 (Yc (Z19 aw.1 HB.1)) ax.1 A3.1).mono ?_); rintro e w' ⟨rfl, ⟨nd, rfl⟩⟩; refine ⟨_, rfl, ?_⟩) | (go_at_call 14; (with_reducible refine (laws_uSame.calls k _ _ ah _ _ ai true _ ?af aL.1 ?ag aN.1 A5.1).mono ?_); (case af => exact Yc (Z19 aK.1 Q0)); (case ag => exact Yc (Z19 aM.1 Q0)); rintro e w' ⟨rfl, ⟨nd, rfl⟩⟩) | (go_at_call 61; (with_reducible refine (laws_uBools.calls k _ _ aj _ _ ak true _ ?af a9.1 ?ag bb.1 A7.1).mono ?_); (case af => exact Yc (Z19 a8.1 Q0)); (case ag => exact Yc (Z19 ba.1 Q0)); rintro e w' ⟨rfl, ⟨nd, rfl⟩⟩) | (go_at_call 14; (with_reducible refine (laws_uSame.calls k _ _ al _ _ am bc _ ?af be.1 ?ag bg.1 A9.1).mono ?_); (case af => exact Yc (Z19 bd.1 Q0)); (case ag => exact Yc (Z19 bf.1 Q0)); rintro e w' ⟨rfl, ⟨nd, rfl⟩⟩))
    go_ret
    exact ⟨Q2, Q12⟩
   ·obtain rfl := Option.some.inj H
    go_enter Tryz.func31, Tryz.ntmps31
    go_wp2_with (first | ((with_reducible refine gate_dst (N := 2) rfl ?_); refine Yx 2 #[.slice ao ad.length ap, .slice ay ah.length az, .slice aA aj.length aB, .slice aC al.length aD] 27 ?_; intro aO hg b8 hbox hb; have aa := Ya hbox; have aP := Yg hg; replace HB := Yh hb; clear hb hbox hg) | ((with_reducible refine gate_dst (N := 3) rfl ?_); refine Yx 3 #[.slice aq ae.length ar, .slice aE ai.length aF, .slice aG ak.length aH, .slice aI am.length aJ] 27 ?_; intro aQ hg b9 hbox hb; have an := Ya hbox; have aR := Yg hg; replace HB := Yh hb; have ab := Yn aa hg; have ac := Ym aa hg; replace aa := Yb aa hb; clear hb hbox hg; have bW := ab.1; have bX := ac.1; have b3 := Y4 aa.1; obtain ⟨bu, bv, bw, bx, bz, bA, bB, bC⟩ := Y4 an.1) | ((with_reducible refine gate_callee (f := 14) rfl ?_); refine Yz 9 Tryz.func14 #[.slice ao ad.length ap, .slice aq ae.length ar] ?_; (with_reducible refine (laws_uSame.calls k _ _ ad _ _ ae true _ (Yc (Z19 au.1 HB.1)) av.1 (Yc (Z19 aw.1 HB.1)) ax.1 A3.1).mono ?_); rintro e w' ⟨rfl, ⟨nd, rfl⟩⟩; refine ⟨_, rfl, ?_⟩) | (go_at_call 14; (with_reducible refine (laws_uSame.calls k _ _ ah _ _ ai true _ ?af aL.1 ?ag aN.1 A5.1).mono ?_); (case af => exact Yc (Z19 aK.1 Q0)); (case ag => exact Yc (Z19 aM.1 Q0)); rintro e w' ⟨rfl, ⟨nd, rfl⟩⟩) | (go_at_call 61; (with_reducible refine (laws_uBools.calls k _ _ aj _ _ ak false _ ?af a9.1 ?ag bb.1 A7.1).mono ?_); (case af => exact Yc (Z19 a8.1 Q0)); (case ag => exact Yc (Z19 ba.1 Q0)); rintro e w' ⟨rfl, ⟨nd, rfl⟩⟩))
    go_ret
    exact ⟨Q2, Q12⟩
  ·obtain rfl := Option.some.inj H
   go_enter Tryz.func31, Tryz.ntmps31
   go_wp2_with (first | ((with_reducible refine gate_dst (N := 2) rfl ?_); refine Yx 2 #[.slice ao ad.length ap, .slice ay ah.length az, .slice aA aj.length aB, .slice aC al.length aD] 27 ?_; intro aO hg ca hbox hb; have aa := Ya hbox; have aP := Yg hg; replace HB := Yh hb; clear hb hbox hg) | ((with_reducible refine gate_dst (N := 3) rfl ?_); refine Yx 3 #[.slice aq ae.length ar, .slice aE ai.length aF, .slice aG ak.length aH, .slice aI am.length aJ] 27 ?_; intro aQ hg cb hbox hb; have an := Ya hbox; have aR := Yg hg; replace HB := Yh hb; have ab := Yn aa hg; have ac := Ym aa hg; replace aa := Yb aa hb; clear hb hbox hg; have bY := ab.1; have bZ := ac.1; obtain ⟨bD, bE, bF, bG, bH, bI, bJ, bK⟩ := Y4 aa.1; have b4 := Y4 an.1) | ((with_reducible refine gate_callee (f := 14) rfl ?_); refine Yz 9 Tryz.func14 #[.slice ao ad.length ap, .slice aq ae.length ar] ?_; (with_reducible refine (laws_uSame.calls k _ _ ad _ _ ae true _ (Yc (Z19 au.1 HB.1)) av.1 (Yc (Z19 aw.1 HB.1)) ax.1 A3.1).mono ?_); rintro e w' ⟨rfl, ⟨nd, rfl⟩⟩; refine ⟨_, rfl, ?_⟩) | (go_at_call 14; (with_reducible refine (laws_uSame.calls k _ _ ah _ _ ai false _ ?af aL.1 ?ag aN.1 A5.1).mono ?_); (case af => exact Yc (Z19 aK.1 Q0)); (case ag => exact Yc (Z19 aM.1 Q0)); rintro e w' ⟨rfl, ⟨nd, rfl⟩⟩))
   go_ret
   exact ⟨Q2, Q12⟩
 ·obtain rfl := Option.some.inj H
  go_enter Tryz.func31, Tryz.ntmps31
  go_wp2_with (first | ((with_reducible refine gate_dst (N := 2) rfl ?_); refine Yx 2 #[.slice ao ad.length ap, .slice ay ah.length az, .slice aA aj.length aB, .slice aC al.length aD] 27 ?_; intro aO hg cc hbox hb; have aa := Ya hbox; have aP := Yg hg; replace HB := Yh hb; clear hb hbox hg) | ((with_reducible refine gate_dst (N := 3) rfl ?_); refine Yx 3 #[.slice aq ae.length ar, .slice aE ai.length aF, .slice aG ak.length aH, .slice aI am.length aJ] 27 ?_; intro aQ hg cd hbox hb; have an := Ya hbox; have aR := Yg hg; replace HB := Yh hb; have ab := Yn aa hg; have ac := Ym aa hg; replace aa := Yb aa hb; clear hb hbox hg; have b0 := ab.1; have b1 := ac.1; obtain ⟨bL, bN, bO, bP, bQ, bR, bS, bT⟩ := Y4 aa.1; have b5 := Y4 an.1) | ((with_reducible refine gate_callee (f := 14) rfl ?_); refine Yz 9 Tryz.func14 #[.slice ao ad.length ap, .slice aq ae.length ar] ?_; (with_reducible refine (laws_uSame.calls k _ _ ad _ _ ae false _ (Yc (Z19 au.1 HB.1)) av.1 (Yc (Z19 aw.1 HB.1)) ax.1 A3.1).mono ?_); rintro e w' ⟨rfl, ⟨nd, rfl⟩⟩; refine ⟨_, rfl, ?_⟩))
  go_ret
  exact ⟨Q2, Q12⟩
def laws_uSwapper.f (k : Nat) (aa : List Int) (ab : List Int) (ac : List Bool) (ad : List Int) (ae : List Int) (af : List Int) (ag : List Int) (ah : List Int) (ai : List Bool) (aj : List Int) (ak : List Int) (al : List Int) : Option (Bool) := (laws_uFocus.f k aa ab ac ad ag ah ai aj).bind fun am => (if am = true then ((laws_uSame.f k ae ak).bind fun an => (if an = true then ((laws_uSame.f k af al).bind fun ao => (some ao)) else (some false))) else (some false))
theorem laws_uSwapper.calls (k : Nat) (aq : Option Addr) (ar : Nat) (ae : List Int) (au : Option Addr) (av : Nat) (af : List Int) (aw : Option Addr) (ax : Nat) (ag : List Bool) (ay : Option Addr) (az : Nat) (ah : List Int) (aI : Option Addr) (aJ : Nat) (am : List Int) (aK : Option Addr) (aL : Nat) (ao : List Int) (aA : Option Addr) (aB : Nat) (ai : List Int) (aC : Option Addr) (aD : Nat) (aj : List Int) (aE : Option Addr) (aF : Nat) (ak : List Bool) (aG : Option Addr) (aH : Nat) (al : List Int) (aM : Option Addr) (aN : Nat) (an : List Int) (aO : Option Addr) (aP : Nat) (ap : List Int) (r : Bool) (w : World) (a6 : Kd.C (Kd.int .i64) w aq ae.length ae) (a7 : ae.length ≤ ar) (a8 : Kd.C (Kd.int .i64) w au af.length af) (a9 : af.length ≤ av) (ba : Kd.C Kd.bool w aw ag.length ag) (bb : ag.length ≤ ax) (bc : Kd.C (Kd.int .i64) w ay ah.length ah) (bd : ah.length ≤ az) (be : Kd.C (Kd.int .i64) w aI am.length am) (bf : am.length ≤ aJ) (bg : Kd.C (Kd.int .i64) w aK ao.length ao) (bh : ao.length ≤ aL) (bi : Kd.C (Kd.int .i64) w aA ai.length ai) (bj : ai.length ≤ aB) (bk : Kd.C (Kd.int .i64) w aC aj.length aj) (bl : aj.length ≤ aD) (bm : Kd.C Kd.bool w aE ak.length ak) (bn : ak.length ≤ aF) (bo : Kd.C (Kd.int .i64) w aG al.length al) (bp : al.length ≤ aH) (bq : Kd.C (Kd.int .i64) w aM an.length an) (br : an.length ≤ aN) (bu : Kd.C (Kd.int .i64) w aO ap.length ap) (bv : ap.length ≤ aP) (h : laws_uSwapper.f k ae af ag ah am ao ai aj ak al an ap = some r) :
  Calls Tryz.prog 10 #[.agg #[.slice aq ae.length ar, .slice au af.length av, .slice aw ag.length ax, .slice ay ah.length az, .slice aI am.length aJ, .slice aK ao.length aL], .agg #[.slice aA ai.length aB, .slice aC aj.length aD, .slice aE ak.length aF, .slice aG al.length aH, .slice aM an.length aN, .slice aO ap.length aP]] w fun e w' => e = .returned (.bool r) ∧ Below w.heap.size w w' := by
 have hu29 := Tryz.underlying29
 have hu27 := Tryz.underlying27
 have aQ := Ya a6
 have aR := Ya a7
 clear a6 a7
 have aS := Ya a8
 have aT := Ya a9
 clear a8 a9
 have aU := Ya ba
 have aV := Ya bb
 clear ba bb
 have aW := Ya bc
 have aX := Ya bd
 clear bc bd
 have bw := Ya be
 have bx := Ya bf
 clear be bf
 have bG := Ya bg
 have bH := Ya bh
 clear bg bh
 have aY := Ya bi
 have aZ := Ya bj
 clear bi bj
 have a0 := Ya bk
 have a1 := Ya bl
 clear bk bl
 have a2 := Ya bm
 have a3 := Ya bn
 clear bm bn
 have a4 := Ya bo
 have a5 := Ya bp
 clear bo bp
 have bz := Ya bq
 have bA := Ya br
 clear bq br
 have bI := Ya bu
 have bJ := Ya bv
 clear bu bv
 have HB := Ya (Below.refl w.heap.size w)
 have H : ((laws_uFocus.f k ae af ag ah ai aj ak al).bind fun bK => (if bK = true then ((laws_uSame.f k am an).bind fun bL => (if bL = true then ((laws_uSame.f k ao ap).bind fun bF => (some bF)) else (some false))) else (some false))) = some r := h
 clear h
 replace H := YB H
 obtain ⟨bK, A3, H⟩ := H
 replace H := YC H
 obtain ⟨rfl, H⟩ | ⟨rfl, H⟩ := H
 ·replace H := YB H
  obtain ⟨bL, A5, H⟩ := H
  replace H := YC H
  obtain ⟨rfl, H⟩ | ⟨rfl, H⟩ := H
  ·replace H := YB H
   obtain ⟨bF, A7, H⟩ := H
   obtain rfl := Option.some.inj H
   go_enter Tryz.func10, Tryz.ntmps10
   go_wp2_with (first | ((with_reducible refine gate_dst (N := 2) rfl ?_); refine Yx 2 #[.slice aq ae.length ar, .slice au af.length av, .slice aw ag.length ax, .slice ay ah.length az, .slice aI am.length aJ, .slice aK ao.length aL] 29 ?_; intro bB hg w8 hbox hb; have aa := Ya hbox; have bC := Yg hg; replace HB := Yh hb; clear hb hbox hg) | ((with_reducible refine gate_dst (N := 3) rfl ?_); refine Yx 3 #[.slice aA ai.length aB, .slice aC aj.length aD, .slice aE ak.length aF, .slice aG al.length aH, .slice aM an.length aN, .slice aO ap.length aP] 29 ?_; intro bD hg w9 hbox hb; have ab := Ya hbox; have bE := Yg hg; replace HB := Yh hb; have ac := Yn aa hg; have ad := Ym aa hg; replace aa := Yb aa hb; clear hb hbox hg; have cF := ac.1; have cG := ad.1; have cL := Y6 aa.1; have cM := Y6 ab.1) | ((with_reducible refine gate_callee (f := 31) rfl ?_); refine Yz 9 Tryz.func31 #[.agg #[.slice aq ae.length ar, .slice au af.length av, .slice aw ag.length ax, .slice ay ah.length az], .agg #[.slice aA ai.length aB, .slice aC aj.length aD, .slice aE ak.length aF, .slice aG al.length aH]] ?_; (with_reducible refine (laws_uFocus.calls k _ _ ae _ _ af _ _ ag _ _ ah _ _ ai _ _ aj _ _ ak _ _ al true _ (Yc (Z19 aQ.1 HB.1)) aR.1 (Yc (Z19 aS.1 HB.1)) aT.1 (Yc (Z19 aU.1 HB.1)) aV.1 (Yc (Z19 aW.1 HB.1)) aX.1 (Yc (Z19 aY.1 HB.1)) aZ.1 (Yc (Z19 a0.1 HB.1)) a1.1 (Yc (Z19 a2.1 HB.1)) a3.1 (Yc (Z19 a4.1 HB.1)) a5.1 A3.1).mono ?_); rintro e cR ⟨rfl, hb⟩; refine ⟨_, rfl, ?_⟩; replace aa := Yb aa hb; replace ab := Yb ab hb; replace HB := Yh hb; (try clear hb); obtain ⟨bP, bQ, bR, bS, bT, bU, bV, bW, bX, bY, bZ, b0⟩ := Y6 aa.1; have cN := Y6 ab.1) | (go_at_call 14; (with_reducible refine (laws_uSame.calls k _ _ am _ _ an true _ (Yc (Z19 bw.1 HB.1)) bx.1 (Yc (Z19 bz.1 HB.1)) bA.1 A5.1).mono ?_); rintro e w' ⟨rfl, ⟨nd, rfl⟩⟩) | (go_at_call 14; (with_reducible refine (laws_uSame.calls k _ _ ao _ _ ap bF _ ?bN bH.1 ?bO bJ.1 A7.1).mono ?_); (case bN => exact Yc (Z19 bG.1 Q0)); (case bO => exact Yc (Z19 bI.1 Q0)); rintro e w' ⟨rfl, ⟨nd, rfl⟩⟩))
   go_ret
   exact ⟨Q2, Q12⟩
  ·obtain rfl := Option.some.inj H
   go_enter Tryz.func10, Tryz.ntmps10
   go_wp2_with (first | ((with_reducible refine gate_dst (N := 2) rfl ?_); refine Yx 2 #[.slice aq ae.length ar, .slice au af.length av, .slice aw ag.length ax, .slice ay ah.length az, .slice aI am.length aJ, .slice aK ao.length aL] 29 ?_; intro bB hg cS hbox hb; have aa := Ya hbox; have bC := Yg hg; replace HB := Yh hb; clear hb hbox hg) | ((with_reducible refine gate_dst (N := 3) rfl ?_); refine Yx 3 #[.slice aA ai.length aB, .slice aC aj.length aD, .slice aE ak.length aF, .slice aG al.length aH, .slice aM an.length aN, .slice aO ap.length aP] 29 ?_; intro bD hg cT hbox hb; have ab := Ya hbox; have bE := Yg hg; replace HB := Yh hb; have ac := Yn aa hg; have ad := Ym aa hg; replace aa := Yb aa hb; clear hb hbox hg; have cH := ac.1; have cI := ad.1; obtain ⟨b1, b2, b3, b4, b5, b6, b7, b8, b9, ca, cb, cc⟩ := Y6 aa.1; have cO := Y6 ab.1) | ((with_reducible refine gate_callee (f := 31) rfl ?_); refine Yz 9 Tryz.func31 #[.agg #[.slice aq ae.length ar, .slice au af.length av, .slice aw ag.length ax, .slice ay ah.length az], .agg #[.slice aA ai.length aB, .slice aC aj.length aD, .slice aE ak.length aF, .slice aG al.length aH]] ?_; (with_reducible refine (laws_uFocus.calls k _ _ ae _ _ af _ _ ag _ _ ah _ _ ai _ _ aj _ _ ak _ _ al true _ (Yc (Z19 aQ.1 HB.1)) aR.1 (Yc (Z19 aS.1 HB.1)) aT.1 (Yc (Z19 aU.1 HB.1)) aV.1 (Yc (Z19 aW.1 HB.1)) aX.1 (Yc (Z19 aY.1 HB.1)) aZ.1 (Yc (Z19 a0.1 HB.1)) a1.1 (Yc (Z19 a2.1 HB.1)) a3.1 (Yc (Z19 a4.1 HB.1)) a5.1 A3.1).mono ?_); rintro e cU ⟨rfl, hb⟩; refine ⟨_, rfl, ?_⟩; replace aa := Yb aa hb; replace ab := Yb ab hb; replace HB := Yh hb; (try clear hb); have cP := Y6 aa.1; obtain ⟨cd, ce, cf, cg, ch, cj, ck, cl, cm, cp, cq, cr⟩ := Y6 ab.1) | (go_at_call 14; (with_reducible refine (laws_uSame.calls k _ _ am _ _ an false _ (Yc (Z19 bw.1 HB.1)) bx.1 (Yc (Z19 bz.1 HB.1)) bA.1 A5.1).mono ?_); rintro e w' ⟨rfl, ⟨nd, rfl⟩⟩))
   go_ret
   exact ⟨Q2, Q12⟩
 ·obtain rfl := Option.some.inj H
  go_enter Tryz.func10, Tryz.ntmps10
  go_wp2_with (first | ((with_reducible refine gate_dst (N := 2) rfl ?_); refine Yx 2 #[.slice aq ae.length ar, .slice au af.length av, .slice aw ag.length ax, .slice ay ah.length az, .slice aI am.length aJ, .slice aK ao.length aL] 29 ?_; intro bB hg cV hbox hb; have aa := Ya hbox; have bC := Yg hg; replace HB := Yh hb; clear hb hbox hg) | ((with_reducible refine gate_dst (N := 3) rfl ?_); refine Yx 3 #[.slice aA ai.length aB, .slice aC aj.length aD, .slice aE ak.length aF, .slice aG al.length aH, .slice aM an.length aN, .slice aO ap.length aP] 29 ?_; intro bD hg cW hbox hb; have ab := Ya hbox; have bE := Yg hg; replace HB := Yh hb; have ac := Yn aa hg; have ad := Ym aa hg; replace aa := Yb aa hb; clear hb hbox hg; have cJ := ac.1; have cK := ad.1; have cQ := Y6 aa.1; obtain ⟨ct, cu, cv, cw, cx, cy, cz, cA, cB, cC, cD, cE⟩ := Y6 ab.1) | ((with_reducible refine gate_callee (f := 31) rfl ?_); refine Yz 9 Tryz.func31 #[.agg #[.slice aq ae.length ar, .slice au af.length av, .slice aw ag.length ax, .slice ay ah.length az], .agg #[.slice aA ai.length aB, .slice aC aj.length aD, .slice aE ak.length aF, .slice aG al.length aH]] ?_; (with_reducible refine (laws_uFocus.calls k _ _ ae _ _ af _ _ ag _ _ ah _ _ ai _ _ aj _ _ ak _ _ al false _ (Yc (Z19 aQ.1 HB.1)) aR.1 (Yc (Z19 aS.1 HB.1)) aT.1 (Yc (Z19 aU.1 HB.1)) aV.1 (Yc (Z19 aW.1 HB.1)) aX.1 (Yc (Z19 aY.1 HB.1)) aZ.1 (Yc (Z19 a0.1 HB.1)) a1.1 (Yc (Z19 a2.1 HB.1)) a3.1 (Yc (Z19 a4.1 HB.1)) a5.1 A3.1).mono ?_); rintro e cX ⟨rfl, hb⟩; refine ⟨_, rfl, ?_⟩; replace aa := Yb aa hb; replace ab := Yb ab hb; replace HB := Yh hb; (try clear hb)))
  go_ret
  exact ⟨Q2, Q12⟩
def impl_IsPermutation.f (k : Nat) (l0 : List Int) : Option Bool := if l0.length ≤ 12 then ((impl_identity.f k (l0.length : Int)).bind fun d => slices_Equal_int_int.f k (l0.mergeSort (fun x y => decide (x ≤ y))) d) else some false
open Go.Maps Go.Sort Go.Shelf in
def Tryz.sortedA_ren : Go.Shelf.Ren := ⟨fun | 6 => 68 | 8 => 88 | 9 => 89 | 11 => 98 | 13 => 100 | 12 => 99 | 23 => 113 | 24 => 114 | 14 => 104 | 15 => 105 | 16 => 106 | 17 => 107 | 18 => 108 | 19 => 109 | 20 => 110 | 21 => 111 | 22 => 112 | 25 => 116 | 26 => 117 | 27 => 118 | 28 => 119 | 29 => 120 | 30 => 121 | 31 => 122 | n => n, fun | 26 => 3 | 28 => 84 | 24 => 24 | 0 => 0 | 3 => 3 | 37 => 102 | 48 => 111 | 50 => 64 | 4 => 4 | 40 => 105 | 39 => 104 | 45 => 33 | 5 => 5 | 9 => 9 | 51 => 113 | 55 => 117 | 57 => 119 | 58 => 41 | 33 => 57 | n => n, fun | n => n⟩
open Go.Maps Go.Sort Go.Shelf in
theorem Tryz.sortedA : Go.Proofs.SlLaysZI.n6 Tryz.prog Tryz.sortedA_ren := {
  mixed := by kernel_rfl
  f6 := ⟨Tryz.f68.name, by decide, Tryz.func68.trans (congrArg some (by kernel_rfl))⟩
  f8 := ⟨Tryz.f88.name, by decide, Tryz.func88.trans (congrArg some (by kernel_rfl))⟩
  f11 := ⟨Tryz.f98.name, by decide, Tryz.func98.trans (congrArg some (by kernel_rfl))⟩
  t0 := Tryz.underlying0
  a0 := Tryz.isAgg0
  z0 := Tryz.sizeOf0
  v0 := Tryz.zeroValue0
  t24 := Tryz.underlying24
  a24 := Tryz.isAgg24
  z24 := Tryz.sizeOf24
  v24 := Tryz.zeroValue24
  t26 := Tryz.underlying3
  a26 := Tryz.isAgg3
  z26 := Tryz.sizeOf3
  v26 := Tryz.zeroValue3
  t28 := Tryz.underlying84
  a28 := Tryz.isAgg84
  z28 := Tryz.sizeOf84
  v28 := Tryz.zeroValue84
  i26 := by kernel_rfl }
open Go.Maps Go.Sort Go.Shelf in
def Tryz.sortA_ren : Go.Shelf.Ren := ⟨fun | 5 => 89 | 8 => 100 | 7 => 99 | 19 => 113 | 20 => 114 | 10 => 104 | 11 => 105 | 12 => 106 | 13 => 107 | 14 => 108 | 15 => 109 | 16 => 110 | 17 => 111 | 18 => 112 | 30 => 116 | 31 => 117 | 32 => 118 | 33 => 119 | 34 => 120 | 35 => 121 | 40 => 122 | n => n, fun | 23 => 24 | 25 => 3 | 3 => 3 | 32 => 102 | 22 => 24 | 0 => 0 | 44 => 111 | 46 => 64 | 4 => 4 | 36 => 105 | 35 => 104 | 41 => 33 | 5 => 5 | 9 => 9 | 53 => 113 | 57 => 117 | 63 => 119 | 64 => 41 | n => n, fun | n => n⟩
open Go.Maps Go.Sort Go.Shelf in
theorem Tryz.sortA : Go.Proofs.SlLaysM.n5 Tryz.prog Tryz.sortA_ren := {
  mixed := by kernel_rfl
  f5 := ⟨Tryz.f89.name, by decide, Tryz.func89.trans (congrArg some (by kernel_rfl))⟩
  f7 := ⟨Tryz.f99.name, by decide, Tryz.func99.trans (congrArg some (by kernel_rfl))⟩
  f8 := Tryz.func100.trans (congrArg some (by kernel_rfl))
  f10 := ⟨Tryz.f104.name, by decide, Tryz.func104.trans (congrArg some (by kernel_rfl))⟩
  f11 := ⟨Tryz.f105.name, by decide, Tryz.func105.trans (congrArg some (by kernel_rfl))⟩
  f12 := ⟨Tryz.f106.name, by decide, Tryz.func106.trans (congrArg some (by kernel_rfl))⟩
  f13 := ⟨Tryz.f107.name, by decide, Tryz.func107.trans (congrArg some (by kernel_rfl))⟩
  f14 := ⟨Tryz.f108.name, by decide, Tryz.func108.trans (congrArg some (by kernel_rfl))⟩
  f15 := ⟨Tryz.f109.name, by decide, Tryz.func109.trans (congrArg some (by kernel_rfl))⟩
  f16 := ⟨Tryz.f110.name, by decide, Tryz.func110.trans (congrArg some (by kernel_rfl))⟩
  f17 := ⟨Tryz.f111.name, by decide, Tryz.func111.trans (congrArg some (by kernel_rfl))⟩
  f18 := ⟨Tryz.f112.name, by decide, Tryz.func112.trans (congrArg some (by kernel_rfl))⟩
  f19 := Tryz.func113.trans (congrArg some (by kernel_rfl))
  f20 := Tryz.func114.trans (congrArg some (by kernel_rfl))
  f30 := ⟨Tryz.f116.name, by decide, Tryz.func116.trans (congrArg some (by kernel_rfl))⟩
  f31 := Tryz.func117.trans (congrArg some (by kernel_rfl))
  f32 := Tryz.func118.trans (congrArg some (by kernel_rfl))
  f33 := ⟨Tryz.f119.name, by decide, Tryz.func119.trans (congrArg some (by kernel_rfl))⟩
  f34 := ⟨Tryz.f120.name, by decide, Tryz.func120.trans (congrArg some (by kernel_rfl))⟩
  f35 := ⟨Tryz.f121.name, by decide, Tryz.func121.trans (congrArg some (by kernel_rfl))⟩
  f40 := ⟨Tryz.f122.name, by decide, Tryz.func122.trans (congrArg some (by kernel_rfl))⟩
  t0 := Tryz.underlying0
  a0 := Tryz.isAgg0
  z0 := Tryz.sizeOf0
  v0 := Tryz.zeroValue0
  t3 := Tryz.underlying3
  a3 := Tryz.isAgg3
  z3 := Tryz.sizeOf3
  v3 := Tryz.zeroValue3
  t4 := Tryz.underlying4
  a4 := Tryz.isAgg4
  z4 := Tryz.sizeOf4
  v4 := Tryz.zeroValue4
  t5 := Tryz.underlying5
  a5 := Tryz.isAgg5
  z5 := Tryz.sizeOf5
  v5 := Tryz.zeroValue5
  t9 := Tryz.underlying9
  a9 := Tryz.isAgg9
  z9 := Tryz.sizeOf9
  v9 := Tryz.zeroValue9
  t22 := Tryz.underlying24
  a22 := Tryz.isAgg24
  z22 := Tryz.sizeOf24
  v22 := Tryz.zeroValue24
  t23 := Tryz.underlying24
  a23 := Tryz.isAgg24
  z23 := Tryz.sizeOf24
  v23 := Tryz.zeroValue24
  t25 := Tryz.underlying3
  a25 := Tryz.isAgg3
  z25 := Tryz.sizeOf3
  v25 := Tryz.zeroValue3
  t32 := Tryz.underlying102
  a32 := Tryz.isAgg102
  z32 := Tryz.sizeOf102
  v32 := Tryz.zeroValue102
  t35 := Tryz.underlying104
  a35 := Tryz.isAgg104
  z35 := Tryz.sizeOf104
  v35 := Tryz.zeroValue104
  t36 := Tryz.underlying105
  a36 := Tryz.isAgg105
  z36 := Tryz.sizeOf105
  v36 := Tryz.zeroValue105
  t41 := Tryz.underlying33
  a41 := Tryz.isAgg33
  z41 := Tryz.sizeOf33
  v41 := Tryz.zeroValue33
  t44 := Tryz.underlying111
  a44 := Tryz.isAgg111
  z44 := Tryz.sizeOf111
  v44 := Tryz.zeroValue111
  t46 := Tryz.underlying64
  a46 := Tryz.isAgg64
  z46 := Tryz.sizeOf64
  v46 := Tryz.zeroValue64
  t53 := Tryz.underlying113
  a53 := Tryz.isAgg113
  z53 := Tryz.sizeOf113
  v53 := Tryz.zeroValue113
  t57 := Tryz.underlying117
  a57 := Tryz.isAgg117
  z57 := Tryz.sizeOf117
  v57 := Tryz.zeroValue117
  t63 := Tryz.underlying119
  a63 := Tryz.isAgg119
  z63 := Tryz.sizeOf119
  v63 := Tryz.zeroValue119
  t64 := Tryz.underlying41
  a64 := Tryz.isAgg41
  z64 := Tryz.sizeOf41
  v64 := Tryz.zeroValue41 }
open Go.Maps Go.Sort Go.Shelf in
theorem impl_IsPermutation.sorts (m : Nat) : AnyZI.SortsIn Tryz.prog Tryz.sortedA_ren Fence.wide m :=
 ⟨fun blk off cap ss W hH hblk hsz => callsIn_wide.2 (AnyM.slices_Sort_int Tryz.sortA blk off cap ss W hH hblk hsz),
  fun p cap W => callsIn_wide.2 (AnyM.slices_Sort_int_none Tryz.sortA p cap W)⟩
open Go.Maps Go.Sort Go.Shelf in
def impl_IsPermutation.GivesB (F : Fence) (n : Nat) (P : Program) (g : Nat) (lb : Array Value) (N : Nat) (S : List Int → Prop) (w : World) : Prop :=
 ∀ (lp : Nat) (J : List Int → World → Prop) (W : World), Below w.heap.size w W → AbidesFrom W.heap.size J → (∀ s W', J s W' → Below w.heap.size w W') →
  (∀ pre x W1, J pre W1 → pre.length < N → YieldAt F (n - 1) P lp #[encZ x] W1 fun e W' => e = .returned (.bool true) ∧ J (pre ++ [x]) W' ∧ KeepsWalks W1 W') → J [] W →
  CallsIn F n P g (#[.func (.yield lp) #[] #[]] ++ lb) W fun e W' => (∃ v, e = .returned v) ∧ ∃ xs, S xs ∧ J xs W'
theorem impl_IsPermutation.takeRd (l : List Int) (i : Nat) (ci : i < l.length) : l.take (i + 1) = l.take i ++ [rd l (i : Int)] := by
 rw [List.take_add_one, List.getElem?_eq_getElem ci]
 unfold rd
 rw [Int.toNat_natCast, List.getD_eq_getElem?_getD, List.getElem?_eq_getElem ci]; rfl
open Go.Maps Go.Sort Go.Shelf in
theorem impl_IsPermutation.values (n : Nat) (hn : 1 ≤ n) (Bm : Nat) (A : Option Addr) (c : Nat) (l : List Int) (hll : l.length < 1000000) (w : World) (hBm : w.heap[Bm]? = some (.cells #[.slice A l.length c] 24 (0, 0))) (hr : Kd.C (Kd.int .i64) w A l.length l) :
  impl_IsPermutation.GivesB Fence.wide n Tryz.prog 90 #[.pointer (some ⟨Bm, 0, none⟩)] l.length (fun xs => xs = l) w := by
 intro lp J W hW hJ hJB hY h0
 have hBlt : Bm < w.heap.size := (Array.getElem?_eq_some_iff.1 hBm).1
 have hc : W.cell? ⟨Bm, 0, none⟩ = some (.slice A l.length c) := by simp [World.cell?, (hW.block Bm hBlt).trans hBm]
 refine callsIn_of_wp Tryz.func90 rfl trivial ?_ rfl
 simp only [Tryz.ntmps90, List.size_toArray, List.length_cons, List.length_nil, Nat.reduceAdd, Nat.reduceSub, Array.replicate_succ, Array.replicate_zero, List.push_toArray, List.append_toArray, List.nil_append, List.cons_append]
 gi_wp2
 gi_loopw [7] (fun v7 wr => ∃ i : Nat, v7 = .int .i64 (i : Int) ∧ i ≤ l.length ∧ J (l.take i) wr) (fun v7 _ => match v7 with | .int _ i => l.length - i.toNat | _ => 0)
 case atStart => exact ⟨0, rfl, Nat.zero_le _, by simpa using h0⟩
 case round =>
  obtain ⟨i, rfl, hi, hJi⟩ := hrel
  by_cases ci : i < l.length
  ·have c1 : decide ((i : Int) < (l.length : Int)) = true := Z35 (by omega)
   have hB := hJB _ _ hJi
   obtain ⟨ad, ead, hx⟩ := Kd.at_int (Z19 hr hB) (i : Int) (by omega) (by omega)
   subst ead
   simp only [Int.toNat_natCast] at hx
   obtain ⟨fn, tmps, assign, body, hy, hR⟩ := hY (l.take i) (rd l (i : Int)) wr hJi (by rw [Z29]; omega)
   have p1 : (0 ≤ (i : Int)) = True := eq_true (by omega)
   have p2 : ((i : Int) < (l.length : Int)) = True := eq_true (by omega)
   have ht1 := impl_IsPermutation.takeRd l i ci
   gi_wp2
   refine hR.mono ?_
   rintro e W3 ⟨rfl, hJ3, hk3⟩
   gi_wp2
   have hw1 : wrap64 ((i : Int) + 1) = ((i + 1 : Nat) : Int) := by unfold wrap64; omega
   go_roundw
   case rel => exact ⟨i + 1, by first | rw [hw1] | rfl | (simp; done) | (congr 1; omega), by omega, by rw [ht1]; exact hJ3⟩
   case measure =>
    (try rw [hw1])
    first
     | (show l.length - (((i + 1 : Nat) : Int)).toNat < l.length - ((i : Int)).toNat; omega)
     | (show l.length - ((i : Int) + 1).toNat < l.length - ((i : Int)).toNat; omega)
  ·have c1 : decide ((i : Int) < (l.length : Int)) = false := Z34 (by omega)
   gi_wp2
   go_end0
   exact ⟨⟨_, rfl⟩, l, rfl, by rw [List.take_of_length_le (by omega)] at hJi; exact hJi⟩
section
open Go.Maps Go.Sort Go.Shelf
variable {P : Program} {ρ : Ren}
theorem impl_IsPermutation.appendSeq (L : SlLaysZI.n11 P ρ) (F : Fence) (n : Nat) (aa : F.fn (ρ.f 11)) (hro : F.round = none) (hn : 2 ≤ n) (g : Nat) (lb : Array Value) (hFg : F.fn g) (eg : ∀ args w, (callFunc g args).run P w = .ok (.enter g args) w)
  (S : List Int → Prop) (N : Nat) (hN : N ≤ maxLen) (hNb : N * 8 ≤ 140737488355328) (w : World) (hseq : impl_IsPermutation.GivesB F (n - 1) P g lb N S w) :
  CallsIn F n P (ρ.f 11) #[.slice none 0 0, .func (.func g) #[] lb] w fun e w' => ∃ (v : Value) (ss : List Int), e = .returned v ∧ S ss ∧ w'.ownsRow w.heap.size (ρ.t 26) 1 v ss.length (ss.map encZ) ∧ (v = .slice none 0 0 ↔ ss = []) ∧ Below w.heap.size w w' := by
 have h1 : 1 ≤ n := by omega
 have mixed := L.mixed; have ac := L.t24; have ad := L.a24; have ae := L.z24; have af := L.v24; have ag := L.t26; have ah := L.a26; have ai := L.z26; have aj := L.v26; have ak := L.t28; have al := L.a28; have am := L.z28; have an := L.v28; have t0 := L.t0; have a0 := L.a0; have z0 := L.z0; have v0 := L.v0
 have hne : ρ.t 24 ≠ ρ.t 26 := fun e => by have h := L.t24; rw [e, L.t26] at h; cases h
 have u0 := run_underlying L.t0; have ao := run_underlying L.t24; have ap := run_underlying L.t26; have aq := run_underlying L.t28
 obtain ⟨_, _, FG⟩ := L.f11
 refine callsIn_of_wp_marks FG rfl aa ?_ hro
 simp only [SlBodyZ.n11_ntmps ρ, List.size_toArray, List.length_cons, List.length_nil, Nat.reduceAdd, Nat.reduceSub, Array.replicate_succ, Array.replicate_zero, List.push_toArray, List.append_toArray, List.nil_append, List.cons_append]
 gi_wp2
 refine wpIn_rangeFunc ?_
 intro fn hfn
 rw [hro]
 
 generalize hW0 : w.alloc (.cells #[.slice none 0 0] (ρ.t 24)) = W0
 have ab : W0.heap.size = w.heap.size + 1 := by rw [← hW0]; simp
 have hv0 : W0.heap[w.heap.size]? = some (.cells #[.slice none 0 0] (ρ.t 24) (0, 0)) := by rw [← hW0]; exact World.alloc_heap_new w _
 have hb0 : Below w.heap.size w W0 := by rw [← hW0]; exact (Below.refl _ w).alloc (Nat.le_refl _) _
 generalize hW1 : (W0.alloc (.deferred (some []))).alloc (.loop (AnyZI.apRec ρ fn (.func (.func g) #[] lb) w.heap.size W0.heap.size .ready none)) = W1
 have hold : ∀ k, k < W0.heap.size → W1.heap[k]? = W0.heap[k]? := fun k hk => by
  rw [← hW1]; exact (Below.heap_alloc _ _ k (by simp; omega)).trans (Below.heap_alloc _ _ k hk)
 have hb1 : Below w.heap.size w W1 := by rw [← hW1]; exact (hb0.alloc hb0.size _).alloc (by have := hb0.size; simp; omega) _
 have hL1 : W1.heap[W0.heap.size + 1]? = some (.loop (AnyZI.apRec ρ fn (.func (.func g) #[] lb) w.heap.size W0.heap.size .ready none)) := by
  rw [← hW1]; have := World.alloc_heap_new (W0.alloc (.deferred (some []))) (.loop (AnyZI.apRec ρ fn (.func (.func g) #[] lb) w.heap.size W0.heap.size .ready none)); rwa [World.size_alloc] at this
 have hK1 : W1.heap[W0.heap.size]? = some (.deferred (some [])) := by
  rw [← hW1]; exact (Below.heap_alloc _ _ _ (by simp)).trans (World.alloc_heap_new W0 _)
 have hM : AnyZI.ApAt ρ w fn (.func (.func g) #[] lb) w.heap.size (W0.heap.size + 1) W0.heap.size [] W1 :=
  ⟨⟨_, (hold w.heap.size (by omega)).trans hv0, ⟨rfl, .inl ⟨rfl, rfl⟩⟩, by simp⟩, hL1, hK1, hb1⟩
 refine ⟨W0.heap.size + 1, [{ target := .collected W0.heap.size, args := #[] }], W1, { target := .fn (.func g) lb, args := #[.func (.yield (W0.heap.size + 1)) #[] #[]] }, W1, g,
  #[.func (.yield (W0.heap.size + 1)) #[] #[]] ++ lb, W1, ?_, ?_, ?_, ?_, fun _ => h1, ?_⟩
 ·rw [← hW1]; exact run_enterLoop_outer _ _ _ _ _
 ·simp [resolve, go_sem]
 ·intro f' hf'; simp [Target.leads] at hf'; subst hf'; exact hFg
 ·simp [invoke, go_sem, eg]
 ·refine (hseq (W0.heap.size + 1) (AnyZI.ApAt ρ w fn (.func (.func g) #[] lb) w.heap.size (W0.heap.size + 1) W0.heap.size) W1 hb1 (AnyZI.ap_abides ρ _ _ _ _ _ _ _ hb1.size) (fun s W' h => h.below)
   (fun pre x W hJ hl => AnyZI.apYield { L with } F (n - 1 - 1) w fn hfn _ w.heap.size (W0.heap.size + 1) W0.heap.size (by omega) (by omega) (by omega) (Nat.le_refl _) (by omega) N hN hNb pre x W hJ hl) hM).mono ?_
  rintro e W2 ⟨⟨v0, rfl⟩, ss, hS, h2⟩
  obtain ⟨v, hv, hrow, hnil⟩ := h2.box
  have hend := run_endLoop (P := P) h2.L (by simp [AnyZI.apRec])
  generalize hW3 : W2.putObj (W0.heap.size + 1) (.loop { AnyZI.apRec ρ fn (.func (.func g) #[] lb) w.heap.size W0.heap.size .ready none with state := .exhausted }) = W3 at hend
  have hg3 : W2.grownBy W3 (some (W0.heap.size + 1)) := by rw [← hW3]; exact grownBy_putObj_a _ _ _
  have hv3 : W3.heap[w.heap.size]? = some (.cells #[v] (ρ.t 24) (0, 0)) := by rw [← hW3]; exact (World.putObj_heap_other (by omega)).trans hv
  have hK3 : W3.heap[W0.heap.size]? = some (.deferred (some [])) := by rw [← hW3]; exact (World.putObj_heap_other (by omega)).trans h2.K
  have hrow3 := hrow.kept hg3 (ownsRow_ne_a hrow h2.L (fun cur e => by first | cases e | exact hne (Obj.cells.inj e).2.1))
  have hb3 : Below w.heap.size w W3 := h2.below.grown hg3 h2.below.size (fun k e => by cases e; omega)
  obtain ⟨ar, hf3⟩ := cell_of_box_a hv3
  clear hW3
  refine ⟨none, W3, hend, ?_⟩
  gi_wp2
  rw [← ab]
  refine ⟨by simp, .inl ⟨_, _, rfl, run_takeDeferred hK3, ?_⟩⟩
  exact ⟨_, results_tmp rfl _ _ _, v, ss, rfl, hS, hrow3.kept (grownBy_putObj_a _ _ _) (ownsRow_ne_a hrow3 hK3 (fun cur e => by first | cases e | exact hne (Obj.cells.inj e).2.1)), hnil, hb3.grown (grownBy_putObj_a _ _ _) hb3.size (fun k e => by cases e; omega)⟩
theorem impl_IsPermutation.collect (L : SlLaysZI.n8 P ρ) (F : Fence) (n : Nat) (h8 : F.fn (ρ.f 8)) (aa : F.fn (ρ.f 11)) (hro : F.round = none) (hn : 3 ≤ n) (g : Nat) (lb : Array Value) (hFg : F.fn g) (eg : ∀ args w, (callFunc g args).run P w = .ok (.enter g args) w)
  (S : List Int → Prop) (N : Nat) (hN : N ≤ maxLen) (hNb : N * 8 ≤ 140737488355328) (w : World) (hseq : impl_IsPermutation.GivesB F (n - 1 - 1) P g lb N S w) :
  CallsIn F n P (ρ.f 8) #[.func (.func g) #[] lb] w fun e w' => ∃ (v : Value) (ss : List Int), e = .returned v ∧ S ss ∧ w'.ownsRow w.heap.size (ρ.t 26) 1 v ss.length (ss.map encZ) ∧ (v = .slice none 0 0 ↔ ss = []) ∧ Below w.heap.size w w' := by
 have h1 : 1 ≤ n := by omega
 have ab : ∀ args w, (callFunc (ρ.f 11) args).run P w = .ok (.enter (ρ.f 11) args) w := L.f11.enters rfl
 have mixed := L.mixed; have ac := L.t24; have ad := L.a24; have ae := L.z24; have af := L.v24; have ag := L.t26; have ah := L.a26; have ai := L.z26; have aj := L.v26; have ak := L.t28; have al := L.a28; have am := L.z28; have an := L.v28; have t0 := L.t0; have a0 := L.a0; have z0 := L.z0; have v0 := L.v0
 have u0 := run_underlying L.t0; have ao := run_underlying L.t24; have ap := run_underlying L.t26; have aq := run_underlying L.t28
 obtain ⟨_, _, FG⟩ := L.f8
 refine callsIn_of_wp FG rfl h8 ?_ hro
 simp only [SlBodyZ.n8_ntmps ρ, List.size_toArray, List.length_cons, List.length_nil, Nat.reduceAdd, Nat.reduceSub, Array.replicate_succ, Array.replicate_zero, List.push_toArray, List.append_toArray, List.nil_append, List.cons_append]
 gi_wp2_with (gi_at_fn (ρ.f 11); refine (impl_IsPermutation.appendSeq { L with } F (n - 1) aa hro (by omega) g lb hFg eg S N hN hNb _ hseq).mono ?_; rintro e w' ⟨v, ss, rfl, hS, hrow, hnil, hb⟩)
 go_ret
 exact ⟨v, ss, rfl, hS, hrow, hnil, hb⟩
theorem impl_IsPermutation.sorted (L : SlLaysZI.n6 P ρ) (F : Fence) (n : Nat) (h6 : F.fn (ρ.f 6)) (h8 : F.fn (ρ.f 8)) (h9 : F.fn (ρ.f 9)) (aa : F.fn (ρ.f 11)) (hro : F.round = none) (hn : 4 ≤ n) (hsort : AnyZI.SortsIn P ρ F (n - 1)) (e9 : ∀ args w, (callFunc (ρ.f 9) args).run P w = .ok (.enter (ρ.f 9) args) w) (g : Nat) (lb : Array Value) (hFg : F.fn g) (eg : ∀ args w, (callFunc g args).run P w = .ok (.enter g args) w)
  (l : List Int) (hl : l.length < 1000000) (w : World) (hseq : impl_IsPermutation.GivesB F (n - 1 - 1 - 1) P g lb l.length (fun xs => xs = l) w) :
  CallsIn F n P (ρ.f 6) #[.func (.func g) #[] lb] w fun e w' => ∃ v, e = .returned v ∧ w'.ownsRow w.heap.size (ρ.t 26) 1 v l.length ((l.mergeSort (fun x y => decide (x ≤ y))).map encZ) ∧ Below w.heap.size w w' := by
 have h1 : 1 ≤ n := by omega
 have e8 : ∀ args w, (callFunc (ρ.f 8) args).run P w = .ok (.enter (ρ.f 8) args) w := L.f8.enters rfl
 have mixed := L.mixed; have ab := L.t24; have ac := L.a24; have ad := L.z24; have ae := L.v24; have af := L.t26; have ag := L.a26; have ah := L.z26; have ai := L.v26; have aj := L.t28; have ak := L.a28; have al := L.z28; have am := L.v28; have t0 := L.t0; have a0 := L.a0; have z0 := L.z0; have v0 := L.v0
 have u0 := run_underlying L.t0; have an := run_underlying L.t24; have ao := run_underlying L.t26; have ap := run_underlying L.t28
 have hmx : maxLen = 9223372036854775807 := rfl
 obtain ⟨_, _, FG⟩ := L.f6
 refine callsIn_of_wp FG rfl h6 ?_ hro
 simp only [SlBodyZ.n6_ntmps ρ, List.size_toArray, List.length_cons, List.length_nil, Nat.reduceAdd, Nat.reduceSub, Array.replicate_succ, Array.replicate_zero, List.push_toArray, List.append_toArray, List.nil_append, List.cons_append]
 gi_wp2_with (gi_at_fn (ρ.f 8); refine (impl_IsPermutation.collect { L with } F (n - 1) h8 aa hro (by omega) g lb hFg eg _ l.length (by omega) (by omega) _ hseq).mono ?_; rintro e W ⟨v, ss, rfl, hS, hrow, hnil, hb⟩)
 subst hS
 rcases hrow.2 with ⟨rfl, hz⟩ | ⟨gb, cap, cur, rfl, hbase, hgb, r1, r2, r3, r4⟩
 ·have hss : ss = [] := List.eq_nil_of_length_eq_zero hz
  subst hss
  gi_wp2_with (gi_at_fn (ρ.f 9); refine (hsort.2 none 0 W).mono ?_; rintro e w' ⟨rfl, rfl⟩)
  go_ret
  exact ⟨.slice none 0 0, rfl, by simpa using hrow, hb⟩
 ·have hH : Holds encZ W gb 0 ss.toArray := holds_of_block_i hgb (by simpa using r4)
  have hgl : gb < W.heap.size := (Array.getElem?_eq_some_iff.1 hgb).1
  have cS := hsort.1 gb 0 cap ss W hH hgl (by omega)
  gi_wp2_with (gi_at_fn (ρ.f 9); refine cS.mono ?_; rintro e w' ⟨rfl, nn, os, rfl⟩)
  go_ret
  exact ⟨_, rfl, ownsRow_sorted_i (by simp) hbase hgb r1 r2 r3, hb.grown (grownBy_sorted_i _) hb.size (fun j hj => by cases hj; exact hbase)⟩
end
theorem impl_IsPermutation.valuesCall (A : Option Addr) (n c : Nat) (w : World) :
  Calls Tryz.prog 69 #[.slice A n c] w fun e w' => e = .returned (.func (.func 90) #[] #[.pointer (some ⟨w.heap.size, 0, none⟩)]) ∧ w' = w.alloc (.cells #[.slice A n c] 24) := by
 go_enter Tryz.func69, Tryz.ntmps69
 go_wp2
 go_ret
 exact ⟨rfl, rfl⟩
open Go.Maps Go.Sort Go.Shelf in
theorem impl_IsPermutation.sortedCall (Bm : Nat) (A : Option Addr) (c : Nat) (l : List Int) (hll : l.length < 1000000) (w : World) (hBm : w.heap[Bm]? = some (.cells #[.slice A l.length c] 24 (0, 0))) (hr : Kd.C (Kd.int .i64) w A l.length l) :
  Calls Tryz.prog 68 #[.func (.func 90) #[] #[.pointer (some ⟨Bm, 0, none⟩)]] w fun e w' => ∃ v, e = .returned v ∧ Kd.R (Kd.int .i64) 3 w' w.heap.size (fun _ => True) v (l.mergeSort (fun x y => decide (x ≤ y))) ∧ Below w.heap.size w w' := by
 have h := impl_IsPermutation.sorted Tryz.sortedA Fence.wide 5 trivial trivial trivial trivial rfl (by omega) (impl_IsPermutation.sorts _) (enters_of Tryz.func89 (by kernel_rfl) rfl) 90 #[.pointer (some ⟨Bm, 0, none⟩)] trivial (enters_of Tryz.func90 (by kernel_rfl) rfl) l hll w (impl_IsPermutation.values _ (by omega) Bm A c l hll w hBm hr)
 change CallsIn _ _ Tryz.prog 68 _ _ _ at h
 refine ((callsIn_wide (n := 5)).1 h).mono ?_
 rintro e w' ⟨v, rfl, hrow, hb⟩
 have hlen : (l.mergeSort (fun x y => decide (x ≤ y))).length = l.length := by simp
 exact ⟨v, rfl, Kd.R_of_own (by rw [hlen]; exact hrow) (fun _ _ => trivial), hb⟩
theorem impl_IsPermutation.calls (k : Nat) (A0 : Option Addr) (c0 : Nat) (l0 : List Int) (r : Bool) (w : World) (ad : Kd.C (Kd.int .i64) w A0 l0.length l0) (ae : l0.length ≤ c0) (h : impl_IsPermutation.f k l0 = some r) :
  Calls Tryz.prog 37 #[.slice A0 l0.length c0] w fun e w' => e = .returned (.bool r) ∧ Below w.heap.size w w' := by
 unfold impl_IsPermutation.f at h
 have HR := Ya ad
 have HC := Ya ae
 clear ad ae
 by_cases c : l0.length ≤ 12
 ·rw [if_pos c] at h
  have cb : decide ((l0.length : Int) ≤ 12) = true := Z35 (by omega)
  have cb2 : decide (l0.length ≤ 12) = true := Z35 c
  have CC := Ya c
  clear c
  obtain ⟨d, h1, h2⟩ := Z33.mp h
  generalize hsr : l0.mergeSort (fun x y => decide (x ≤ y)) = s at h2
  have HS := Ya hsr
  have H1 := Ya h1
  have H2 := Ya h2
  clear h h1 h2 hsr
  go_enter Tryz.func37, Tryz.ntmps37
  go_wp2_with fail
  refine (impl_IsPermutation.valuesCall A0 l0.length c0 w).mono ?_
  rintro e w1 ⟨rfl, rfl⟩
  have ab := Ya (Z5 (Below.refl w.heap.size w) (.cells #[.slice A0 l0.length c0] 24))
  have HM := Ya (show (w.alloc (.cells #[.slice A0 l0.length c0] 24)).heap[w.heap.size]? = some (.cells #[.slice A0 l0.length c0] 24 (0, 0)) from World.alloc_heap_new w _)
  go_wp2_with fail
  refine (impl_IsPermutation.sortedCall w.heap.size A0 c0 l0 (by have := CC.1; omega) _ HM.1 (Z19 HR.1 ab.1)).mono ?_
  rintro e w2 ⟨v2, rfl, aa, hb2⟩
  rw [HS.1] at aa
  obtain ⟨A2, c2, rfl⟩ := Z15 aa
  have ah := Ya aa
  have af := Ya (ab.1.trans (hb2.mono ab.1.size))
  clear aa hb2
  go_wp2_with fail
  refine (impl_identity.calls k (l0.length : Int) d _ H1.1).mono ?_
  rintro e w3 ⟨v3, rfl, ac, hb3⟩
  obtain ⟨A3, c3, rfl⟩ := Z15 ac
  have ag := Ya (Kd.R_reads' ac)
  have HL2 := Ya (Kd.R_reads' (Z13 ah.1 hb3))
  have ai := Ya (af.1.trans (hb3.mono af.1.size))
  clear ac hb3
  go_wp2_with fail
  refine (slices_Equal_int_int.calls k A2 c2 s A3 c3 d r _ HL2.1.2.2 HL2.1.2.1 ag.1.2.2 ag.1.2.1 H2.1).mono ?_
  rintro e w4 ⟨rfl, ⟨n4, rfl⟩⟩
  go_wp2
  go_ret
  exact ⟨rfl, Z3 ai.1 _⟩
 ·rw [if_neg c] at h
  obtain rfl := Option.some.inj h
  have cb : decide ((l0.length : Int) ≤ 12) = false := Z34 (by omega)
  have cb2 : decide (l0.length ≤ 12) = false := Z34 c
  clear c
  go_enter Tryz.func37, Tryz.ntmps37
  go_wp2
  go_ret
  exact ⟨rfl, by repeat (first | exact Below.refl _ _ | apply Z3 | apply below_drew)⟩
def slices_Index_int_int.l0 : Nat → List Int → Int → Int → Int → Option (Int)
 | 0, _, _, _, _ => none
 | k + 1, x0, x1, x7, x8 => if x8 < x7 then (if 0 ≤ x8 then (if x8 < (x0.length : Int) then (if x1 = (rd x0 x8) then (some x8) else (slices_Index_int_int.l0 k x0 x1 x7 (wrap64 (x8 + 1)))) else (none)) else (none)) else (some (-1))
def slices_Index_int_int.f (k : Nat) (l0 : List Int) (a1 : Int) : Option (Int) := slices_Index_int_int.l0 k l0 a1 (l0.length : Int) 0
theorem slices_Index_int_int.calls (k : Nat) (A0 : Option Addr) (c0 : Nat) (l0 : List Int) (a1 : Int) (r : Int) (w : World) (aj : Kd.C (Kd.int .i64) w A0 l0.length l0) (ak : l0.length ≤ c0) (h : slices_Index_int_int.f k l0 a1 = some r) :
  Calls Tryz.prog 70 #[.slice A0 l0.length c0, .int .i64 a1] w fun e w' => e = .returned (.int .i64 r) ∧ Drawn0 w w' := by
 have HR0 := Ya aj
 have an := Ya ak
 clear aj ak
 have H : (slices_Index_int_int.l0 k l0 a1 (l0.length : Int) 0) = some r := h
 clear h
 have H' := Ya H
 clear H
 go_enter Tryz.func70, Tryz.ntmps70
 go_wp2
 go_loopg [8] k (fun kq v8 w' => ∃ (aa : Int), v8 = .int .i64 aa ∧ Aside0 (slices_Index_int_int.l0 kq l0 a1 (l0.length : Int) aa = some r) ∧ Aside0 (kq ≤ k) ∧ Drawn0 w w')
 case atStart => exact ⟨(0), Q17, H', ⟨Nat.le_refl _⟩, Q16⟩
 case round =>
  clear H'
  obtain ⟨aa, rfl, HA, HK1, ⟨m1, rfl⟩⟩ := hrel
  cases gk with
  | zero => exact absurd HA.1 (by simp [slices_Index_int_int.l0])
  | succ k1 =>
   have H := HA.1
   clear HA
   simp only [slices_Index_int_int.l0] at H
   by_cases c3 : aa < (l0.length : Int)
   ·rw [if_pos c3] at H
    have ag := Z35 c3
    clear c3
    by_cases c4 : 0 ≤ aa
    ·rw [if_pos c4] at H
     have al := Z35 c4
     clear c4
     by_cases c5 : aa < (l0.length : Int)
     ·rw [if_pos c5] at H
      have am := Z35 c5
      clear c5
      by_cases c6 : a1 = (rd l0 aa)
      ·rw [if_pos c6] at H
       have ah : (a1 == (rd l0 aa)) = true := beq_iff_eq.mpr c6
       have ai : (a1 != (rd l0 aa)) = false := bne_eq_false_iff_eq.mpr c6
       clear c6
       obtain rfl := Option.some.inj H
       have ab : 0 ≤ (aa : Int) := Z27 Q5
       have ac : aa < (l0.length : Int) := Z27 Q5
       obtain ⟨af, ae, ad⟩ := Kd.at_int HR0.1 aa ab ac
       cases ae
       replace ab := eq_true ab
       replace ac := eq_true ac
       go_wp2
       go_ret
       exact ⟨Q24, Q16⟩
      ·rw [if_neg c6] at H
       have ah : (a1 == (rd l0 aa)) = false := beq_eq_false_iff_ne.mpr c6
       have ai : (a1 != (rd l0 aa)) = true := bne_iff_ne.mpr c6
       have H' := Ya H
       clear H
       have ab : 0 ≤ (aa : Int) := Z27 Q5
       have ac : aa < (l0.length : Int) := Z27 Q5
       obtain ⟨af, ae, ad⟩ := Kd.at_int HR0.1 aa ab ac
       cases ae
       replace ab := eq_true ab
       replace ac := eq_true ac
       go_wp2
       go_roundg k1
       case measure => have := HK1.1; omega
       case rel => exact ⟨(wrap64 (aa + 1)), Q17, H', ⟨Q35⟩, Q16⟩
     ·rw [if_neg c5] at H
      exact absurd H (by simp)
    ·rw [if_neg c4] at H
     exact absurd H (by simp)
   ·rw [if_neg c3] at H
    have ag := Z34 c3
    clear c3
    obtain rfl := Option.some.inj H
    go_wp2
    go_ret
    exact ⟨Q24, Q16⟩
def slices_Delete_int_int.f (l : List Int) (i j : Int) : Option (List Int) := if 0 ≤ i then (if i ≤ j then (if j ≤ (l.length : Int) then some (l.take i.toNat ++ l.drop j.toNat) else none) else none) else none
open Go.Shelf in
def Tryz.laysDel_ren : Go.Shelf.Ren := ⟨fun | 23 => 71 | n => n, fun | 22 => 24 | 3 => 3 | 4 => 4 | 0 => 0 | n => n, fun | n => n⟩
open Go.Shelf in
theorem Tryz.laysDel : Go.Proofs.Lays2.n23 Tryz.prog Tryz.laysDel_ren := {
  mixed := by kernel_rfl
  f23 := Tryz.func71.trans (congrArg some (by kernel_rfl))
  t0 := Tryz.underlying0
  a0 := Tryz.isAgg0
  z0 := Tryz.sizeOf0
  v0 := Tryz.zeroValue0
  t3 := Tryz.underlying3
  a3 := Tryz.isAgg3
  z3 := Tryz.sizeOf3
  v3 := Tryz.zeroValue3
  t4 := Tryz.underlying4
  a4 := Tryz.isAgg4
  z4 := Tryz.sizeOf4
  v4 := Tryz.zeroValue4
  t22 := Tryz.underlying24
  a22 := Tryz.isAgg24
  z22 := Tryz.sizeOf24
  v22 := Tryz.zeroValue24
  i3 := by kernel_rfl }
theorem slices_Delete_int_int.calls (l l2 : List Int) (i j : Int) (g c base : Nat) (ok : Nat → Prop) (w : World) (hR : Kd.R (Kd.int .i64) 3 w base ok (.slice (some ⟨g, 0, none⟩) l.length c) l) (h : slices_Delete_int_int.f l i j = some l2) :
  Calls Tryz.prog 71 #[.slice (some ⟨g, 0, none⟩) l.length c, .int .i64 i, .int .i64 j] w fun e w' => e = .returned (.slice (some ⟨g, 0, none⟩) l2.length c) ∧ Kd.R (Kd.int .i64) 3 w' base ok (.slice (some ⟨g, 0, none⟩) l2.length c) l2 ∧ Below base w w' ∧ w.grownBy w' (some g) := by
 unfold slices_Delete_int_int.f at h
 by_cases h0 : 0 ≤ i
 ·rw [if_pos h0] at h
  by_cases h1 : i ≤ j
  ·rw [if_pos h1] at h
   by_cases h2 : j ≤ (l.length : Int)
   ·rw [if_pos h2] at h
    obtain rfl := Option.some.inj h
    clear h
    have ho := Kd.own_of_R hR
    obtain ⟨k, rfl⟩ : ∃ k : Nat, i = (k : Int) := ⟨i.toNat, by omega⟩
    obtain ⟨m, rfl⟩ : ∃ m : Nat, j = (m : Int) := ⟨j.toNat, by omega⟩
    simp only [Int.toNat_natCast] at *
    have hl2 : (l.take k ++ l.drop m).length = l.length - (m - k) := by
     rw [List.length_append, Z29, Z28]; omega
    obtain ⟨g', c', e0, hb, hlt, hn, hm, hl, hH⟩ := Go.Lib.holds_of_ownsRow (zs := l) (enc := Value.int .i64) ho (by intro e; cases e)
    injection e0 with e1 e2 e3
    injection e1 with e1
    injection e1 with e1
    subst e1; subst e3
    refine (Any.slices_Delete_int Tryz.laysDel g 0 c k m l w hH hn hm (by omega) (by omega)).mono ?_
    rintro e w' ⟨rfl, q, rfl⟩
    have hrow := Go.Lib.ownsRow_putRow (q := q) (zs := l) (ys := l.take k ++ l.drop m ++ List.replicate (m - k) 0) (k := (l.take k ++ l.drop m).length) ho (by rw [List.length_append, hl2, List.length_replicate]; omega) (by omega)
    rw [List.take_left] at hrow
    refine ⟨by rw [hl2], Kd.R_of_own hrow (fun k hk => ?_), Go.Lib.below_putRow (Below.refl _ _) hb, ?_⟩
    ·exact hR.1 k (by simpa [Value.ownBlock] using hk)
    ·refine ⟨rfl, rfl, rfl, by simp [Go.Sort.putRow, Go.Sort.mapBlock, Go.Sort.ahead], fun q hq hne => ?_⟩
     have : g ≠ q := fun e => hne (by rw [e])
     simp [Go.Sort.putRow, Go.Sort.mapBlock, Go.Sort.ahead, Array.getElem?_modify, this]
   ·rw [if_neg h2] at h; cases h
  ·rw [if_neg h1] at h; cases h
 ·rw [if_neg h0] at h; cases h
def impl_trotterRank.f : Nat → List Int → Option Int
 | 0, _ => none
 | k + 1, l => if (l.length : Int) = 0 then some 0 else ((slices_Index_int_int.f k l (wrap64 ((l.length : Int) - 1))).bind fun p => ((impl_copied.f l).bind fun cp => ((slices_Delete_int_int.f cp p (wrap64 (p + 1))).bind fun d => ((impl_trotterRank.f k d).bind fun q => (if Int.tmod q 2 = 0 then some (wrap64 (wrap64 (q * (l.length : Int)) + wrap64 (wrap64 ((l.length : Int) - 1) - p))) else some (wrap64 (wrap64 (q * (l.length : Int)) + p)))))))
theorem impl_trotterRank.calls (k : Nat) : ∀ (A0 : Option Addr) (c0 : Nat) (l0 : List Int) (r : Int) (w : World) (ae : Kd.C (Kd.int .i64) w A0 l0.length l0) (af : l0.length ≤ c0) (h : impl_trotterRank.f k l0 = some r),
  Calls Tryz.prog 38 #[.slice A0 l0.length c0] w fun e w' => e = .returned (.int .i64 r) ∧ Below w.heap.size w w' := by
 induction k with
 | zero => intro A0 c0 l0 r w _ _ h; exact absurd h (by simp [impl_trotterRank.f])
 | succ k ih =>
  intro A0 c0 l0 r w ae af h
  have HR := Ya ae
  have HC := Ya af
  simp only [impl_trotterRank.f] at h
  clear ae af
  by_cases c : (l0.length : Int) = 0
  ·rw [if_pos c] at h
   obtain rfl := Option.some.inj h
   have c0b : ((l0.length : Int) == 0) = true := beq_iff_eq.mpr c
   have c0c : (l0.length == 0) = true := by simpa using c
   clear c h
   go_enter Tryz.func38, Tryz.ntmps38
   go_wp2
   go_ret
   exact ⟨rfl, Below.refl _ _⟩
  ·rw [if_neg c] at h
   have c0b : ((l0.length : Int) == 0) = false := beq_eq_false_iff_ne.mpr c
   have c0c : (l0.length == 0) = false := by simpa using c
   have c0d : ¬ (l0 = []) := fun e => c (by rw [e]; rfl)
   obtain ⟨p, h1, h⟩ := Z33.mp h
   obtain ⟨cp, h2, h⟩ := Z33.mp h
   obtain ⟨d, h3, h⟩ := Z33.mp h
   obtain ⟨q, h4, h⟩ := Z33.mp h
   have H1 := Ya h1
   have H2 := Ya h2
   have H3 := Ya h3
   have H4 := Ya h4
   have hcp : cp.length = l0.length := by
    unfold impl_copied.f at h2
    simp only [Option.bind_some, List.nil_append] at h2
    split at h2
    ·rw [Option.some.inj h2]
    ·cases h2
   have HCP := Ya hcp
   have HN := Ya c
   clear h1 h2 h3 h4 hcp c
   by_cases c5 : Int.tmod q 2 = 0
   ·rw [if_pos c5] at h
    obtain rfl := Option.some.inj h
    have c5b : (Int.tmod q 2 == 0) = true := beq_iff_eq.mpr c5
    clear c5 h
    go_enter Tryz.func38, Tryz.ntmps38
    go_wp2_with fail
    refine (slices_Index_int_int.calls k A0 c0 l0 _ p _ HR.1 HC.1 H1.1).mono ?_
    rintro e w1 ⟨rfl, ⟨n1, rfl⟩⟩
    go_wp2_with fail
    refine (impl_copied.calls A0 c0 l0 cp _ (Z17 HR.1 _) HC.1 H2.1).mono ?_
    rintro e w2 ⟨v2, rfl, aa, hb2⟩
    obtain ⟨g2, c2, e2, _, _, _⟩ := Kd.R_form aa (by have := HCP.1; have := HN.1; omega)
    subst e2
    have ag := Ya aa
    have ah := Ya (show Below w.heap.size w w2 from (Z3 (Below.refl _ _) _).trans hb2)
    clear aa hb2
    go_wp2_with fail
    refine (slices_Delete_int_int.calls cp d p (wrap64 (p + 1)) g2 c2 _ _ _ ag.1 H3.1).mono ?_
    rintro e w3 ⟨rfl, ab, hb3, _⟩
    have ac := Ya (Kd.R_reads' ab)
    have ad := Ya (show Below w.heap.size w w3 from ah.1.trans hb3)
    clear ab hb3
    go_wp2_with fail
    refine (ih _ c2 d q _ ac.1.2.2 ac.1.2.1 H4.1).mono ?_
    rintro e w4 ⟨rfl, hb4⟩
    have ai := Ya (ad.1.trans (hb4.mono ad.1.size))
    clear hb4
    go_wp2
    go_ret
    exact ⟨rfl, ai.1⟩
   ·rw [if_neg c5] at h
    obtain rfl := Option.some.inj h
    have c5b : (Int.tmod q 2 == 0) = false := beq_eq_false_iff_ne.mpr c5
    clear c5 h
    go_enter Tryz.func38, Tryz.ntmps38
    go_wp2_with fail
    refine (slices_Index_int_int.calls k A0 c0 l0 _ p _ HR.1 HC.1 H1.1).mono ?_
    rintro e w1 ⟨rfl, ⟨n1, rfl⟩⟩
    go_wp2_with fail
    refine (impl_copied.calls A0 c0 l0 cp _ (Z17 HR.1 _) HC.1 H2.1).mono ?_
    rintro e w2 ⟨v2, rfl, aa, hb2⟩
    obtain ⟨g2, c2, e2, _, _, _⟩ := Kd.R_form aa (by have := HCP.1; have := HN.1; omega)
    subst e2
    have ag := Ya aa
    have ah := Ya (show Below w.heap.size w w2 from (Z3 (Below.refl _ _) _).trans hb2)
    clear aa hb2
    go_wp2_with fail
    refine (slices_Delete_int_int.calls cp d p (wrap64 (p + 1)) g2 c2 _ _ _ ag.1 H3.1).mono ?_
    rintro e w3 ⟨rfl, ab, hb3, _⟩
    have ac := Ya (Kd.R_reads' ab)
    have ad := Ya (show Below w.heap.size w w3 from ah.1.trans hb3)
    clear ab hb3
    go_wp2_with fail
    refine (ih _ c2 d q _ ac.1.2.2 ac.1.2.1 H4.1).mono ?_
    rintro e w4 ⟨rfl, hb4⟩
    have ai := Ya (ad.1.trans (hb4.mono ad.1.size))
    clear hb4
    go_wp2
    go_ret
    exact ⟨rfl, ai.1⟩
def impl_TrotterRank.f (k : Nat) (l0 : List Int) : Option (Int × Bool) := (impl_IsPermutation.f k l0).bind fun aa => (if aa = true then ((impl_trotterRank.f k l0).bind fun ab => (some (ab, true))) else (some (0, false)))
theorem impl_TrotterRank.calls (k : Nat) (A0 : Option Addr) (c0 : Nat) (l0 : List Int) (r1 : Int) (r2 : Bool) (w : World) (ad : Kd.C (Kd.int .i64) w A0 l0.length l0) (ae : l0.length ≤ c0) (h : impl_TrotterRank.f k l0 = some (r1, r2)) :
  Calls Tryz.prog 12 #[.slice A0 l0.length c0] w fun e w' => e = .returned (.tuple #[.int .i64 r1, .bool r2]) ∧ Below w.heap.size w w' := by
 have HR0 := Ya ad
 have ac := Ya ae
 clear ad ae
 have HB := Ya (Below.refl w.heap.size w)
 have H : ((impl_IsPermutation.f k l0).bind fun ab => (if ab = true then ((impl_trotterRank.f k l0).bind fun aa => (some (aa, true))) else (some (0, false)))) = some (r1, r2) := h
 clear h
 replace H := YB H
 obtain ⟨ab, A2, H⟩ := H
 replace H := YC H
 obtain ⟨rfl, H⟩ | ⟨rfl, H⟩ := H
 ·replace H := YB H
  obtain ⟨aa, A4, H⟩ := H
  simp only [Option.some.injEq, Prod.mk.injEq] at H
  obtain ⟨rfl, rfl⟩ := H
  go_enter Tryz.func12, Tryz.ntmps12
  go_wp2_with (first | ((with_reducible refine gate_callee (f := 37) rfl ?_); refine Yz 5 Tryz.func37 #[.slice A0 l0.length c0] ?_; (with_reducible refine (impl_IsPermutation.calls k _ _ l0 true _ (Yc HR0.1) ac.1 A2.1).mono ?_); rintro e w5 ⟨rfl, hb⟩; refine ⟨_, rfl, ?_⟩; replace HB := Yh hb; (try clear hb)) | ((with_reducible refine gate_callee (f := 38) rfl ?_); refine Yz 8 Tryz.func38 #[.slice A0 l0.length c0] ?_; (with_reducible refine (impl_trotterRank.calls k _ _ l0 aa _ (Yc (Z19 HR0.1 HB.1)) ac.1 A4.1).mono ?_); rintro e w6 ⟨rfl, hb⟩; refine ⟨_, rfl, ?_⟩; replace HB := Yh hb; (try clear hb)))
  go_ret2
  exact ⟨Q2, Q12⟩
 ·simp only [Option.some.injEq, Prod.mk.injEq] at H
  obtain ⟨rfl, rfl⟩ := H
  go_enter Tryz.func12, Tryz.ntmps12
  go_wp2_with (first | ((with_reducible refine gate_callee (f := 37) rfl ?_); refine Yz 5 Tryz.func37 #[.slice A0 l0.length c0] ?_; (with_reducible refine (impl_IsPermutation.calls k _ _ l0 false _ (Yc HR0.1) ac.1 A2.1).mono ?_); rintro e w7 ⟨rfl, hb⟩; refine ⟨_, rfl, ?_⟩; replace HB := Yh hb; (try clear hb)))
  go_ret2
  exact ⟨Q2, Q12⟩
def impl_factorial.l0 : Nat → Int → Int → Int → Option (Int)
 | 0, _, _, _ => none
 | k + 1, x0, x3, x4 => if x4 ≤ x0 then (impl_factorial.l0 k x0 (wrap64 (x3 * x4)) (wrap64 (x4 + 1))) else (some x3)
def impl_factorial.f (k : Nat) (a0 : Int) : Option (Int) := impl_factorial.l0 k a0 1 2
theorem impl_factorial.mono_l : ∀ k, (∀ y0 y1 y2, LeO (impl_factorial.l0 k y0 y1 y2) (impl_factorial.l0 (k + 1) y0 y1 y2))
 | 0 => fun _ _ _ r h => by simp [impl_factorial.l0] at h
 | k + 1 => by
  have ih0 := impl_factorial.mono_l k
  ·intro y0 y1 y2
   unfold impl_factorial.l0
   repeat' first | (with_reducible exact ih0 ..) | (with_reducible exact LeO.refl _) | (with_reducible exact LeO.none _) | (with_reducible refine LeO.ite ?_ ?_) | (with_reducible refine LeO.bind ?_ (fun _ => ?_))
theorem impl_factorial.mono : ∀ a0 k, LeO (impl_factorial.f k a0) (impl_factorial.f (k + 1) a0) := by
 intro a0 k
 have ih0 := impl_factorial.mono_l k
 unfold impl_factorial.f
 repeat' first | (with_reducible exact ih0 ..) | (with_reducible exact LeO.refl _) | (with_reducible exact LeO.none _) | (with_reducible refine LeO.ite ?_ ?_) | (with_reducible refine LeO.bind ?_ (fun _ => ?_))
theorem impl_factorial.calls (k : Nat) (a0 : Int) (r : Int) (w : World) (h : impl_factorial.f k a0 = some r) :
  Calls Tryz.prog 43 #[.int .i64 a0] w fun e w' => e = .returned (.int .i64 r) ∧ Drawn0 w w' := by
 have H : (impl_factorial.l0 k a0 1 2) = some r := h
 clear h
 have H' := Ya H
 clear H
 go_enter Tryz.func43, Tryz.ntmps43
 go_wp2
 go_loopg [3, 4] k (fun kq v3 v4 w' => ∃ (ab : Int) (aa : Int), v3 = .int .i64 ab ∧ v4 = .int .i64 aa ∧ Aside0 (impl_factorial.l0 kq a0 ab aa = some r) ∧ Aside0 (kq ≤ k) ∧ Drawn0 w w')
 case atStart => exact ⟨(1), (2), Q17, Q17, H', ⟨Nat.le_refl _⟩, Q16⟩
 case round =>
  clear H'
  obtain ⟨ab, aa, rfl, rfl, HA, HK1, ⟨m1, rfl⟩⟩ := hrel
  cases gk with
  | zero => exact absurd HA.1 (by simp [impl_factorial.l0])
  | succ k1 =>
   have H := HA.1
   clear HA
   simp only [impl_factorial.l0] at H
   by_cases c2 : aa ≤ a0
   ·rw [if_pos c2] at H
    have ac := Z35 c2
    clear c2
    have H' := Ya H
    clear H
    go_wp2
    go_roundg k1
    case measure => have := HK1.1; omega
    case rel => exact ⟨(wrap64 (ab * aa)), (wrap64 (aa + 1)), Q17, Q17, H', ⟨Q35⟩, Q16⟩
   ·rw [if_neg c2] at H
    have ac := Z34 c2
    clear c2
    obtain rfl := Option.some.inj H
    go_wp2
    go_ret
    exact ⟨Q24, Q16⟩
def slices_Reverse_int_int.l0 : Nat → List Int → Int → Int → Option (List Int)
 | 0, _, _, _ => none
 | k + 1, x0, x2, x3 => if x2 < x3 then (if 0 ≤ x3 then (if x3 < (x0.length : Int) then (if 0 ≤ x2 then (if x2 < (x0.length : Int) then (slices_Reverse_int_int.l0 k ((x0.set (x2 : Int).toNat (rd x0 x3)).set (x3 : Int).toNat (rd x0 x2)) (wrap64 (x2 + 1)) (wrap64 (x3 - 1))) else (none)) else (none)) else (none)) else (none)) else (some x0)
def slices_Reverse_int_int.f (k : Nat) (l0 : List Int) : Option (List Int) := slices_Reverse_int_int.l0 k l0 0 (wrap64 ((l0.length : Int) - 1))
def slices_Reverse_int_int.T3 : Bool × List (List Nat × List Nat) := (true, [([], []), ([], []), ([], []), ([], []), ([], []), ([], []), ([4, 5], [4, 5]), ([6], [6]), ([], []), ([], []), ([8, 9], [8, 9]), ([10], [10]), ([0, 1, 0, 1, 4, 5, 6, 7, 11], [0, 1]), ([12, 7, 0, 1, 4, 5, 6, 7, 11], [7, 12]), ([2, 3, 0, 1, 2, 3, 4, 5, 6, 7, 8, 9, 10, 11, 12, 13], [2, 3]), ([14, 11, 13, 0, 1, 2, 3, 4, 5, 6, 7, 8, 9, 10, 11, 12, 13], [11, 14])])
def slices_Reverse_int_int.B3 : List Nat := [0, 0, 0, 0, 0, 0, 48, 112, 0, 0, 768, 1792, 4083, 8179, 16383, 32767]
theorem slices_Reverse_int_int.tab3 : rtab .any (opsOf Tryz.f115 3) = slices_Reverse_int_int.T3 := by kernel_rfl
theorem slices_Reverse_int_int.bits3 : waitsOk slices_Reverse_int_int.T3.2 slices_Reverse_int_int.B3 = true := by kernel_rfl
theorem slices_Reverse_int_int.calls (k : Nat) (P0_ : Nat → Prop) (u9000_ : Value) (l0 : List Int) (r : List Int) (w0 w : World) (hB : Below w0.heap.size w0 w) (aD : Kd.R (Kd.int .i64) 3 w w0.heap.size P0_ u9000_ l0) (h : slices_Reverse_int_int.f k l0 = some r) :
  Calls Tryz.prog 115 #[u9000_] w fun e w' => e = .returned (.tuple #[]) ∧ Kd.R (Kd.int .i64) 3 w' w0.heap.size (fun k_ => (P0_ k_ ∨ w.heap.size ≤ k_)) u9000_ r ∧ Below w0.heap.size w0 w' ∧ Kept w w' (fun k_ => P0_ k_) := by
 have aA := Ya (show Kd.R (Kd.int .i64) 3 w w0.heap.size (fun k_ => (P0_ k_ ∨ w.heap.size ≤ k_)) u9000_ l0 from Z12 aD (fun k_ hk => (.inl hk)))
 have HK := Ya (Kept.refl w (fun k_ => P0_ k_))
 have aK := Ya hB.size
 have HB := Ya hB
 clear hB
 have H : (slices_Reverse_int_int.l0 k l0 0 (wrap64 ((l0.length : Int) - 1))) = some r := h
 clear h
 have H' := Ya H
 clear H
 obtain ⟨aE, aF, rfl⟩ := Z15 aA.1
 go_enter Tryz.func115, Tryz.ntmps115
 go_wp2
 go_loopg [2, 3] k (fun kq v2 v3 w' => ∃ (ac : List Int) (aa : Int) (ab : Int), v2 = .int .i64 aa ∧ v3 = .int .i64 ab ∧ Aside0 (slices_Reverse_int_int.l0 kq ac aa ab = some r) ∧ Aside0 (kq ≤ k) ∧ Aside0 (Kd.R (Kd.int .i64) 3 w' w0.heap.size (fun k_ => (P0_ k_ ∨ w.heap.size ≤ k_)) (.slice aE l0.length aF) ac) ∧ Aside0 (Kept w w' (fun k_ => P0_ k_)) ∧ Aside0 (Below w0.heap.size w0 w'))
 case atStart => exact ⟨(l0), (0), (wrap64 ((l0.length : Int) - 1)), Q17, Q17, H', ⟨Nat.le_refl _⟩, ⟨by (with_reducible repeat (first | apply Z9 | apply Z10 | apply Z11)); exact aA.1⟩, ⟨Q71⟩, ⟨Q12⟩⟩
 case round =>
  clear H'
  obtain ⟨ac, aa, ab, rfl, rfl, HA, HK1, ad, HK, HB⟩ := hrel
  have hl0_1 := (Kd.R_reads' ad.1).1
  rw [hl0_1] at ad
  (try simp only [hl0_1])
  cases gk with
  | zero => exact absurd HA.1 (by simp [slices_Reverse_int_int.l0])
  | succ k1 =>
   have H := HA.1
   clear HA
   simp only [slices_Reverse_int_int.l0] at H
   by_cases c3 : aa < ab
   ·rw [if_pos c3] at H
    have ax := Z35 c3
    clear c3
    by_cases c4 : 0 ≤ ab
    ·rw [if_pos c4] at H
     have aG := Z35 c4
     clear c4
     by_cases c5 : ab < (ac.length : Int)
     ·rw [if_pos c5] at H
      have aH := Z35 c5
      clear c5
      by_cases c6 : 0 ≤ aa
      ·rw [if_pos c6] at H
       have aI := Z35 c6
       clear c6
       by_cases c7 : aa < (ac.length : Int)
       ·rw [if_pos c7] at H
        have aJ := Z35 c7
        clear c7
        obtain ⟨am, ag⟩ : ∃ y_ : List Int, y_ = (ac.set (aa : Int).toNat (rd ac ab)) := ⟨_, rfl⟩
        replace H : (slices_Reverse_int_int.l0 k1 (am.set (ab : Int).toNat (rd ac aa)) (wrap64 (aa + 1)) (wrap64 (ab - 1))) = some r := by first | (rw [ag]; with_reducible exact H) | (have H2_ := (Option.bind_some _ _).symm.trans H; rw [ag]; with_reducible exact H2_) | (have H2_ := (Option.bind_some _ _).symm.trans H; with_reducible exact H2_) | with_reducible exact H | (rw [ag]; exact H) | exact H
        have an := Ya ag
        clear ag
        obtain ⟨ao, ah⟩ : ∃ y_ : List Int, y_ = (am.set (ab : Int).toNat (rd ac aa)) := ⟨_, rfl⟩
        replace H : (slices_Reverse_int_int.l0 k1 ao (wrap64 (aa + 1)) (wrap64 (ab - 1))) = some r := by first | (rw [ah]; with_reducible exact H) | (have H2_ := (Option.bind_some _ _).symm.trans H; rw [ah]; with_reducible exact H2_) | (have H2_ := (Option.bind_some _ _).symm.trans H; with_reducible exact H2_) | with_reducible exact H | (rw [ah]; exact H) | exact H
        have ap := Ya ah
        clear ah
        have H' := Ya H
        clear H
        try go_wp2
        replace ad := Ya (Z11 ad.1)
        replace HK := Ya (Kept.drew HK.1)
        replace HB := Ya (Z4 HB.1)
        have ai : 0 ≤ (ab : Int) := Z27 Q5
        have aj : ab < (ac.length : Int) := Z27 Q5
        obtain ⟨aq, ay, ae⟩ := Kd.at_int (Kd.R_reads' ad.1).2.2 ab ai aj
        cases ay
        replace ai := eq_true ai
        replace aj := eq_true aj
        have ak : 0 ≤ (aa : Int) := Z27 Q5
        have al : aa < (ac.length : Int) := Z27 Q5
        obtain ⟨ar, az, af⟩ := Kd.at_int (Kd.R_reads' ad.1).2.2 aa ak al
        obtain rfl : aq = ar := (by injection az)
        replace ak := eq_true ak
        replace al := eq_true al
        have p8 : 0 ≤ (aa : Int) := Z27 Q5
        have q8 : (aa : Int) < ((ac.length : Int) : Int) := Z27 Q5
        obtain ⟨aw, aL, aB, aC, gl8, cl8, HG8⟩ := Kd.R_form ad.1 (by omega)
        (first | cases aB | (injection aB with ea_ en_ ec_; (first | subst ea_ | (injection ea_ with ea_; subst ea_)); subst ec_; clear en_))
        have GB8 := Ya aC
        have GG8 := Ya HG8
        clear aC gl8 HG8
        have HMgo8 := Ya (show (P0_ aw ∨ w.heap.size ≤ aw) from (ad.1.1 _ rfl))
        (first | simp only [add_plain] at ae | skip)
        (first | simp only [add_plain] at af | skip)
        obtain ⟨au, hf8_0⟩ := Kd.R_celln 0 ad.1 (aa : Int) p8 q8
        replace p8 := eq_true p8
        replace q8 := eq_true q8
        have HP11 := Kd.R_putn ad.1 (aa : Int) (rd ac ab)
        rw [← an.1] at HP11
        have HQ11 := Ya HP11
        clear HP11
        have p9 : 0 ≤ (ab : Int) := Z27 Q5
        have q9 : (ab : Int) < ((ac.length : Int) : Int) := Z27 Q5
        obtain ⟨av, hf9_0⟩ := Kd.R_celln 0 HQ11.1 (ab : Int) p9 q9
        replace p9 := eq_true p9
        replace q9 := eq_true q9
        have HP12 := Kd.R_putn HQ11.1 (ab : Int) (rd ac aa)
        rw [← ap.1] at HP12
        have HQ12 := Ya HP12
        clear HP12
        refine start_ (n := 16) (S := fun w' => w'.cell? ⟨aw, (ab).toNat, none⟩ = some (.int .i64 (rd ac ab)) ∧ w'.cell? ⟨aw, (aa).toNat, none⟩ = some (.int .i64 (rd ac aa))) (ds := [13, 15]) (YA 16 0) (by kernel_rfl) rfl rfl ⟨ae, af⟩ (fun hHeld => ?_); refine with_tabW slices_Reverse_int_int.tab3 slices_Reverse_int_int.bits3 (fun HT_ HW_ => ?_)
        generalize wr.drew = aM at ad HK HB GG8 HQ11 HQ12 hf8_0 hf9_0 ae af au av hHeld ⊢
        refine Yp 0 (some 14) (YA 16 1) rfl HT_.1 ?_
        refine Yp 1 (some 15) (YA 16 3) rfl HT_.1 ?_
        refine Yp 2 (some 16) (YA 16 7) rfl HT_.1 ?_
        refine Yp 3 (some 17) (YA 16 15) rfl HT_.1 ?_
        refine Yp 4 (some 18) (YA 16 31) rfl HT_.1 ?_
        refine Yp 5 (some 19) (YA 16 63) rfl HT_.1 ?_
        refine Yp 6 (some 20) (YA 16 127) rfl HT_.1 ?_
        refine Yp 8 (some 22) (YA 16 383) rfl HT_.1 ?_
        refine Yp 9 (some 23) (YA 16 895) rfl HT_.1 ?_
        refine Yp 10 (some 24) (YA 16 1919) rfl HT_.1 ?_
        refine Yt 7 (some 21) (YA 16 2047) rfl HT_.1 HW_.1 hHeld Q26 ?_
        refine Yt 11 (some 25) (YA 16 4095) rfl HT_.1 HW_.1 hHeld Q26 ?_
        refine Yp 12 (some 26) (YA 16 8191) rfl HT_.1 ?_
        refine last_ (i := 13) (N := none) (YA 16 16383) rfl rfl (one_of HT_.1 (by kernel_rfl)) (by decide) (fun K hK => ?_)
        refine YNc ?_
        refine hK.out _ _ ?_
        clear hK K
        refine Yp 14 (some 27) (YA 16 32767) rfl HT_.1 ?_
        refine last_ (i := 15) (N := none) (YA 16 65535) rfl rfl (one_of HT_.1 (by kernel_rfl)) (by decide) (fun K hK => ?_)
        refine YNc ?_
        refine hK.out _ _ ?_
        clear hK K
        refine done_ (done_of HT_.1 (by kernel_rfl)) ?_
        try go_wp2
        (try simp only [← hl0_1])
        go_roundg k1
        case measure => have := HK1.1; omega
        case rel => exact ⟨(ao), (wrap64 (aa + 1)), (wrap64 (ab - 1)), Q17, Q17, H', ⟨Q35⟩, ⟨by (try simp only [hl0_1]); (with_reducible repeat (first | apply Z9 | apply Z10 | apply Z11)); exact HQ12.1⟩, ⟨by repeat (first | (with_reducible first | exact HK.1 | apply Kept.alloc | apply Kept.drewN | apply Kept.drew | refine Kept.setCell ?_ HMgo8.1 _ | refine Kept.setCell ?_ HMgo8.1 _) | exact HK.1)⟩, ⟨Q12⟩⟩
       ·rw [if_neg c7] at H
        exact absurd H (by simp)
      ·rw [if_neg c6] at H
       exact absurd H (by simp)
     ·rw [if_neg c5] at H
      exact absurd H (by simp)
    ·rw [if_neg c4] at H
     exact absurd H (by simp)
   ·rw [if_neg c3] at H
    have ax := Z34 c3
    clear c3
    obtain rfl := Option.some.inj H
    go_wp2
    first | go_end0 | ((try simp only [Exit.inBlock, Exit.then]); refine bodyPost_ret (results_none rfl _ _ _) rfl ?_)
    exact ⟨Q2, (by first | exact (Yr ad.1) | (simp only [hl0_1]; exact (Yr ad.1))), Q12, Q71⟩
def slices_Insert_int_int.f (l : List Int) (i x : Int) : Option (List Int) := if 0 ≤ i then (if i ≤ (l.length : Int) then (if l.length < 4398046511104 then some (l.insertIdx i.toNat x) else none) else none) else none
open Go.Shelf in
def Tryz.laysIns_ren : Go.Shelf.Ren := ⟨fun | 21 => 73 | 27 => 92 | 28 => 93 | 35 => 101 | 39 => 115 | n => n, fun | 22 => 24 | 3 => 3 | 4 => 4 | 0 => 0 | n => n, fun | n => n⟩
open Go.Shelf in
theorem Tryz.laysIns : Go.Proofs.Lays2.n21 Tryz.prog Tryz.laysIns_ren := {
  mixed := by kernel_rfl
  f21 := Tryz.func73.trans (congrArg some (by kernel_rfl))
  f27 := Tryz.func92.trans (congrArg some (by kernel_rfl))
  f28 := Tryz.func93.trans (congrArg some (by kernel_rfl))
  f35 := Tryz.func101.trans (congrArg some (by kernel_rfl))
  f39 := Tryz.func115.trans (congrArg some (by kernel_rfl))
  t0 := Tryz.underlying0
  a0 := Tryz.isAgg0
  z0 := Tryz.sizeOf0
  v0 := Tryz.zeroValue0
  t3 := Tryz.underlying3
  a3 := Tryz.isAgg3
  z3 := Tryz.sizeOf3
  v3 := Tryz.zeroValue3
  t4 := Tryz.underlying4
  a4 := Tryz.isAgg4
  z4 := Tryz.sizeOf4
  v4 := Tryz.zeroValue4
  t22 := Tryz.underlying24
  a22 := Tryz.isAgg24
  z22 := Tryz.sizeOf24
  v22 := Tryz.zeroValue24
  i3 := by kernel_rfl }
theorem slices_Insert_int_int.own_of {w : World} {base g e n cap : Nat} {f : Nat → Value} {xs : List Value} (h : w.rowIs g e cap f) (hb : base ≤ g) (hn : n ≤ cap) (hm : cap ≤ maxLen) (hx : xs.length = n)
  (hf : ∀ j, j < n → xs[j]? = some (f j)) : w.ownsRow base e 1 (.slice (some ⟨g, 0, none⟩) n cap) n xs := by
 obtain ⟨c, hc, hs, hi⟩ := h
 refine ⟨by simpa using hx, .inr ⟨g, cap, c, rfl, hb, hc, hn, hm, by simpa using hs, ?_⟩⟩
 apply List.ext_getElem?
 intro j
 rw [List.getElem?_take, Array.getElem?_toList]
 by_cases hj : j < n
 ·rw [if_pos (by omega), hi j (by omega), hf j hj]
 ·rw [if_neg (by omega), List.getElem?_eq_none (by omega)]
theorem slices_Insert_int_int.of_own {w : World} {base g e n cap : Nat} {xs : List Value} (h : w.ownsRow base e 1 (.slice (some ⟨g, 0, none⟩) n cap) n xs) :
  base ≤ g ∧ g < w.heap.size ∧ n ≤ cap ∧ cap ≤ maxLen ∧ ∃ c : Array Value, w.heap[g]? = some (.cells c e (0, 0)) ∧ c.size = cap ∧ ∀ j, j < n → xs[j]? = c[j]? := by
 rcases h.2 with ⟨e0, _⟩ | ⟨g', cap', cur, e0, hb, hg, hn, hm, hs, ht⟩
 ·cases e0
 ·injection e0 with e1 _ e3
  injection e1 with e1
  injection e1 with e1
  subst e1; subst e3
  refine ⟨hb, own_lt h g rfl, hn, hm, cur, hg, by simpa using hs, fun j hj => ?_⟩
  rw [← ht, List.getElem?_take, if_pos (by omega), Array.getElem?_toList]
theorem slices_Insert_int_int.row {w : World} {g e : Nat} {c : Array Value} (h : w.heap[g]? = some (.cells c e (0, 0))) : w.rowIs g e c.size (fun j => c[j]?.getD default) :=
 ⟨c, h, rfl, fun i hi => by simp [hi]⟩
theorem slices_Insert_int_int.alloc_row (w : World) (c : Array Value) (cap : Nat) (hs : c.size = cap) : (w.alloc (.cells c 3)).rowIs w.heap.size 3 cap (fun j => c[j]?.getD default) := by
 subst hs
 exact World.rowIs_alloc w c 3 _ (fun i hi => by simp [hi])
theorem slices_Insert_int_int.ins (l : List Int) (i : Nat) (x : Int) (hi : i ≤ l.length) (j : Nat) (hj : j < l.length + 1) :
  (encs (Value.int .i64) (l.insertIdx i x))[j]? = some (if j < i then (Value.int .i64 (l.getD j 0)) else if j = i then (Value.int .i64 x) else (Value.int .i64 (l.getD (j - 1) 0))) := by
 simp only [encs, List.getElem?_map, List.getElem?_insertIdx]
 by_cases h1 : j < i
 ·simp only [if_pos h1, List.getD_eq_getElem?_getD, List.getElem?_eq_getElem (show j < l.length by omega), Option.map_some, Option.getD_some]
 ·by_cases h2 : j = i
  ·simp [h2, hi]
  ·simp only [if_neg h1, if_neg h2, List.getD_eq_getElem?_getD, List.getElem?_eq_getElem (show j - 1 < l.length by omega), Option.map_some, Option.getD_some]
theorem slices_Insert_int_int.calls (l l2 : List Int) (i x : Int) (A : Option Addr) (c vb vc base b2 : Nat) (ok ok2 : Nat → Prop) (w : World) (hR : Kd.R (Kd.int .i64) 3 w base ok (.slice A l.length c) l)
  (hX : Kd.R (Kd.int .i64) 3 w b2 ok2 (.slice (some ⟨vb, 0, none⟩) 1 vc) [x]) (hne : ∀ a, A = some a → vb ≠ a.block) (h : slices_Insert_int_int.f l i x = some l2) (hbase : base ≤ w.heap.size) :
  Calls Tryz.prog 73 #[.slice A l.length c, .int .i64 i, .slice (some ⟨vb, 0, none⟩) 1 vc] w fun e w' => ∃ v, e = .returned v ∧ Kd.R (Kd.int .i64) 3 w' base (fun _ => True) v l2 ∧ Below base w w' := by
 unfold slices_Insert_int_int.f at h
 by_cases h0 : 0 ≤ i
 ·rw [if_pos h0] at h
  by_cases h1 : i ≤ (l.length : Int)
  ·rw [if_pos h1] at h
   by_cases h2 : l.length < 4398046511104
   ·rw [if_pos h2] at h
    obtain rfl := Option.some.inj h
    clear h
    have ho := Kd.own_of_R hR
    have hox := Kd.own_of_R hX
    obtain ⟨hbx, hltx, hnx, hmx, cx, hhx, hsx, hix⟩ := slices_Insert_int_int.of_own hox
    obtain ⟨k, rfl⟩ : ∃ k : Nat, i = (k : Int) := ⟨i.toNat, by omega⟩
    simp only [Int.toNat_natCast] at *
    have hk : k ≤ l.length := by omega
    have hvs : ∀ (j : Nat) (u : Value), (encs (Value.int .i64) [x])[j]? = some u → w.cell? ⟨vb, 0 + j, none⟩ = some u := by
     intro j u hj
     have hj1 : j < 1 := by
      rcases Nat.lt_or_ge j 1 with h' | h'
      ·exact h'
      ·rw [List.getElem?_eq_none (by simpa [encs] using h')] at hj; cases hj
     simp only [World.cell?, hhx, Nat.zero_add, Option.isSome_none, Bool.false_eq_true, if_false]
     rw [← hix j hj1, hj]
    have h1v : ∀ v ∈ encs (Value.int .i64) [x], v.oneCell' = true := by
     intro v hv
     simp only [encs, Z31, Z32, List.mem_singleton] at hv
     subst hv; rfl
    have h1c : ∀ v ∈ encs (Value.int .i64) l, v.oneCell' = true := by
     intro v hv
     obtain ⟨z, _, rfl⟩ := List.mem_map.1 hv
     rfl
    have hcl : (encs (Value.int .i64) l).length = l.length := by simp [encs]
    have hvl : (encs (Value.int .i64) [x]).length = 1 := rfl
    have hl2 : (l.insertIdx k x).length = l.length + 1 := List.length_insertIdx_of_le_length hk x
    have hmx2 : maxLen = 9223372036854775807 := rfl
    have hgl : ∀ j, j < l.length → (encs (Value.int .i64) l)[j]? = some (Value.int .i64 (l.getD j 0)) := by
     intro j hj
     simp [encs, List.getElem?_map, List.getElem?_eq_getElem hj, List.getD_eq_getElem?_getD]
    have fin : ∀ (w' : World) (g cap : Nat) (f : Nat → Value), w'.rowIs g 3 cap f → base ≤ g → l.length + 1 ≤ cap → cap ≤ maxLen →
      (∀ j, j < l.length + 1 → f j = if j < k then (Value.int .i64 (l.getD j 0)) else if j = k then (Value.int .i64 x) else (Value.int .i64 (l.getD (j - 1) 0))) →
      Kd.R (Kd.int .i64) 3 w' base (fun _ => True) (.slice (some ⟨g, 0, none⟩) (l.length + 1) cap) (l.insertIdx k x) := by
     intro w' g cap f hr hg hn hm hf
     refine Kd.R_of_own ?_ (fun _ _ => trivial)
     rw [hl2]
     exact slices_Insert_int_int.own_of hr hg hn hm (by simp [encs, hl2]) (fun j hj => by rw [slices_Insert_int_int.ins l k x hk j hj, hf j hj])
    have hzc : ∀ q, (Builtin.zeroCells (Value.int .i64 0).cells q).size = q := by
     intro q
     have h1 : (Value.int .i64 0).cells.size = 1 := rfl
     simp [Builtin.zeroCells, h1]
    have hgrow : ∀ (wv : World) (cap : Nat), l.length + 1 ≤ cap → (wv.alloc (.cells ((encs (Value.int .i64) l ++ encs (Value.int .i64) [x]).toArray ++ Builtin.zeroCells (Value.int .i64 0).cells (cap - (l.length + 1))) 3)).rowIs wv.heap.size 3 cap
      (fun j => ((encs (Value.int .i64) l ++ encs (Value.int .i64) [x]).toArray ++ Builtin.zeroCells (Value.int .i64 0).cells (cap - (l.length + 1)))[j]?.getD default) := by
     intro wv cap hcap
     refine slices_Insert_int_int.alloc_row wv _ cap ?_
     rw [Array.size_append, hzc]; simp [encs]; omega
    have hend : ∀ (cap : Nat) (j : Nat), j < l.length + 1 → (((encs (Value.int .i64) l ++ encs (Value.int .i64) [x]).toArray ++ Builtin.zeroCells (Value.int .i64 0).cells (cap - (l.length + 1)))[j]?.getD default) =
      if j < l.length then (Value.int .i64 (l.getD j 0)) else if j = l.length then (Value.int .i64 x) else (Value.int .i64 (l.getD (j - 1) 0)) := by
     intro cap j hj
     rw [Array.getElem?_append_left (by simp [encs]; omega)]
     simp only [List.getElem?_toArray]
     by_cases h1 : j < l.length
     ·rw [List.getElem?_append_left (by omega), hgl j h1, if_pos h1]; rfl
     ·have : j = l.length := by omega
      subst this
      rw [List.getElem?_append_right (by omega), hcl, Nat.sub_self, if_neg h1, if_pos rfl]; rfl
    have hnew : ∀ (cap : Nat), l.length + 1 ≤ cap → (w.alloc (.cells (((encs (Value.int .i64) l).take k).toArray ++ Builtin.zeroCells (Value.int .i64 0).cells (l.length + 1 - k) ++ Builtin.zeroCells (Value.int .i64 0).cells (cap - (l.length + 1))) 3)).rowIs w.heap.size 3 cap
      (fun j => (((encs (Value.int .i64) l).take k).toArray ++ Builtin.zeroCells (Value.int .i64 0).cells (l.length + 1 - k) ++ Builtin.zeroCells (Value.int .i64 0).cells (cap - (l.length + 1)))[j]?.getD default) := by
     intro cap hcap
     refine slices_Insert_int_int.alloc_row w _ cap ?_
     rw [Array.size_append, Array.size_append, hzc, hzc]; simp [encs]; omega
    have hmid : ∀ (f0 : Nat → Value), (∀ j, j < k → f0 j = Value.int .i64 (l.getD j 0)) → ∀ j, j < l.length + 1 →
      (if k + 1 ≤ j ∧ j < k + 1 + ((encs (Value.int .i64) l).drop k).length then ((encs (Value.int .i64) l).drop k)[j - (k + 1)]?.getD default else if k ≤ j ∧ j < k + 1 then (encs (Value.int .i64) [x])[j - k]?.getD default else f0 j) =
      if j < k then (Value.int .i64 (l.getD j 0)) else if j = k then (Value.int .i64 x) else (Value.int .i64 (l.getD (j - 1) 0)) := by
     intro f0 hf0 j hj
     have hdl : ((encs (Value.int .i64) l).drop k).length = l.length - k := by rw [Z28, hcl]
     by_cases h1 : j < k
     ·rw [if_neg (by omega), if_neg (by omega), if_pos h1, hf0 j h1]
     ·by_cases h2 : j = k
      ·subst h2
       rw [if_neg (by omega), if_pos (by omega), if_neg h1, if_pos rfl, Nat.sub_self]; rfl
      ·rw [if_pos (by omega), if_neg h1, if_neg h2, List.getElem?_drop, show k + (j - (k + 1)) = j - 1 by omega, hgl (j - 1) (by omega)]; rfl
    rcases A with _ | ⟨g, o, sp⟩
    ·-- nil
     have aa : c = 0 ∧ l.length = 0 := by
      rcases ho.2 with ⟨e0, e1⟩ | ⟨_, _, _, e0, _⟩
      ·injection e0 with _ e2 e3; exact ⟨e3, e1⟩
      ·injection e0 with e1; cases e1
     obtain ⟨rfl, hl0⟩ := aa
     have hk0 : k = l.length := by omega
     subst hk0
     refine (Any2.slices_Insert_int_end_grow Tryz.laysIns none l.length 0 vb 0 1 vc (encs (Value.int .i64) l) (encs (Value.int .i64) [x]) w (by omega) (by omega) (by omega) (by omega) hcl hvl (fun _ => hl0) (fun a ha => by cases ha) hvs h1v).mono ?_
     rintro e w' ⟨rfl, rfl⟩
     exact ⟨_, rfl, fin _ _ _ _ (hgrow _ _ (grownCap_ge _ _ _ _)) hbase (grownCap_ge _ _ _ _) (grownCap_le_maxLen _ _ _ _ (by omega)) (hend _), (Z5 (below_drew (Below.refl _ _)) _).mono hbase⟩
    ·have hA : sp = none ∧ o = 0 := by
      rcases ho.2 with ⟨e0, _⟩ | ⟨_, _, _, e0, _⟩
      ·injection e0 with e1; cases e1
      ·injection e0 with e1; injection e1 with e1; injection e1 with e1 e2 e3; exact ⟨e3, e2⟩
     obtain ⟨rfl, rfl⟩ := hA
     obtain ⟨hbg, hltg, hn, hm, cg, hhg, hsg, hig⟩ := slices_Insert_int_int.of_own ho
     have hnb : vb ≠ g := hne _ rfl
     have hrow : w.rowIs g 3 c (fun j => cg[j]?.getD default) := by rw [← hsg]; exact slices_Insert_int_int.row hhg
     have hcs : ∀ (j : Nat) (u : Value), (encs (Value.int .i64) l)[j]? = some u → w.cell? ⟨g, 0 + j, none⟩ = some u := by
      intro j u hj
      have hj1 : j < l.length := by
       rcases Nat.lt_or_ge j l.length with h' | h'
       ·exact h'
       ·rw [List.getElem?_eq_none (by omega)] at hj; cases hj
      simp only [World.cell?, hhg, Nat.zero_add, Option.isSome_none, Bool.false_eq_true, if_false]
      rw [← hig j hj1, hj]
     have hfr : ∀ j, w.frozen? ⟨g, j, none⟩ = false := by
      intro j; simp [World.frozen?, hhg]
     have hsp : ∀ j, j < c → (w.cell? ⟨g, j, none⟩).isSome = true := by
      intro j hj
      simp only [World.cell?, hhg, Option.isSome_none, Bool.false_eq_true, if_false]
      rw [Array.getElem?_eq_getElem (by omega)]; rfl
     have hcg : ∀ j, j < l.length → (cg[j]?.getD default) = Value.int .i64 (l.getD j 0) := by
      intro j hj
      rw [← hig j hj, hgl j hj]; rfl
     by_cases hroom : l.length + 1 ≤ c
     ·by_cases hend2 : k = l.length
      ·subst hend2
       refine (Any2.slices_Insert_int_end_room Tryz.laysIns g 0 l.length c vb 0 1 vc (encs (Value.int .i64) [x]) w (by omega) hroom (by omega) hvl (fun j hj => hsp _ (by omega)) (fun j _ => hfr _) hvs h1v).mono ?_
       rintro e w' ⟨rfl, rfl⟩
       refine ⟨_, rfl, fin _ _ _ _ (Go.rowIs_setCells _ _ _ _ hrow) hbg hroom hm ?_, (Go.below_setCells hbg _ _ _ (Below.refl _ _))⟩
       intro j hj
       simp only [Nat.zero_add, hvl]
       by_cases h1 : j < l.length
       ·rw [if_neg (by omega), if_pos h1, hcg j h1]
       ·have : j = l.length := by omega
        subst this
        rw [if_pos (by omega), if_neg (by omega), if_pos rfl, Nat.sub_self]; rfl
      ·refine (Any2.slices_Insert_int_shift Tryz.laysIns g 0 l.length c k vb 0 1 vc (encs (Value.int .i64) l) (encs (Value.int .i64) [x]) w (by omega) (by omega) hroom (by omega) hnb hcl hvl hcs (fun j hj => hsp _ (by omega)) (fun j _ => hfr _) hvs h1c h1v
        3 3 cx.size cg.size (by simp [World.shape?, hhx]) (by simp [World.shape?, hhg]) (by omega) (by simp [World.frozen?, hhx]) (by simp [World.frozen?, hhx])).mono ?_
       rintro e w' ⟨rfl, rfl⟩
       refine ⟨_, rfl, fin _ _ _ _ (Go.rowIs_setCells _ _ _ _ (Go.rowIs_setCells _ _ _ _ hrow.drew)) hbg hroom hm ?_, (Go.below_setCells hbg _ _ _ (Go.below_setCells hbg _ _ _ (below_drew (Below.refl _ _))))⟩
       intro j hj
       simp only [Nat.zero_add, hvl]
       have hdl : ((encs (Value.int .i64) l).drop k).length = l.length - k := by rw [Z28, hcl]
       have hm2 := hmid (fun j => cg[j]?.getD default) (fun j hj => hcg j (by omega)) j hj
       rw [← hm2]
       by_cases h1 : k ≤ j ∧ j < k + 1
       ·rw [if_pos h1, if_neg (by omega), if_pos h1]
       ·rw [if_neg h1]
        by_cases h2 : k + 1 ≤ j ∧ j < k + 1 + ((encs (Value.int .i64) l).drop k).length
        ·rw [if_pos h2, if_pos h2]
        ·rw [if_neg h2, if_neg h2, if_neg h1]
     ·by_cases hend2 : k = l.length
      ·subst hend2
       refine (Any2.slices_Insert_int_end_grow Tryz.laysIns (some ⟨g, 0, none⟩) l.length c vb 0 1 vc (encs (Value.int .i64) l) (encs (Value.int .i64) [x]) w (by omega) hn (by omega) (by omega) hcl hvl (fun e => by cases e) (fun a ha j v hv => by cases ha; rw [Addr.add_lit]; exact hcs j v hv) hvs h1v).mono ?_
       rintro e w' ⟨rfl, rfl⟩
       exact ⟨_, rfl, fin _ _ _ _ (hgrow _ _ (grownCap_ge _ _ _ _)) hbase (grownCap_ge _ _ _ _) (grownCap_le_maxLen _ _ _ _ (by omega)) (hend _), (Z5 (below_drew (Below.refl _ _)) _).mono hbase⟩
      ·refine (Any2.slices_Insert_int_grow Tryz.laysIns g 0 l.length c k vb 0 1 vc (encs (Value.int .i64) l) (encs (Value.int .i64) [x]) w (by omega) (by omega) hn (by omega) (by omega) hcl hvl hcs hvs h1c h1v).mono ?_
       rintro e w' ⟨rfl, rfl⟩
       refine ⟨_, rfl, fin _ _ _ _ (Go.rowIs_setCells _ _ _ _ (Go.rowIs_setCells _ _ _ _ (hnew _ (grownCap_ge _ _ _ _)).drew).drew) hbase (grownCap_ge _ _ _ _) (grownCap_le_maxLen _ _ _ _ (by omega)) ?_,
        (Go.below_setCells hbase _ _ _ (below_drew (Go.below_setCells hbase _ _ _ (below_drew ((Z5 (Below.refl _ _) _).mono hbase)))))⟩
       intro j hj
       simp only [hvl]
       refine hmid (fun j => (((encs (Value.int .i64) l).take k).toArray ++ Builtin.zeroCells (Value.int .i64 0).cells (l.length + 1 - k) ++ Builtin.zeroCells (Value.int .i64 0).cells (grownCap w (l.length + 1) c (Tryz.laysIns_ren.t 3) - (l.length + 1)))[j]?.getD default) (fun j hj => ?_) j hj
       show (((encs (Value.int .i64) l).take k).toArray ++ Builtin.zeroCells (Value.int .i64 0).cells (l.length + 1 - k) ++ Builtin.zeroCells (Value.int .i64 0).cells (grownCap w (l.length + 1) c (Tryz.laysIns_ren.t 3) - (l.length + 1)))[j]?.getD default = _
       rw [Array.getElem?_append_left (by simp [hzc]; omega), Array.getElem?_append_left (by simp; omega)]
       simp only [List.getElem?_toArray]
       rw [List.getElem?_take, if_pos hj, hgl j (by omega)]; rfl
   ·rw [if_neg h2] at h; cases h
  ·rw [if_neg h1] at h; cases h
 ·rw [if_neg h0] at h; cases h
def impl_trotterAt.f : Nat → Int → Int → Option (List Int)
 | 0, _, _ => none
 | k + 1, a0, a1 => if a0 = 0 then (some ([] : List Int)) else ((impl_trotterAt.f k (wrap64 (a0 - 1)) (wrap64 (Int.tdiv a1 a0))).bind fun l => (if (Int.tmod (wrap64 (Int.tdiv a1 a0)) 2) = 0 then slices_Insert_int_int.f l (wrap64 (wrap64 (a0 - 1) - Int.tmod a1 a0)) (wrap64 (a0 - 1)) else slices_Insert_int_int.f l (Int.tmod a1 a0) (wrap64 (a0 - 1))))
theorem impl_trotterAt.calls (k : Nat) : ∀ (a0 : Int) (a1 : Int) (r : List Int) (w : World) (h : impl_trotterAt.f k a0 a1 = some r),
  Calls Tryz.prog 47 #[.int .i64 a0, .int .i64 a1] w fun e w' => ∃ v0_ : Value, e = .returned (v0_) ∧ Kd.R (Kd.int .i64) 3 w' w.heap.size (fun _ => True) v0_ r ∧ Below w.heap.size w w' := by
 induction k with
 | zero => intro a0 a1 r w h; exact absurd h (by simp [impl_trotterAt.f])
 | succ k ih =>
  intro a0 a1 r w h
  simp only [impl_trotterAt.f] at h
  by_cases c : a0 = 0
  ·rw [if_pos c] at h
   have ae : (a0 == 0) = true := beq_iff_eq.mpr c
   obtain rfl := Option.some.inj h
   clear h c
   go_enter Tryz.func47, Tryz.ntmps47
   go_wp2
   go_ret
   exact ⟨_, rfl, Kd.R_of_own (World.ownsRow_made w #[] 0 (Nat.le_refl _) (by decide) rfl) (fun _ _ => trivial), Z5 (Below.refl _ _) _⟩
  ·rw [if_neg c] at h
   have ae : (a0 == 0) = false := beq_eq_false_iff_ne.mpr c
   obtain ⟨l, hl, h⟩ := Z33.mp h
   have HL := Ya hl
   clear hl
   by_cases c5 : Int.tmod (wrap64 (Int.tdiv a1 a0)) 2 = 0
   ·rw [if_pos c5] at h
    have af : ((Int.tmod (wrap64 (Int.tdiv a1 a0)) 2) == 0) = true := beq_iff_eq.mpr c5
    have H := Ya h
    clear h c5
    go_enter Tryz.func47, Tryz.ntmps47
    go_wp2_with fail
    go_region
    all_goals
     go_wp2_with fail
     refine (ih _ _ l _ HL.1).mono ?_
     rintro e w1 ⟨v1, rfl, aa, hb1⟩
     obtain ⟨A1, c1, rfl⟩ := Z15 aa
     have ac := Ya (Kd.R_lower aa (Nat.le_refl w.heap.size))
     have ab := Ya (show Below w.heap.size w w1 from (below_drew (Below.refl _ _)).trans hb1)
     clear aa hb1
     go_wp2_with fail
     refine (slices_Insert_int_int.calls l r (wrap64 (wrap64 (a0 - 1) - Int.tmod a1 a0)) (wrap64 (a0 - 1)) A1 c1 w1.heap.size 1 w.heap.size w.heap.size (fun _ => True) (fun _ => True) _ (Z9 ac.1 _) (Kd.R_of_own (World.ownsRow_lit w1 #[.int .i64 (wrap64 (a0 - 1))] 1 ab.1.size (by decide) rfl) (fun _ _ => trivial)) ?_ H.1 (Z5 ab.1 _).size).mono ?_
     ·intro a ha
      subst ha
      have := Z14 ac.1 a.block rfl
      omega
     ·rintro e w2 ⟨v2, rfl, ad, hb2⟩
      have ag := Ya ad
      have ah := Ya ((Z5 ab.1 _).trans hb2)
      clear ad hb2
      go_wp2
      go_ret
      exact ⟨_, rfl, ag.1, ah.1⟩
   ·rw [if_neg c5] at h
    have af : ((Int.tmod (wrap64 (Int.tdiv a1 a0)) 2) == 0) = false := beq_eq_false_iff_ne.mpr c5
    have H := Ya h
    clear h c5
    go_enter Tryz.func47, Tryz.ntmps47
    go_wp2_with fail
    go_region
    all_goals
     go_wp2_with fail
     refine (ih _ _ l _ HL.1).mono ?_
     rintro e w1 ⟨v1, rfl, aa, hb1⟩
     obtain ⟨A1, c1, rfl⟩ := Z15 aa
     have ac := Ya (Kd.R_lower aa (Nat.le_refl w.heap.size))
     have ab := Ya (show Below w.heap.size w w1 from (below_drew (Below.refl _ _)).trans hb1)
     clear aa hb1
     go_wp2_with fail
     refine (slices_Insert_int_int.calls l r (Int.tmod a1 a0) (wrap64 (a0 - 1)) A1 c1 w1.heap.size 1 w.heap.size w.heap.size (fun _ => True) (fun _ => True) _ (Z9 ac.1 _) (Kd.R_of_own (World.ownsRow_lit w1 #[.int .i64 (wrap64 (a0 - 1))] 1 ab.1.size (by decide) rfl) (fun _ _ => trivial)) ?_ H.1 (Z5 ab.1 _).size).mono ?_
     ·intro a ha
      subst ha
      have := Z14 ac.1 a.block rfl
      omega
     ·rintro e w2 ⟨v2, rfl, ad, hb2⟩
      have ag := Ya ad
      have ah := Ya ((Z5 ab.1 _).trans hb2)
      clear ad hb2
      go_wp2
      go_ret
      exact ⟨_, rfl, ag.1, ah.1⟩
def impl_TrotterAt.f (k : Nat) (a0 : Int) (a1 : Int) : Option (List Int × Bool) := (impl_within.f a0 0 12).bind fun aa => (if aa = true then ((impl_factorial.f k a0).bind fun ab => ((impl_within.f a1 0 (wrap64 (ab - 1))).bind fun ac => (if ac = true then ((impl_trotterAt.f k a0 a1).bind fun ad => (some (ad, true))) else (some (([] : List Int), false))))) else (some (([] : List Int), false)))
theorem impl_TrotterAt.calls (k : Nat) (a0 : Int) (a1 : Int) (r1 : List Int) (r2 : Bool) (w : World) (h : impl_TrotterAt.f k a0 a1 = some (r1, r2)) :
  Calls Tryz.prog 18 #[.int .i64 a0, .int .i64 a1] w fun e w' => ∃ v0_ : Value, e = .returned (.tuple #[v0_, .bool r2]) ∧ Kd.R (Kd.int .i64) 3 w' w.heap.size (fun _ => True) v0_ r1 ∧ Below w.heap.size w w' := by
 have HB := Ya (Below.refl w.heap.size w)
 have H : ((impl_within.f a0 0 12).bind fun ac => (if ac = true then ((impl_factorial.f k a0).bind fun aa => ((impl_within.f a1 0 (wrap64 (aa - 1))).bind fun ad => (if ad = true then ((impl_trotterAt.f k a0 a1).bind fun ab => (some (ab, true))) else (some (([] : List Int), false))))) else (some (([] : List Int), false)))) = some (r1, r2) := h
 clear h
 replace H := YB H
 obtain ⟨ac, A3, H⟩ := H
 replace H := YC H
 obtain ⟨rfl, H⟩ | ⟨rfl, H⟩ := H
 ·replace H := YB H
  obtain ⟨aa, A5, H⟩ := H
  replace H := YB H
  obtain ⟨ad, A6, H⟩ := H
  replace H := YC H
  obtain ⟨rfl, H⟩ | ⟨rfl, H⟩ := H
  ·replace H := YB H
   obtain ⟨ab, A8, H⟩ := H
   simp only [Option.some.injEq, Prod.mk.injEq] at H
   obtain ⟨rfl, rfl⟩ := H
   go_enter Tryz.func18, Tryz.ntmps18
   go_wp2_with (first | ((with_reducible refine gate_callee (f := 42) rfl ?_); refine Yz 7 Tryz.func42 #[.int .i64 a0, .int .i64 0, .int .i64 12] ?_; (with_reducible refine (impl_within.calls a0 0 12 true _ A3.1).mono ?_); rintro e w' ⟨rfl, ⟨nd, rfl⟩⟩; refine ⟨_, rfl, ?_⟩) | (go_at_call 43; (with_reducible refine (impl_factorial.calls k a0 aa _ A5.1).mono ?_); rintro e w' ⟨rfl, ⟨nd, rfl⟩⟩) | (go_at_call 42; (with_reducible refine (impl_within.calls a1 0 (wrap64 (aa - 1)) true _ A6.1).mono ?_); rintro e w' ⟨rfl, ⟨nd, rfl⟩⟩) | ((with_reducible refine gate_callee (f := 47) rfl ?_); refine Yz 19 Tryz.func47 #[.int .i64 a0, .int .i64 a1] ?_; (with_reducible refine (impl_trotterAt.calls k a0 a1 ab _ A8.1).mono ?_); rintro e w9 ⟨ag, rfl, af, hb⟩; refine ⟨_, rfl, ?_⟩; have ae := Yl af; replace HB := Yh hb; (try clear hb af)))
   go_ret2
   exact ⟨_, Q2, by (with_reducible repeat (first | apply Z9 | apply Z10 | apply Z11)); exact ae.1, Q12⟩
  ·simp only [Option.some.injEq, Prod.mk.injEq] at H
   obtain ⟨rfl, rfl⟩ := H
   go_enter Tryz.func18, Tryz.ntmps18
   go_wp2_with (first | ((with_reducible refine gate_callee (f := 42) rfl ?_); refine Yz 7 Tryz.func42 #[.int .i64 a0, .int .i64 0, .int .i64 12] ?_; (with_reducible refine (impl_within.calls a0 0 12 true _ A3.1).mono ?_); rintro e w' ⟨rfl, ⟨nd, rfl⟩⟩; refine ⟨_, rfl, ?_⟩) | (go_at_call 43; (with_reducible refine (impl_factorial.calls k a0 aa _ A5.1).mono ?_); rintro e w' ⟨rfl, ⟨nd, rfl⟩⟩) | (go_at_call 42; (with_reducible refine (impl_within.calls a1 0 (wrap64 (aa - 1)) false _ A6.1).mono ?_); rintro e w' ⟨rfl, ⟨nd, rfl⟩⟩))
   go_ret2
   exact ⟨_, Q2, Q3, Q12⟩
 ·simp only [Option.some.injEq, Prod.mk.injEq] at H
  obtain ⟨rfl, rfl⟩ := H
  go_enter Tryz.func18, Tryz.ntmps18
  go_wp2_with (first | ((with_reducible refine gate_callee (f := 42) rfl ?_); refine Yz 7 Tryz.func42 #[.int .i64 a0, .int .i64 0, .int .i64 12] ?_; (with_reducible refine (impl_within.calls a0 0 12 false _ A3.1).mono ?_); rintro e w' ⟨rfl, ⟨nd, rfl⟩⟩; refine ⟨_, rfl, ?_⟩))
  go_ret2
  exact ⟨_, Q2, Q3, Q12⟩
def impl_NextTrotter.l0 : Nat → List Int → List Int → Int → Option (List Int × Int × Bool)
 | 0, _, _, _ => none
 | k + 1, x0, x7, x9 => if 0 ≤ x9 then (if x9 < (x0.length : Int) then (if x9 < (x7.length : Int) then (if (rd x0 x9) = (rd x7 x9) then (impl_NextTrotter.l0 k x0 x7 (wrap64 (x9 + 1))) else (some (x7, x9, true))) else (none)) else (none)) else (none)
def impl_NextTrotter.f (k : Nat) (l0 : List Int) : Option (List Int × Int × Bool) := (impl_TrotterRank.f k l0).bind fun aa => (if aa.2 = true then ((impl_TrotterAt.f k (l0.length : Int) (wrap64 (aa.1 + 1))).bind fun ab => (if ab.2 = true then (impl_NextTrotter.l0 k l0 ab.1 0) else (some (([] : List Int), 0, false)))) else (some (([] : List Int), 0, false)))
theorem impl_NextTrotter.calls (k : Nat) (A0 : Option Addr) (c0 : Nat) (l0 : List Int) (r1 : List Int) (r2 : Int) (r3 : Bool) (w : World) (az : Kd.C (Kd.int .i64) w A0 l0.length l0) (aA : l0.length ≤ c0) (h : impl_NextTrotter.f k l0 = some (r1, r2, r3)) :
  Calls Tryz.prog 13 #[.slice A0 l0.length c0] w fun e w' => ∃ v0_ : Value, e = .returned (.tuple #[v0_, .int .i64 r2, .bool r3]) ∧ Kd.R (Kd.int .i64) 3 w' w.heap.size (fun _ => True) v0_ r1 ∧ Below w.heap.size w w' := by
 have HR0 := Ya az
 have am := Ya aA
 clear az aA
 have HB := Ya (Below.refl w.heap.size w)
 have H : ((impl_TrotterRank.f k l0).bind fun ao => (if ao.2 = true then ((impl_TrotterAt.f k (l0.length : Int) (wrap64 (ao.1 + 1))).bind fun ap => (if ap.2 = true then (impl_NextTrotter.l0 k l0 ap.1 0) else (some (([] : List Int), 0, false)))) else (some (([] : List Int), 0, false)))) = some (r1, r2, r3) := h
 clear h
 replace H := YB H
 obtain ⟨⟨ad, aF⟩, A2, H⟩ := H
 dsimp only at H
 replace H := YC H
 obtain ⟨rfl, H⟩ | ⟨rfl, H⟩ := H
 ·replace H := YB H
  obtain ⟨⟨ac, aG⟩, A4, H⟩ := H
  dsimp only at H
  replace H := YC H
  obtain ⟨rfl, H⟩ | ⟨rfl, H⟩ := H
  ·have H' := Ya H
   clear H
   go_enter Tryz.func13, Tryz.ntmps13
   go_wp2_with (first | (go_at_call 12; (with_reducible refine (impl_TrotterRank.calls k _ _ l0 ad true _ (Yc HR0.1) am.1 A2.1).mono ?_); rintro e w6 ⟨rfl, hb⟩; replace HB := Yh hb; (try clear hb)) | (go_at_call 18; (with_reducible refine (impl_TrotterAt.calls k (l0.length : Int) (wrap64 (ad + 1)) ac true _ A4.1).mono ?_); rintro e w7 ⟨ak, rfl, af, hb⟩; have ae := Yl af; replace HB := Yh hb; (try clear hb af)))
   repeat (go_quiet (first | (go_at_call 12; (with_reducible refine (impl_TrotterRank.calls k _ _ l0 ad true _ (Yc HR0.1) am.1 A2.1).mono ?_); rintro e w6 ⟨rfl, hb⟩; replace HB := Yh hb; (try clear hb)) | (go_at_call 18; (with_reducible refine (impl_TrotterAt.calls k (l0.length : Int) (wrap64 (ad + 1)) ac true _ A4.1).mono ?_); rintro e w7 ⟨ak, rfl, af, hb⟩; have ae := Yl af; replace HB := Yh hb; (try clear hb af))); try go_wp2_with (first | (go_at_call 12; (with_reducible refine (impl_TrotterRank.calls k _ _ l0 ad true _ (Yc HR0.1) am.1 A2.1).mono ?_); rintro e w6 ⟨rfl, hb⟩; replace HB := Yh hb; (try clear hb)) | (go_at_call 18; (with_reducible refine (impl_TrotterAt.calls k (l0.length : Int) (wrap64 (ad + 1)) ac true _ A4.1).mono ?_); rintro e w7 ⟨ak, rfl, af, hb⟩; have ae := Yl af; replace HB := Yh hb; (try clear hb af))))
   go_loopg [9] k (fun kq v9 w' => ∃ (aa : Int), v9 = .int .i64 aa ∧ Aside0 (impl_NextTrotter.l0 kq l0 ac aa = some (r1, r2, r3)) ∧ Aside0 (kq ≤ k) ∧ Aside0 (Kd.R (Kd.int .i64) 3 w' w.heap.size (fun _ => True) ak ac) ∧ Aside0 (Below w.heap.size w w'))
   case atStart => exact ⟨(0), Q17, H', ⟨Nat.le_refl _⟩, ⟨by (with_reducible repeat (first | apply Z9 | apply Z10 | apply Z11)); exact ae.1⟩, ⟨Q12⟩⟩
   case round =>
    clear H'
    obtain ⟨aa, rfl, HA, HK1, al, HB⟩ := hrel
    cases gk with
    | zero => exact absurd HA.1 (by simp [impl_NextTrotter.l0])
    | succ k1 =>
     have H := HA.1
     clear HA
     simp only [impl_NextTrotter.l0] at H
     by_cases c8 : 0 ≤ aa
     ·rw [if_pos c8] at H
      have aH := Z35 c8
      clear c8
      by_cases c9 : aa < (l0.length : Int)
      ·rw [if_pos c9] at H
       have aI := Z35 c9
       clear c9
       by_cases c10 : aa < (ac.length : Int)
       ·rw [if_pos c10] at H
        have aB := Z35 c10
        clear c10
        by_cases aq : (rd l0 aa) = (rd ac aa)
        ·rw [if_pos aq] at H
         have av : ((rd l0 aa) == (rd ac aa)) = true := beq_iff_eq.mpr aq
         have aw : ((rd l0 aa) != (rd ac aa)) = false := bne_eq_false_iff_eq.mpr aq
         clear aq
         have H' := Ya H
         clear H
         have ag : 0 ≤ (aa : Int) := Z27 Q5
         have ah : aa < (l0.length : Int) := Z27 Q5
         obtain ⟨ax, ar, ab⟩ := Kd.at_int HR0.1 aa ag ah
         cases ar
         try replace ab := (HB.1.cell (World.block_lt_of_cell? w _ ab)).trans ab
         replace ag := eq_true ag
         replace ah := eq_true ah
         obtain ⟨aJ, aK, rfl⟩ := Z15 al.1
         have ai : 0 ≤ (aa : Int) := Z27 Q5
         have aj : aa < (ac.length : Int) := Z27 Q5
         obtain ⟨ay, au, an⟩ := Kd.at_int (Kd.R_reads' al.1).2.2 aa ai aj
         cases au
         replace ai := eq_true ai
         replace aj := eq_true aj
         go_wp2
         repeat (go_quiet (fail); try go_wp2)
         go_roundg k1
         case measure => have := HK1.1; omega
         case rel => exact ⟨(wrap64 (aa + 1)), Q17, H', ⟨Q35⟩, ⟨by (with_reducible repeat (first | apply Z9 | apply Z10 | apply Z11)); exact al.1⟩, ⟨Q12⟩⟩
        ·rw [if_neg aq] at H
         have av : ((rd l0 aa) == (rd ac aa)) = false := beq_eq_false_iff_ne.mpr aq
         have aw : ((rd l0 aa) != (rd ac aa)) = true := bne_iff_ne.mpr aq
         simp only [Option.some.injEq, Prod.mk.injEq] at H
         obtain ⟨rfl, rfl, rfl⟩ := H
         have ag : 0 ≤ (aa : Int) := Z27 Q5
         have ah : aa < (l0.length : Int) := Z27 Q5
         obtain ⟨ax, ar, ab⟩ := Kd.at_int HR0.1 aa ag ah
         cases ar
         try replace ab := (HB.1.cell (World.block_lt_of_cell? w _ ab)).trans ab
         replace ag := eq_true ag
         replace ah := eq_true ah
         obtain ⟨aL, aM, rfl⟩ := Z15 al.1
         have ai : 0 ≤ (aa : Int) := Z27 Q5
         have aj : aa < (ac.length : Int) := Z27 Q5
         obtain ⟨ay, au, an⟩ := Kd.at_int (Kd.R_reads' al.1).2.2 aa ai aj
         cases au
         replace ai := eq_true ai
         replace aj := eq_true aj
         go_wp2
         repeat (go_quiet (fail); try go_wp2)
         go_ret3
         exact ⟨_, Q2, by (with_reducible repeat (first | apply Z9 | apply Z10 | apply Z11)); exact al.1, Q12⟩
       ·rw [if_neg c10] at H
        exact absurd H (by simp)
      ·rw [if_neg c9] at H
       exact absurd H (by simp)
     ·rw [if_neg c8] at H
      exact absurd H (by simp)
  ·simp only [Option.some.injEq, Prod.mk.injEq] at H
   obtain ⟨rfl, rfl, rfl⟩ := H
   go_enter Tryz.func13, Tryz.ntmps13
   go_wp2_with (first | (go_at_call 12; (with_reducible refine (impl_TrotterRank.calls k _ _ l0 ad true _ (Yc HR0.1) am.1 A2.1).mono ?_); rintro e aC ⟨rfl, hb⟩; replace HB := Yh hb; (try clear hb)) | (go_at_call 18; (with_reducible refine (impl_TrotterAt.calls k (l0.length : Int) (wrap64 (ad + 1)) ac false _ A4.1).mono ?_); rintro e aD ⟨ak, rfl, af, hb⟩; have ae := Yl af; replace HB := Yh hb; (try clear hb af)))
   repeat (go_quiet (first | (go_at_call 12; (with_reducible refine (impl_TrotterRank.calls k _ _ l0 ad true _ (Yc HR0.1) am.1 A2.1).mono ?_); rintro e aC ⟨rfl, hb⟩; replace HB := Yh hb; (try clear hb)) | (go_at_call 18; (with_reducible refine (impl_TrotterAt.calls k (l0.length : Int) (wrap64 (ad + 1)) ac false _ A4.1).mono ?_); rintro e aD ⟨ak, rfl, af, hb⟩; have ae := Yl af; replace HB := Yh hb; (try clear hb af))); try go_wp2_with (first | (go_at_call 12; (with_reducible refine (impl_TrotterRank.calls k _ _ l0 ad true _ (Yc HR0.1) am.1 A2.1).mono ?_); rintro e aC ⟨rfl, hb⟩; replace HB := Yh hb; (try clear hb)) | (go_at_call 18; (with_reducible refine (impl_TrotterAt.calls k (l0.length : Int) (wrap64 (ad + 1)) ac false _ A4.1).mono ?_); rintro e aD ⟨ak, rfl, af, hb⟩; have ae := Yl af; replace HB := Yh hb; (try clear hb af))))
   go_ret3
   exact ⟨_, Q2, Q3, Q12⟩
 ·simp only [Option.some.injEq, Prod.mk.injEq] at H
  obtain ⟨rfl, rfl, rfl⟩ := H
  go_enter Tryz.func13, Tryz.ntmps13
  go_wp2_with (first | (go_at_call 12; (with_reducible refine (impl_TrotterRank.calls k _ _ l0 ad false _ (Yc HR0.1) am.1 A2.1).mono ?_); rintro e aE ⟨rfl, hb⟩; replace HB := Yh hb; (try clear hb)))
  repeat (go_quiet (first | (go_at_call 12; (with_reducible refine (impl_TrotterRank.calls k _ _ l0 ad false _ (Yc HR0.1) am.1 A2.1).mono ?_); rintro e aE ⟨rfl, hb⟩; replace HB := Yh hb; (try clear hb))); try go_wp2_with (first | (go_at_call 12; (with_reducible refine (impl_TrotterRank.calls k _ _ l0 ad false _ (Yc HR0.1) am.1 A2.1).mono ?_); rintro e aE ⟨rfl, hb⟩; replace HB := Yh hb; (try clear hb))))
  go_ret3
  exact ⟨_, Q2, Q3, Q12⟩
end Go.Proofs.YtapbbmicfkbafaaGreat.MFnSwappers
