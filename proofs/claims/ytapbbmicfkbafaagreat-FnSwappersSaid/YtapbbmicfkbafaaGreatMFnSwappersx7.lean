import Derived.Test.YtapbbmicfkbafaaGreatMFnSwappersx0
import Derived.Test.YtapbbmicfkbafaaGreatMFnSwappersx1
import Derived.Test.YtapbbmicfkbafaaGreatMFnSwappersx2
import Derived.Test.YtapbbmicfkbafaaGreatMFnSwappersx3
import Derived.Test.YtapbbmicfkbafaaGreatMFnSwappersx4
import Derived.Test.YtapbbmicfkbafaaGreatMFnSwappersx5
import Derived.Test.YtapbbmicfkbafaaGreatMFnSwappersx6
namespace Go.Proofs.YtapbbmicfkbafaaGreat.MFnSwappers
open Go.RowKit Go.Proofs.YtapbbmicfkbafaaGreatW.PrintWords Go.Proofs.YtapbbmicfkbafaaGreatW.PrintLast Go.Proofs.YtapbbmicfkbafaaGreatW.PrintMore
attribute [local go_sem] max2_int min2_int max_two min_two max_three min_three max_four min_four   
set_option linter.unusedVariables false
set_option maxHeartbeats 16000000
set_option maxRecDepth 100000
set_option linter.unusedSimpArgs false
def spec_l1Cur_rank.f (ae : List Int) (af : Int) (ag : Int) (a1 : Int) : Option (Int × Int × Int) := (spec_l1Cur_pick.f ae af ag 12).bind fun aa => (if aa.1 = 0 then ((spec_l1Cur_among.f ae aa.2.1 aa.2.2 (([(-1), a1, wrap64 (a1 + 1), 4611686018427387904] : List Int))).bind fun ab => (some (ab.1, ab.2.1, ab.2.2))) else (if aa.1 = 1 then (some (wrap64 (a1 - 1), aa.2.1, aa.2.2)) else (if aa.1 = 2 then (some (0, aa.2.1, aa.2.2)) else (if a1 < 2 then (some (0, aa.2.1, aa.2.2)) else ((spec_l1Cur_pick.f ae aa.2.1 aa.2.2 60000).bind fun ac => ((spec_l1Cur_pick.f ae ac.2.1 ac.2.2 60000).bind fun ad => (if a1 = 0 then (none) else (some (Int.tmod (wrap64 ((wrap64 (ac.1 * 60000)) + ad.1)) a1, ad.2.1, ad.2.2)))))))))
theorem spec_l1Cur_rank.calls (g : Nat) (ae : List Int) (aj : Int) (ak : Int) (a1 : Int) (r1 : Int) (r2 : Int) (r3 : Int) (w0 w : World) (hI : IsS66 w0 w g ae aj ak) (hB : Below w0.heap.size w0 w) (h : spec_l1Cur_rank.f ae aj ak a1 = some (r1, r2, r3)) :
  Calls Tryz.prog 40 #[.pointer (some ⟨g, 0, none⟩), .int .i64 a1] w fun e w' => e = .returned (.int .i64 r1) ∧ IsS66 w0 w' g ae r2 r3 ∧ Below w0.heap.size w0 w' ∧ KeepBut w w' g none := by
 have HI0 := Ya hI
 have HK := Ya (KeepBut.refl w g none)
 have HL := Ya hB.size
 clear hI
 have aV := Ya hB.size
 have HB := Ya hB
 clear hB
 have H : ((spec_l1Cur_pick.f ae aj ak 12).bind fun ac => (if ac.1 = 0 then ((spec_l1Cur_among.f ae ac.2.1 ac.2.2 (([(-1), a1, wrap64 (a1 + 1), 4611686018427387904] : List Int))).bind fun af => (some (af.1, af.2.1, af.2.2))) else (if ac.1 = 1 then (some (wrap64 (a1 - 1), ac.2.1, ac.2.2)) else (if ac.1 = 2 then (some (0, ac.2.1, ac.2.2)) else (if a1 < 2 then (some (0, ac.2.1, ac.2.2)) else ((spec_l1Cur_pick.f ae ac.2.1 ac.2.2 60000).bind fun am => ((spec_l1Cur_pick.f ae am.2.1 am.2.2 60000).bind fun an => (if a1 = 0 then (none) else (some (Int.tmod (wrap64 ((wrap64 (am.1 * 60000)) + an.1)) a1, an.2.1, an.2.2)))))))))) = some (r1, r2, r3) := h
 clear h
 replace H := YB H
 obtain ⟨⟨ad, ah, ai⟩, A3, H⟩ := H
 dsimp only at H
 by_cases c4 : ad = 0
 ·rw [if_pos c4] at H
  have aF : (ad == 0) = true := beq_iff_eq.mpr c4
  have aG : (ad != 0) = false := bne_eq_false_iff_eq.mpr c4
  clear c4
  obtain ⟨ap, al⟩ : ∃ y_ : List Int, y_ = (([(-1), a1, wrap64 (a1 + 1), 4611686018427387904] : List Int)) := ⟨_, rfl⟩
  replace H : ((spec_l1Cur_among.f ae ah ai ap).bind fun af => (some (af.1, af.2.1, af.2.2))) = some (r1, r2, r3) := by first | (rw [al]; with_reducible exact H) | (have H2_ := (Option.bind_some _ _).symm.trans H; rw [al]; with_reducible exact H2_) | (have H2_ := (Option.bind_some _ _).symm.trans H; with_reducible exact H2_) | with_reducible exact H | (rw [al]; exact H) | exact H
  have ao := Ya al
  clear al
  replace H := YB H
  obtain ⟨⟨aH, aI, aJ⟩, A5, H⟩ := H
  dsimp only at H
  simp only [Option.some.injEq, Prod.mk.injEq] at H
  obtain ⟨rfl, rfl, rfl⟩ := H
  go_enter Tryz.func40, Tryz.ntmps40
  go_wp2_with (first | ((with_reducible refine gate_callee (f := 72) rfl ?_); refine Yz 6 Tryz.func72 #[.pointer (some ⟨g, 0, none⟩), .int .i64 12] ?_; (with_reducible refine (spec_l1Cur_pick.calls g ae aj ak 12 ad ah ai w0 _ ?aa ?ab A3.1).mono ?_); (case aa => exact Q1); (case ab => exact Q6); rintro e w6 ⟨rfl, hi, hb, hk⟩; refine ⟨_, rfl, ?_⟩; replace HK := Ya (KeepBut.trans Q4 hk (.inl rfl)); replace HB := Ya hb; replace HI0 := Ya hi; (try clear hb hk hi)) | ((with_reducible refine gate_dst (N := 13) rfl ?_); refine Kd.R_lit (Kd.int .i64) _ 3 ?hg (N := 13) ?hd (xs := ([(-1), a1, wrap64 (a1 + 1), 4611686018427387904] : List Int)) (inner := [.int .i64 (-1), .int .i64 a1, .int .i64 (wrap64 (a1 + 1)), .int .i64 4611686018427387904]) (ok := fun _ => True) (okp := fun _ => True) ?hr ?hp (fun _ hk => hk) trivial (Below.refl _ _) (Nat.le_refl _) (by simp) ?_; (case hd => rfl); (case hg => rfl); (case hr => first | (go_simp; done) | (go_simp; rfl)); (case hp => exact (Reps.one (show Kd.M (Kd.int .i64) _ _ _ (-1) [.int .i64 (-1)] from rfl) (Reps.one (show Kd.M (Kd.int .i64) _ _ _ a1 [.int .i64 a1] from rfl) (Reps.one (show Kd.M (Kd.int .i64) _ _ _ (wrap64 (a1 + 1)) [.int .i64 (wrap64 (a1 + 1))] from rfl) (Reps.one (show Kd.M (Kd.int .i64) _ _ _ 4611686018427387904 [.int .i64 4611686018427387904] from rfl) (Reps.none _ _)))))); intro aQ w7 av hb hg_ hnew_; clear hg_ hnew_; (first | rw [← ao.1] at av | (simp only [Int.reduceToNat] at av; rw [← ao.1] at av)); have ag := Ya (Kd.R_lower av (keep_size (w := w) (g := g) (row := none) Q4)); replace HK := Ya (KeepBut.trans Q4 (KeepBut.of_below hb g none) (.inl rfl)); replace HB := Ya (Z8 Q6 hb); replace HI0 := Ya (IsS66.below Q1 hb); clear hb av; obtain ⟨aR, aS, rfl⟩ := Z15 ag.1) | ((with_reducible refine gate_callee (f := 39) rfl ?_); refine Yz 14 Tryz.func39 #[.pointer (some ⟨g, 0, none⟩), .slice aR ap.length aS] ?_; (with_reducible refine (spec_l1Cur_among.calls g ae ah ai _ _ ap aH aI aJ w0 _ ?aa ?ab (YX ag) (YL ag) ?aw A5.1).mono ?_); (case aa => exact Q1); (case ab => exact Q6); (case aw => exact far_slice (IsS66.own_ne HI0.1 ag.1 (by decide))); rintro e aW ⟨rfl, hi, hb, hk⟩; refine ⟨_, rfl, ?_⟩; replace ag := YK66 (show IsS66 w0 _ g ae ah ai from Q1) (Yr ag.1) hk; replace HK := Ya (KeepBut.trans Q4 hk (.inl rfl)); replace HB := Ya hb; replace HI0 := Ya hi; (try clear hb hk hi)))
  go_ret
  exact ⟨Q2, Q13, Q15, Q14⟩
 ·rw [if_neg c4] at H
  have aF : (ad == 0) = false := beq_eq_false_iff_ne.mpr c4
  have aG : (ad != 0) = true := bne_iff_ne.mpr c4
  by_cases aq : ad = 1
  ·rw [if_pos aq] at H
   have ax : (ad == 1) = true := beq_iff_eq.mpr aq
   have ay : (ad != 1) = false := bne_eq_false_iff_eq.mpr aq
   clear aq
   simp only [Option.some.injEq, Prod.mk.injEq] at H
   obtain ⟨rfl, rfl, rfl⟩ := H
   go_enter Tryz.func40, Tryz.ntmps40
   go_wp2_with (first | ((with_reducible refine gate_callee (f := 72) rfl ?_); refine Yz 6 Tryz.func72 #[.pointer (some ⟨g, 0, none⟩), .int .i64 12] ?_; (with_reducible refine (spec_l1Cur_pick.calls g ae aj ak 12 ad ah ai w0 _ ?aa ?ab A3.1).mono ?_); (case aa => exact Q1); (case ab => exact Q6); rintro e aX ⟨rfl, hi, hb, hk⟩; refine ⟨_, rfl, ?_⟩; replace HK := Ya (KeepBut.trans Q4 hk (.inl rfl)); replace HB := Ya hb; replace HI0 := Ya hi; (try clear hb hk hi)))
   go_ret
   exact ⟨Q2, Q13, Q15, Q14⟩
  ·rw [if_neg aq] at H
   have ax : (ad == 1) = false := beq_eq_false_iff_ne.mpr aq
   have ay : (ad != 1) = true := bne_iff_ne.mpr aq
   by_cases ar : ad = 2
   ·rw [if_pos ar] at H
    have az : (ad == 2) = true := beq_iff_eq.mpr ar
    have aA : (ad != 2) = false := bne_eq_false_iff_eq.mpr ar
    clear ar
    simp only [Option.some.injEq, Prod.mk.injEq] at H
    obtain ⟨rfl, rfl, rfl⟩ := H
    go_enter Tryz.func40, Tryz.ntmps40
    go_wp2_with (first | ((with_reducible refine gate_callee (f := 72) rfl ?_); refine Yz 6 Tryz.func72 #[.pointer (some ⟨g, 0, none⟩), .int .i64 12] ?_; (with_reducible refine (spec_l1Cur_pick.calls g ae aj ak 12 ad ah ai w0 _ ?aa ?ab A3.1).mono ?_); (case aa => exact Q1); (case ab => exact Q6); rintro e aY ⟨rfl, hi, hb, hk⟩; refine ⟨_, rfl, ?_⟩; replace HK := Ya (KeepBut.trans Q4 hk (.inl rfl)); replace HB := Ya hb; replace HI0 := Ya hi; (try clear hb hk hi)))
    go_ret
    exact ⟨Q2, Q13, Q15, Q14⟩
   ·rw [if_neg ar] at H
    have az : (ad == 2) = false := beq_eq_false_iff_ne.mpr ar
    have aA : (ad != 2) = true := bne_iff_ne.mpr ar
    by_cases au : a1 < 2
    ·rw [if_pos au] at H
     have aB := Z35 au
     clear au
     simp only [Option.some.injEq, Prod.mk.injEq] at H
     obtain ⟨rfl, rfl, rfl⟩ := H
     go_enter Tryz.func40, Tryz.ntmps40
     go_wp2_with (first | ((with_reducible refine gate_callee (f := 72) rfl ?_); refine Yz 6 Tryz.func72 #[.pointer (some ⟨g, 0, none⟩), .int .i64 12] ?_; (with_reducible refine (spec_l1Cur_pick.calls g ae aj ak 12 ad ah ai w0 _ ?aa ?ab A3.1).mono ?_); (case aa => exact Q1); (case ab => exact Q6); rintro e aZ ⟨rfl, hi, hb, hk⟩; refine ⟨_, rfl, ?_⟩; replace HK := Ya (KeepBut.trans Q4 hk (.inl rfl)); replace HB := Ya hb; replace HI0 := Ya hi; (try clear hb hk hi)))
     go_ret
     exact ⟨Q2, Q13, Q15, Q14⟩
    ·rw [if_neg au] at H
     have aB := Z34 au
     clear au
     replace H := YB H
     obtain ⟨⟨aK, aC, aD⟩, aT, H⟩ := H
     dsimp only at H
     replace H := YB H
     obtain ⟨⟨aL, aM, aN⟩, aU, H⟩ := H
     dsimp only at H
     by_cases aE : a1 = 0
     ·rw [if_pos aE] at H
      exact absurd H (by simp)
     ·rw [if_neg aE] at H
      have aO : (a1 == 0) = false := beq_eq_false_iff_ne.mpr aE
      have aP : (a1 != 0) = true := bne_iff_ne.mpr aE
      simp only [Option.some.injEq, Prod.mk.injEq] at H
      obtain ⟨rfl, rfl, rfl⟩ := H
      go_enter Tryz.func40, Tryz.ntmps40
      go_wp2_with (first | ((with_reducible refine gate_callee (f := 72) rfl ?_); refine Yz 6 Tryz.func72 #[.pointer (some ⟨g, 0, none⟩), .int .i64 12] ?_; (with_reducible refine (spec_l1Cur_pick.calls g ae aj ak 12 ad ah ai w0 _ ?aa ?ab A3.1).mono ?_); (case aa => exact Q1); (case ab => exact Q6); rintro e a0 ⟨rfl, hi, hb, hk⟩; refine ⟨_, rfl, ?_⟩; replace HK := Ya (KeepBut.trans Q4 hk (.inl rfl)); replace HB := Ya hb; replace HI0 := Ya hi; (try clear hb hk hi)) | ((with_reducible refine gate_callee (f := 72) rfl ?_); refine Yz 24 Tryz.func72 #[.pointer (some ⟨g, 0, none⟩), .int .i64 60000] ?_; (with_reducible refine (spec_l1Cur_pick.calls g ae ah ai 60000 aK aC aD w0 _ ?aa ?ab aT.1).mono ?_); (case aa => exact Q1); (case ab => exact Q6); rintro e a2 ⟨rfl, hi, hb, hk⟩; refine ⟨_, rfl, ?_⟩; replace HK := Ya (KeepBut.trans Q4 hk (.inl rfl)); replace HB := Ya hb; replace HI0 := Ya hi; (try clear hb hk hi)) | ((with_reducible refine gate_callee (f := 72) rfl ?_); refine Yz 27 Tryz.func72 #[.pointer (some ⟨g, 0, none⟩), .int .i64 60000] ?_; (with_reducible refine (spec_l1Cur_pick.calls g ae aC aD 60000 aL aM aN w0 _ ?aa ?ab aU.1).mono ?_); (case aa => exact Q1); (case ab => exact Q6); rintro e a3 ⟨rfl, hi, hb, hk⟩; refine ⟨_, rfl, ?_⟩; replace HK := Ya (KeepBut.trans Q4 hk (.inl rfl)); replace HB := Ya hb; replace HI0 := Ya hi; (try clear hb hk hi)))
      go_ret
      exact ⟨Q2, Q13, Q15, Q14⟩
def spec_DrawSwapperAt.f (k : Nat) (l0 : List Int) : Option (Int × Int) := (spec_l1Cur_among.f l0 0 0 (([1, 2, 3, 4, 5, 4, 5, 7, 8, 0] : List Int))).bind fun aa => ((spec_raFactorial.f k aa.1).bind fun ac => ((spec_l1Cur_rank.f l0 aa.2.1 aa.2.2 ac).bind fun ab => (some (aa.1, ab.1))))
theorem spec_DrawSwapperAt.calls (k : Nat) (A0 : Option Addr) (c0 : Nat) (l0 : List Int) (r1 : Int) (r2 : Int) (w : World) (au : Kd.C (Kd.int .u8) w A0 l0.length l0) (av : l0.length ≤ c0) (h : spec_DrawSwapperAt.f k l0 = some (r1, r2)) :
  Calls Tryz.prog 15 #[.slice A0 l0.length c0] w fun e w' => e = .returned (.tuple #[.int .i64 r1, .int .i64 r2]) ∧ Below w.heap.size w w' := by
 have hu66 := Tryz.underlying66
 have HR0 := Ya au
 have az := Ya av
 clear au av
 have HB := Ya (Below.refl w.heap.size w)
 have H : ((spec_l1Cur_among.f l0 0 0 (([1, 2, 3, 4, 5, 4, 5, 7, 8, 0] : List Int))).bind fun aa => ((spec_raFactorial.f k aa.1).bind fun ae => ((spec_l1Cur_rank.f l0 aa.2.1 aa.2.2 ae).bind fun af => (some (aa.1, af.1))))) = some (r1, r2) := h
 clear h
 obtain ⟨aj, ad⟩ : ∃ y_ : List Int, y_ = (([1, 2, 3, 4, 5, 4, 5, 7, 8, 0] : List Int)) := ⟨_, rfl⟩
 replace H : ((spec_l1Cur_among.f l0 0 0 aj).bind fun aa => ((spec_raFactorial.f k aa.1).bind fun ae => ((spec_l1Cur_rank.f l0 aa.2.1 aa.2.2 ae).bind fun af => (some (aa.1, af.1))))) = some (r1, r2) := by first | (rw [ad]; with_reducible exact H) | (have H2_ := (Option.bind_some _ _).symm.trans H; rw [ad]; with_reducible exact H2_) | (have H2_ := (Option.bind_some _ _).symm.trans H; with_reducible exact H2_) | with_reducible exact H | (rw [ad]; exact H) | exact H
 have ai := Ya ad
 clear ad
 replace H := YB H
 obtain ⟨⟨ak, al, am⟩, A2, H⟩ := H
 dsimp only at H
 replace H := YB H
 obtain ⟨ae, A3, H⟩ := H
 replace H := YB H
 obtain ⟨⟨ap, aq, ar⟩, A4, H⟩ := H
 dsimp only at H
 simp only [Option.some.injEq, Prod.mk.injEq] at H
 obtain ⟨rfl, rfl⟩ := H
 go_enter Tryz.func15, Tryz.ntmps15
 go_wp2_with (first | ((with_reducible refine gate_dst (N := 8) rfl ?_); refine Yx 8 #[.slice A0 l0.length c0, .int .i64 0, .int .u64 0] 66 ?_; intro ab hg w5 hbox hb; have HI677 := Ya ((show IsS66 w w5 ab l0 0 0 from ⟨_, _, hbox, (by rw [hg]; exact (Z7 Q0) : w.heap.size ≤ ab), HR0.1⟩)); replace HB := Yh hb; clear hb hbox hg) | ((with_reducible refine gate_dst (N := 10) rfl ?_); refine Kd.R_lit (Kd.int .i64) _ 3 ?hg (N := 10) ?hd (xs := ([1, 2, 3, 4, 5, 4, 5, 7, 8, 0] : List Int)) (inner := [.int .i64 1, .int .i64 2, .int .i64 3, .int .i64 4, .int .i64 5, .int .i64 4, .int .i64 5, .int .i64 7, .int .i64 8, .int .i64 0]) (ok := fun _ => True) (okp := fun _ => True) ?hr ?hp (fun _ hk => hk) trivial (Below.refl _ _) (Nat.le_refl _) (by simp) ?_; (case hd => rfl); (case hg => rfl); (case hr => first | (go_simp; done) | (go_simp; rfl)); (case hp => exact (Reps.one (show Kd.M (Kd.int .i64) _ _ _ 1 [.int .i64 1] from rfl) (Reps.one (show Kd.M (Kd.int .i64) _ _ _ 2 [.int .i64 2] from rfl) (Reps.one (show Kd.M (Kd.int .i64) _ _ _ 3 [.int .i64 3] from rfl) (Reps.one (show Kd.M (Kd.int .i64) _ _ _ 4 [.int .i64 4] from rfl) (Reps.one (show Kd.M (Kd.int .i64) _ _ _ 5 [.int .i64 5] from rfl) (Reps.one (show Kd.M (Kd.int .i64) _ _ _ 4 [.int .i64 4] from rfl) (Reps.one (show Kd.M (Kd.int .i64) _ _ _ 5 [.int .i64 5] from rfl) (Reps.one (show Kd.M (Kd.int .i64) _ _ _ 7 [.int .i64 7] from rfl) (Reps.one (show Kd.M (Kd.int .i64) _ _ _ 8 [.int .i64 8] from rfl) (Reps.one (show Kd.M (Kd.int .i64) _ _ _ 0 [.int .i64 0] from rfl) (Reps.none _ _)))))))))))); intro aw w6 an hb hg_ hnew_; clear hg_ hnew_; (first | rw [← ai.1] at an | (simp only [Int.reduceToNat] at an; rw [← ai.1] at an)); have ac := Ya (Kd.R_lower an (Z7 Q45)); replace HB := Ya (Z8 Q45 hb); replace HI677 := Ya (IsS66.below Q31 hb); clear hb an; obtain ⟨ax, ay, rfl⟩ := Z15 ac.1) | ((with_reducible refine gate_callee (f := 39) rfl ?_); refine Yz 11 Tryz.func39 #[.pointer (some ⟨ab, 0, none⟩), .slice ax aj.length ay] ?_; (with_reducible refine (spec_l1Cur_among.calls ab l0 0 0 _ _ aj ak al am w _ ?ag ?ah (YX ac) (YL ac) ?ao A2.1).mono ?_); (case ag => exact Q31); (case ah => exact Q45); (case ao => exact far_slice (IsS66.own_ne HI677.1 ac.1 (by decide))); rintro e w9 ⟨rfl, hi, hb, hk⟩; refine ⟨_, rfl, ?_⟩; replace ac := YK66 (show IsS66 w _ ab l0 0 0 from Q31) (Yr ac.1) hk; replace HB := Ya hb; replace HI677 := Ya hi; (try clear hb hk hi)) | ((with_reducible refine gate_callee (f := 41) rfl ?_); refine Yz 15 Tryz.func41 #[.int .i64 ak] ?_; (with_reducible refine (spec_raFactorial.calls k ak ae _ A3.1).mono ?_); rintro e w' ⟨rfl, ⟨nd, rfl⟩⟩; refine ⟨_, rfl, ?_⟩) | ((with_reducible refine gate_callee (f := 40) rfl ?_); refine Yz 16 Tryz.func40 #[.pointer (some ⟨ab, 0, none⟩), .int .i64 ae] ?_; (with_reducible refine (spec_l1Cur_rank.calls ab l0 al am ae ap aq ar w _ ?ag ?ah A4.1).mono ?_); (case ag => exact Q31); (case ah => exact Q45); rintro e aA ⟨rfl, hi, hb, hk⟩; refine ⟨_, rfl, ?_⟩; replace ac := YK66 (show IsS66 w _ ab l0 al am from Q31) (Yr ac.1) hk; replace HB := Ya hb; replace HI677 := Ya hi; (try clear hb hk hi)))
 go_ret2
 exact ⟨Q2, by repeat (first | (with_reducible first | exact HB.1 | apply Z5 | apply Z3 | apply Z4 | refine Z6 ?_ (IsS66.ge HI677.1)) | exact HB.1)⟩
def impl_SwapperAt.f (k : Nat) (a0 : Int) (a1 : Int) : Option (List Int × List Int × List Bool × List Int × List Int × List Int × Bool) := (impl_isSwapperSize.f a0).bind fun ab => (if ab = true then ((impl_factorial.f k a0).bind fun ac => ((impl_within.f a1 0 (wrap64 (ac - 1))).bind fun ad => (if ad = true then ((impl_swapperAt.f k a0 a1).bind fun aa => (some (aa.1, aa.2.1, aa.2.2.1, aa.2.2.2.1, aa.2.2.2.2.1, aa.2.2.2.2.2, true))) else (some (([] : List Int), ([] : List Int), ([] : List Bool), ([] : List Int), ([] : List Int), ([] : List Int), false))))) else (some (([] : List Int), ([] : List Int), ([] : List Bool), ([] : List Int), ([] : List Int), ([] : List Int), false)))
theorem impl_SwapperAt.calls (k : Nat) (a0 : Int) (a1 : Int) (r1 : List Int) (r2 : List Int) (r3 : List Bool) (r4 : List Int) (r5 : List Int) (r6 : List Int) (r7 : Bool) (w : World) (h : impl_SwapperAt.f k a0 a1 = some (r1, r2, r3, r4, r5, r6, r7)) :
  Calls Tryz.prog 16 #[.int .i64 a0, .int .i64 a1] w fun e w' => ∃ v0_ v1_ v2_ v3_ v4_ v5_ : Value, e = .returned (.tuple #[.agg #[v0_, v1_, v2_, v3_, v4_, v5_], .bool r7]) ∧ Kd.R (Kd.int .i64) 3 w' w.heap.size (fun k_ => some k_ ≠ (v1_ : Value).ownBlock ∧ some k_ ≠ (v3_ : Value).ownBlock ∧ some k_ ≠ (v4_ : Value).ownBlock ∧ some k_ ≠ (v5_ : Value).ownBlock) v0_ r1 ∧ Kd.R (Kd.int .i64) 3 w' w.heap.size (fun k_ => some k_ ≠ (v0_ : Value).ownBlock ∧ some k_ ≠ (v3_ : Value).ownBlock ∧ some k_ ≠ (v4_ : Value).ownBlock ∧ some k_ ≠ (v5_ : Value).ownBlock) v1_ r2 ∧ Kd.R Kd.bool 4 w' w.heap.size (fun _ => True) v2_ r3 ∧ Kd.R (Kd.int .i64) 3 w' w.heap.size (fun k_ => some k_ ≠ (v0_ : Value).ownBlock ∧ some k_ ≠ (v1_ : Value).ownBlock ∧ some k_ ≠ (v4_ : Value).ownBlock ∧ some k_ ≠ (v5_ : Value).ownBlock) v3_ r4 ∧ Kd.R (Kd.int .i64) 3 w' w.heap.size (fun k_ => some k_ ≠ (v0_ : Value).ownBlock ∧ some k_ ≠ (v1_ : Value).ownBlock ∧ some k_ ≠ (v3_ : Value).ownBlock ∧ some k_ ≠ (v5_ : Value).ownBlock) v4_ r5 ∧ Kd.R (Kd.int .i64) 3 w' w.heap.size (fun k_ => some k_ ≠ (v0_ : Value).ownBlock ∧ some k_ ≠ (v1_ : Value).ownBlock ∧ some k_ ≠ (v3_ : Value).ownBlock ∧ some k_ ≠ (v4_ : Value).ownBlock) v5_ r6 ∧ Below w.heap.size w w' := by
 have hu29 := Tryz.underlying29
 have HB := Ya (Below.refl w.heap.size w)
 have H : ((impl_isSwapperSize.f a0).bind fun al => (if al = true then ((impl_factorial.f k a0).bind fun ad => ((impl_within.f a1 0 (wrap64 (ad - 1))).bind fun am => (if am = true then ((impl_swapperAt.f k a0 a1).bind fun ab => (some (ab.1, ab.2.1, ab.2.2.1, ab.2.2.2.1, ab.2.2.2.2.1, ab.2.2.2.2.2, true))) else (some (([] : List Int), ([] : List Int), ([] : List Bool), ([] : List Int), ([] : List Int), ([] : List Int), false))))) else (some (([] : List Int), ([] : List Int), ([] : List Bool), ([] : List Int), ([] : List Int), ([] : List Int), false)))) = some (r1, r2, r3, r4, r5, r6, r7) := h
 clear h
 replace H := YB H
 obtain ⟨al, A3, H⟩ := H
 replace H := YC H
 obtain ⟨rfl, H⟩ | ⟨rfl, H⟩ := H
 ·replace H := YB H
  obtain ⟨ad, A5, H⟩ := H
  replace H := YB H
  obtain ⟨am, A6, H⟩ := H
  replace H := YC H
  obtain ⟨rfl, H⟩ | ⟨rfl, H⟩ := H
  ·replace H := YB H
   obtain ⟨⟨an, ao, ap, aq, ar, au⟩, A8, H⟩ := H
   dsimp only at H
   simp only [Option.some.injEq, Prod.mk.injEq] at H
   obtain ⟨rfl, rfl, rfl, rfl, rfl, rfl, rfl⟩ := H
   go_enter Tryz.func16, Tryz.ntmps16
   go_wp2_with (first | ((with_reducible refine gate_dst (N := 4) rfl ?_); refine Yx 4 YN6 29 ?_; intro aa hg w9 hbox hb; have BK688 := Ya hbox; have ae := Yg hg; replace HB := Yh hb; clear hb hbox hg) | ((with_reducible refine gate_callee (f := 32) rfl ?_); refine Yz 7 Tryz.func32 #[.int .i64 a0] ?_; (with_reducible refine (impl_isSwapperSize.calls a0 true _ A3.1).mono ?_); rintro e w' ⟨rfl, ⟨nd, rfl⟩⟩; refine ⟨_, rfl, ?_⟩; (try (rw [drewN_self w9]; generalize hq_ : World.drewN w9 _ = w9; replace BK688 : Aside0 (w9.heap[aa]? = some (.cells YN6 29 (0, 0))) := ⟨Q53⟩; replace HB : Aside0 (Below w.heap.size w w9) := ⟨by rw [← hq_]; exact Q0⟩; clear hq_))) | (go_at_call 43; (with_reducible refine (impl_factorial.calls k a0 ad _ A5.1).mono ?_); rintro e w' ⟨rfl, ⟨nd, rfl⟩⟩; (try (rw [drewN_self w9]; generalize hq_ : World.drewN w9 _ = w9; replace BK688 : Aside0 (w9.heap[aa]? = some (.cells YN6 29 (0, 0))) := ⟨Q53⟩; replace HB : Aside0 (Below w.heap.size w w9) := ⟨by rw [← hq_]; exact Q0⟩; clear hq_))) | (go_at_call 42; (with_reducible refine (impl_within.calls a1 0 (wrap64 (ad - 1)) true _ A6.1).mono ?_); rintro e w' ⟨rfl, ⟨nd, rfl⟩⟩; (try (rw [drewN_self w9]; generalize hq_ : World.drewN w9 _ = w9; replace BK688 : Aside0 (w9.heap[aa]? = some (.cells YN6 29 (0, 0))) := ⟨Q53⟩; replace HB : Aside0 (Below w.heap.size w w9) := ⟨by rw [← hq_]; exact Q0⟩; clear hq_))) | ((with_reducible refine gate_callee (f := 36) rfl ?_); refine Yz 20 Tryz.func36 #[.int .i64 a0, .int .i64 a1] ?_; (with_reducible refine (impl_swapperAt.calls k a0 a1 an ao ap aq ar au _ A8.1).mono ?_); rintro e bz ⟨bq, br, bu, bv, bw, bx, rfl, bk, bl, bm, bn, bo, bp, hb⟩; refine ⟨_, rfl, ?_⟩; have af := Yl bk; have ag := Yl bl; have ah := Yl bm; have ai := Yl bn; have aj := Yl bo; have ak := Yl bp; replace BK688 := Yb BK688 hb; replace HB := Yh hb; (try clear hb bk bl bm bn bo bp); obtain ⟨a8, a9, rfl⟩ := Z15 af.1; obtain ⟨aw, ax, ay, az, aA, aB, aC, aD, aE, aF, aG, aH⟩ := Y6 BK688.1; obtain ⟨ba, bb, rfl⟩ := Z15 ag.1; obtain ⟨bc, bd, rfl⟩ := Z15 ah.1; obtain ⟨be, bf, rfl⟩ := Z15 ai.1; obtain ⟨bg, bh, rfl⟩ := Z15 aj.1; obtain ⟨bi, bj, rfl⟩ := Z15 ak.1))
   refine bodyPost_ret (results_ct rfl _ _ aa 29 #[.slice a8 an.length a9, .slice ba ao.length bb, .slice bc ap.length bd, .slice be aq.length bf, .slice bg ar.length bh, .slice bi au.length bj] (0, 0) _ rfl (Yk (Yv6 BK688.1)) Tryz.underlying29 rfl (by kernel_rfl)) rfl ?_
   exact ⟨_, _, _, _, _, _, Q2, Yj (Yf6 af.1 BK688.1) (fun _ hk => ⟨hk.1.1, ⟨hk.1.2.1, ⟨hk.1.2.2.1, hk.1.2.2.2⟩⟩⟩), Yj (Yf6 ag.1 BK688.1) (fun _ hk => ⟨hk.1.1, ⟨hk.1.2.1, ⟨hk.1.2.2.1, hk.1.2.2.2⟩⟩⟩), Yj (Yf6 ah.1 BK688.1) (fun _ hk => trivial), Yj (Yf6 ai.1 BK688.1) (fun _ hk => ⟨hk.1.1, ⟨hk.1.2.1, ⟨hk.1.2.2.1, hk.1.2.2.2⟩⟩⟩), Yj (Yf6 aj.1 BK688.1) (fun _ hk => ⟨hk.1.1, ⟨hk.1.2.1, ⟨hk.1.2.2.1, hk.1.2.2.2⟩⟩⟩), Yj (Yf6 ak.1 BK688.1) (fun _ hk => ⟨hk.1.1, ⟨hk.1.2.1, ⟨hk.1.2.2.1, hk.1.2.2.2⟩⟩⟩), Q12⟩
  ·simp only [Option.some.injEq, Prod.mk.injEq] at H
   obtain ⟨rfl, rfl, rfl, rfl, rfl, rfl, rfl⟩ := H
   go_enter Tryz.func16, Tryz.ntmps16
   go_wp2_with (first | ((with_reducible refine gate_dst (N := 4) rfl ?_); refine Yx 4 YN6 29 ?_; intro aa hg ac hbox hb; have BK688 := Ya hbox; have ae := Yg hg; replace HB := Yh hb; clear hb hbox hg) | ((with_reducible refine gate_callee (f := 32) rfl ?_); refine Yz 7 Tryz.func32 #[.int .i64 a0] ?_; (with_reducible refine (impl_isSwapperSize.calls a0 true _ A3.1).mono ?_); rintro e w' ⟨rfl, ⟨nd, rfl⟩⟩; refine ⟨_, rfl, ?_⟩; (try (rw [drewN_self ac]; generalize hq_ : World.drewN ac _ = ac; replace BK688 : Aside0 (ac.heap[aa]? = some (.cells YN6 29 (0, 0))) := ⟨Q53⟩; replace HB : Aside0 (Below w.heap.size w ac) := ⟨by rw [← hq_]; exact Q0⟩; clear hq_))) | (go_at_call 43; (with_reducible refine (impl_factorial.calls k a0 ad _ A5.1).mono ?_); rintro e w' ⟨rfl, ⟨nd, rfl⟩⟩; (try (rw [drewN_self ac]; generalize hq_ : World.drewN ac _ = ac; replace BK688 : Aside0 (ac.heap[aa]? = some (.cells YN6 29 (0, 0))) := ⟨Q53⟩; replace HB : Aside0 (Below w.heap.size w ac) := ⟨by rw [← hq_]; exact Q0⟩; clear hq_))) | (go_at_call 42; (with_reducible refine (impl_within.calls a1 0 (wrap64 (ad - 1)) false _ A6.1).mono ?_); rintro e w' ⟨rfl, ⟨nd, rfl⟩⟩; (try (rw [drewN_self ac]; generalize hq_ : World.drewN ac _ = ac; replace BK688 : Aside0 (ac.heap[aa]? = some (.cells YN6 29 (0, 0))) := ⟨Q53⟩; replace HB : Aside0 (Below w.heap.size w ac) := ⟨by rw [← hq_]; exact Q0⟩; clear hq_)); obtain ⟨aI, aJ, aK, aL, aM, aN, aO, aP, aQ, aR, aS, aT⟩ := Y6 BK688.1))
   refine bodyPost_ret (results_ct rfl _ _ aa 29 YN6 (0, 0) _ rfl (Yk (Yv6 BK688.1)) Tryz.underlying29 rfl (by kernel_rfl)) rfl ?_
   exact ⟨_, _, _, _, _, _, Q2, Q3, Q3, Q3, Q3, Q3, Q3, Q12⟩
 ·simp only [Option.some.injEq, Prod.mk.injEq] at H
  obtain ⟨rfl, rfl, rfl, rfl, rfl, rfl, rfl⟩ := H
  go_enter Tryz.func16, Tryz.ntmps16
  go_wp2_with (first | ((with_reducible refine gate_dst (N := 4) rfl ?_); refine Yx 4 YN6 29 ?_; intro aa hg av hbox hb; have BK688 := Ya hbox; have ae := Yg hg; replace HB := Yh hb; clear hb hbox hg) | ((with_reducible refine gate_callee (f := 32) rfl ?_); refine Yz 7 Tryz.func32 #[.int .i64 a0] ?_; (with_reducible refine (impl_isSwapperSize.calls a0 false _ A3.1).mono ?_); rintro e w' ⟨rfl, ⟨nd, rfl⟩⟩; refine ⟨_, rfl, ?_⟩; (try (rw [drewN_self av]; generalize hq_ : World.drewN av _ = av; replace BK688 : Aside0 (av.heap[aa]? = some (.cells YN6 29 (0, 0))) := ⟨Q53⟩; replace HB : Aside0 (Below w.heap.size w av) := ⟨by rw [← hq_]; exact Q0⟩; clear hq_)); obtain ⟨aU, aV, aW, aX, aY, aZ, a2, a3, a4, a5, a6, a7⟩ := Y6 BK688.1))
  refine bodyPost_ret (results_ct rfl _ _ aa 29 YN6 (0, 0) _ rfl (Yk (Yv6 BK688.1)) Tryz.underlying29 rfl (by kernel_rfl)) rfl ?_
  exact ⟨_, _, _, _, _, _, Q2, Q3, Q3, Q3, Q3, Q3, Q3, Q12⟩
def spec_SwapperAt.f (k : Nat) (a0 : Int) (a1 : Int) : Option (List Int × List Int × List Bool × List Int × List Int × List Int × Bool) := (spec_foSize.f a0).bind fun ab => (if ab = true then ((spec_raFactorial.f k a0).bind fun ac => ((spec_l1In.f a1 0 (wrap64 (ac - 1))).bind fun ad => (if ad = true then ((spec_foSwapperAt.f k a0 a1).bind fun aa => (some (aa.1, aa.2.1, aa.2.2.1, aa.2.2.2.1, aa.2.2.2.2.1, aa.2.2.2.2.2.1, aa.2.2.2.2.2.2))) else (some (([] : List Int), ([] : List Int), ([] : List Bool), ([] : List Int), ([] : List Int), ([] : List Int), false))))) else (some (([] : List Int), ([] : List Int), ([] : List Bool), ([] : List Int), ([] : List Int), ([] : List Int), false)))
theorem spec_SwapperAt.calls (k : Nat) (a0 : Int) (a1 : Int) (r1 : List Int) (r2 : List Int) (r3 : List Bool) (r4 : List Int) (r5 : List Int) (r6 : List Int) (r7 : Bool) (w : World) (h : spec_SwapperAt.f k a0 a1 = some (r1, r2, r3, r4, r5, r6, r7)) :
  Calls Tryz.prog 17 #[.int .i64 a0, .int .i64 a1] w fun e w' => ∃ v0_ v1_ v2_ v3_ v4_ v5_ : Value, e = .returned (.tuple #[.agg #[v0_, v1_, v2_, v3_, v4_, v5_], .bool r7]) ∧ Kd.R (Kd.int .i64) 3 w' w.heap.size (fun k_ => some k_ ≠ (v1_ : Value).ownBlock ∧ some k_ ≠ (v3_ : Value).ownBlock ∧ some k_ ≠ (v4_ : Value).ownBlock ∧ some k_ ≠ (v5_ : Value).ownBlock) v0_ r1 ∧ Kd.R (Kd.int .i64) 3 w' w.heap.size (fun k_ => some k_ ≠ (v0_ : Value).ownBlock ∧ some k_ ≠ (v3_ : Value).ownBlock ∧ some k_ ≠ (v4_ : Value).ownBlock ∧ some k_ ≠ (v5_ : Value).ownBlock) v1_ r2 ∧ Kd.R Kd.bool 4 w' w.heap.size (fun _ => True) v2_ r3 ∧ Kd.R (Kd.int .i64) 3 w' w.heap.size (fun k_ => some k_ ≠ (v0_ : Value).ownBlock ∧ some k_ ≠ (v1_ : Value).ownBlock ∧ some k_ ≠ (v4_ : Value).ownBlock ∧ some k_ ≠ (v5_ : Value).ownBlock) v3_ r4 ∧ Kd.R (Kd.int .i64) 3 w' w.heap.size (fun k_ => some k_ ≠ (v0_ : Value).ownBlock ∧ some k_ ≠ (v1_ : Value).ownBlock ∧ some k_ ≠ (v3_ : Value).ownBlock ∧ some k_ ≠ (v5_ : Value).ownBlock) v4_ r5 ∧ Kd.R (Kd.int .i64) 3 w' w.heap.size (fun k_ => some k_ ≠ (v0_ : Value).ownBlock ∧ some k_ ≠ (v1_ : Value).ownBlock ∧ some k_ ≠ (v3_ : Value).ownBlock ∧ some k_ ≠ (v4_ : Value).ownBlock) v5_ r6 ∧ Below w.heap.size w w' := by
 have hu29 := Tryz.underlying29
 have HB := Ya (Below.refl w.heap.size w)
 have H : ((spec_foSize.f a0).bind fun al => (if al = true then ((spec_raFactorial.f k a0).bind fun ad => ((spec_l1In.f a1 0 (wrap64 (ad - 1))).bind fun am => (if am = true then ((spec_foSwapperAt.f k a0 a1).bind fun ab => (some (ab.1, ab.2.1, ab.2.2.1, ab.2.2.2.1, ab.2.2.2.2.1, ab.2.2.2.2.2.1, ab.2.2.2.2.2.2))) else (some (([] : List Int), ([] : List Int), ([] : List Bool), ([] : List Int), ([] : List Int), ([] : List Int), false))))) else (some (([] : List Int), ([] : List Int), ([] : List Bool), ([] : List Int), ([] : List Int), ([] : List Int), false)))) = some (r1, r2, r3, r4, r5, r6, r7) := h
 clear h
 replace H := YB H
 obtain ⟨al, A3, H⟩ := H
 replace H := YC H
 obtain ⟨rfl, H⟩ | ⟨rfl, H⟩ := H
 ·replace H := YB H
  obtain ⟨ad, A5, H⟩ := H
  replace H := YB H
  obtain ⟨am, A6, H⟩ := H
  replace H := YC H
  obtain ⟨rfl, H⟩ | ⟨rfl, H⟩ := H
  ·replace H := YB H
   obtain ⟨⟨an, ao, ap, aq, ar, au, a8⟩, A8, H⟩ := H
   dsimp only at H
   simp only [Option.some.injEq, Prod.mk.injEq] at H
   obtain ⟨rfl, rfl, rfl, rfl, rfl, rfl, rfl⟩ := H
   go_enter Tryz.func17, Tryz.ntmps17
   go_wp2_with (first | ((with_reducible refine gate_dst (N := 4) rfl ?_); refine Yx 4 YN6 29 ?_; intro aa hg w9 hbox hb; have BK710 := Ya hbox; have ae := Yg hg; replace HB := Yh hb; clear hb hbox hg) | ((with_reducible refine gate_callee (f := 44) rfl ?_); refine Yz 7 Tryz.func44 #[.int .i64 a0] ?_; (with_reducible refine (spec_foSize.calls a0 true _ A3.1).mono ?_); rintro e w' ⟨rfl, ⟨nd, rfl⟩⟩; refine ⟨_, rfl, ?_⟩; (try (rw [drewN_self w9]; generalize hq_ : World.drewN w9 _ = w9; replace BK710 : Aside0 (w9.heap[aa]? = some (.cells YN6 29 (0, 0))) := ⟨Q52⟩; replace HB : Aside0 (Below w.heap.size w w9) := ⟨by rw [← hq_]; exact Q0⟩; clear hq_))) | (go_at_call 41; (with_reducible refine (spec_raFactorial.calls k a0 ad _ A5.1).mono ?_); rintro e w' ⟨rfl, ⟨nd, rfl⟩⟩; (try (rw [drewN_self w9]; generalize hq_ : World.drewN w9 _ = w9; replace BK710 : Aside0 (w9.heap[aa]? = some (.cells YN6 29 (0, 0))) := ⟨Q52⟩; replace HB : Aside0 (Below w.heap.size w w9) := ⟨by rw [← hq_]; exact Q0⟩; clear hq_))) | (go_at_call 45; (with_reducible refine (spec_l1In.calls a1 0 (wrap64 (ad - 1)) true _ A6.1).mono ?_); rintro e w' ⟨rfl, ⟨nd, rfl⟩⟩; (try (rw [drewN_self w9]; generalize hq_ : World.drewN w9 _ = w9; replace BK710 : Aside0 (w9.heap[aa]? = some (.cells YN6 29 (0, 0))) := ⟨Q52⟩; replace HB : Aside0 (Below w.heap.size w w9) := ⟨by rw [← hq_]; exact Q0⟩; clear hq_))) | ((with_reducible refine gate_callee (f := 46) rfl ?_); refine Yz 20 Tryz.func46 #[.int .i64 a0, .int .i64 a1] ?_; (with_reducible refine (spec_foSwapperAt.calls k a0 a1 an ao ap aq ar au a8 _ A8.1).mono ?_); rintro e bA ⟨br, bu, bv, bw, bx, bz, rfl, bl, bm, bn, bo, bp, bq, hb⟩; refine ⟨_, rfl, ?_⟩; have af := Yl bl; have ag := Yl bm; have ah := Yl bn; have ai := Yl bo; have aj := Yl bp; have ak := Yl bq; replace BK710 := Yb BK710 hb; replace HB := Yh hb; (try clear hb bl bm bn bo bp bq); obtain ⟨a9, ba, rfl⟩ := Z15 af.1; obtain ⟨aw, ax, ay, az, aA, aB, aC, aD, aE, aF, aG, aH⟩ := Y6 BK710.1; obtain ⟨bb, bc, rfl⟩ := Z15 ag.1; obtain ⟨bd, be, rfl⟩ := Z15 ah.1; obtain ⟨bf, bg, rfl⟩ := Z15 ai.1; obtain ⟨bh, bi, rfl⟩ := Z15 aj.1; obtain ⟨bj, bk, rfl⟩ := Z15 ak.1))
   refine bodyPost_ret (results_ct rfl _ _ aa 29 #[.slice a9 an.length ba, .slice bb ao.length bc, .slice bd ap.length be, .slice bf aq.length bg, .slice bh ar.length bi, .slice bj au.length bk] (0, 0) _ rfl (Yk (Yv6 BK710.1)) Tryz.underlying29 rfl (by kernel_rfl)) rfl ?_
   exact ⟨_, _, _, _, _, _, Q2, Yj (Yf6 af.1 BK710.1) (fun _ hk => ⟨hk.1.1, ⟨hk.1.2.1, ⟨hk.1.2.2.1, hk.1.2.2.2⟩⟩⟩), Yj (Yf6 ag.1 BK710.1) (fun _ hk => ⟨hk.1.1, ⟨hk.1.2.1, ⟨hk.1.2.2.1, hk.1.2.2.2⟩⟩⟩), Yj (Yf6 ah.1 BK710.1) (fun _ hk => trivial), Yj (Yf6 ai.1 BK710.1) (fun _ hk => ⟨hk.1.1, ⟨hk.1.2.1, ⟨hk.1.2.2.1, hk.1.2.2.2⟩⟩⟩), Yj (Yf6 aj.1 BK710.1) (fun _ hk => ⟨hk.1.1, ⟨hk.1.2.1, ⟨hk.1.2.2.1, hk.1.2.2.2⟩⟩⟩), Yj (Yf6 ak.1 BK710.1) (fun _ hk => ⟨hk.1.1, ⟨hk.1.2.1, ⟨hk.1.2.2.1, hk.1.2.2.2⟩⟩⟩), Q12⟩
  ·simp only [Option.some.injEq, Prod.mk.injEq] at H
   obtain ⟨rfl, rfl, rfl, rfl, rfl, rfl, rfl⟩ := H
   go_enter Tryz.func17, Tryz.ntmps17
   go_wp2_with (first | ((with_reducible refine gate_dst (N := 4) rfl ?_); refine Yx 4 YN6 29 ?_; intro aa hg ac hbox hb; have BK710 := Ya hbox; have ae := Yg hg; replace HB := Yh hb; clear hb hbox hg) | ((with_reducible refine gate_callee (f := 44) rfl ?_); refine Yz 7 Tryz.func44 #[.int .i64 a0] ?_; (with_reducible refine (spec_foSize.calls a0 true _ A3.1).mono ?_); rintro e w' ⟨rfl, ⟨nd, rfl⟩⟩; refine ⟨_, rfl, ?_⟩; (try (rw [drewN_self ac]; generalize hq_ : World.drewN ac _ = ac; replace BK710 : Aside0 (ac.heap[aa]? = some (.cells YN6 29 (0, 0))) := ⟨Q52⟩; replace HB : Aside0 (Below w.heap.size w ac) := ⟨by rw [← hq_]; exact Q0⟩; clear hq_))) | (go_at_call 41; (with_reducible refine (spec_raFactorial.calls k a0 ad _ A5.1).mono ?_); rintro e w' ⟨rfl, ⟨nd, rfl⟩⟩; (try (rw [drewN_self ac]; generalize hq_ : World.drewN ac _ = ac; replace BK710 : Aside0 (ac.heap[aa]? = some (.cells YN6 29 (0, 0))) := ⟨Q52⟩; replace HB : Aside0 (Below w.heap.size w ac) := ⟨by rw [← hq_]; exact Q0⟩; clear hq_))) | (go_at_call 45; (with_reducible refine (spec_l1In.calls a1 0 (wrap64 (ad - 1)) false _ A6.1).mono ?_); rintro e w' ⟨rfl, ⟨nd, rfl⟩⟩; (try (rw [drewN_self ac]; generalize hq_ : World.drewN ac _ = ac; replace BK710 : Aside0 (ac.heap[aa]? = some (.cells YN6 29 (0, 0))) := ⟨Q52⟩; replace HB : Aside0 (Below w.heap.size w ac) := ⟨by rw [← hq_]; exact Q0⟩; clear hq_)); obtain ⟨aI, aJ, aK, aL, aM, aN, aO, aP, aQ, aR, aS, aT⟩ := Y6 BK710.1))
   refine bodyPost_ret (results_ct rfl _ _ aa 29 YN6 (0, 0) _ rfl (Yk (Yv6 BK710.1)) Tryz.underlying29 rfl (by kernel_rfl)) rfl ?_
   exact ⟨_, _, _, _, _, _, Q2, Q3, Q3, Q3, Q3, Q3, Q3, Q12⟩
 ·simp only [Option.some.injEq, Prod.mk.injEq] at H
  obtain ⟨rfl, rfl, rfl, rfl, rfl, rfl, rfl⟩ := H
  go_enter Tryz.func17, Tryz.ntmps17
  go_wp2_with (first | ((with_reducible refine gate_dst (N := 4) rfl ?_); refine Yx 4 YN6 29 ?_; intro aa hg av hbox hb; have BK710 := Ya hbox; have ae := Yg hg; replace HB := Yh hb; clear hb hbox hg) | ((with_reducible refine gate_callee (f := 44) rfl ?_); refine Yz 7 Tryz.func44 #[.int .i64 a0] ?_; (with_reducible refine (spec_foSize.calls a0 false _ A3.1).mono ?_); rintro e w' ⟨rfl, ⟨nd, rfl⟩⟩; refine ⟨_, rfl, ?_⟩; (try (rw [drewN_self av]; generalize hq_ : World.drewN av _ = av; replace BK710 : Aside0 (av.heap[aa]? = some (.cells YN6 29 (0, 0))) := ⟨Q52⟩; replace HB : Aside0 (Below w.heap.size w av) := ⟨by rw [← hq_]; exact Q0⟩; clear hq_)); obtain ⟨aU, aV, aW, aX, aY, aZ, a2, a3, a4, a5, a6, a7⟩ := Y6 BK710.1))
  refine bodyPost_ret (results_ct rfl _ _ aa 29 YN6 (0, 0) _ rfl (Yk (Yv6 BK710.1)) Tryz.underlying29 rfl (by kernel_rfl)) rfl ?_
  exact ⟨_, _, _, _, _, _, Q2, Q3, Q3, Q3, Q3, Q3, Q3, Q12⟩
def impl_InverseOf.l0 : Nat → List Int → List Int → Int → Int → Option (List Int × Bool)
 | 0, _, _, _, _ => none
 | k + 1, x4, ab, ac, aa => if aa < ac then (if 0 ≤ aa then (if aa < (ab.length : Int) then (if 0 ≤ (rd ab aa) then (if (rd ab aa) < (x4.length : Int) then (impl_InverseOf.l0 k (x4.set ((rd ab aa) : Int).toNat aa) ab ac (wrap64 (aa + 1))) else (none)) else (none)) else (none)) else (none)) else (some (x4, true))
def impl_InverseOf.f (k : Nat) (l0 : List Int) : Option (List Int × Bool) := (impl_IsPermutation.f k l0).bind fun aa => (if aa = true then (if 0 ≤ (l0.length : Int) then (if ((l0.length : Int) : Int).toNat ≤ 35184372088832 then (impl_InverseOf.l0 k (List.replicate ((l0.length : Int) : Int).toNat 0) l0 (l0.length : Int) 0) else (none)) else (none)) else (some (([] : List Int), false)))
theorem impl_InverseOf.calls (k : Nat) (A0 : Option Addr) (c0 : Nat) (l0 : List Int) (r1 : List Int) (r2 : Bool) (w : World) (aH : Kd.C (Kd.int .i64) w A0 l0.length l0) (aI : l0.length ≤ c0) (h : impl_InverseOf.f k l0 = some (r1, r2)) :
  Calls Tryz.prog 19 #[.slice A0 l0.length c0] w fun e w' => ∃ v0_ : Value, e = .returned (.tuple #[v0_, .bool r2]) ∧ Kd.R (Kd.int .i64) 3 w' w.heap.size (fun _ => True) v0_ r1 ∧ Below w.heap.size w w' := by
 have HR0 := Ya aH
 have aJ := Ya aI
 clear aH aI
 have HB := Ya (Below.refl w.heap.size w)
 have H : ((impl_IsPermutation.f k l0).bind fun al => (if al = true then (if 0 ≤ (l0.length : Int) then (if ((l0.length : Int) : Int).toNat ≤ 35184372088832 then (impl_InverseOf.l0 k (List.replicate ((l0.length : Int) : Int).toNat 0) l0 (l0.length : Int) 0) else (none)) else (none)) else (some (([] : List Int), false)))) = some (r1, r2) := h
 clear h
 replace H := YB H
 obtain ⟨al, A2, H⟩ := H
 replace H := YC H
 obtain ⟨rfl, H⟩ | ⟨rfl, H⟩ := H
 ·by_cases c4 : 0 ≤ (l0.length : Int)
  ·rw [if_pos c4] at H
   have aP := eq_true c4
   have aQ := Z35 c4
   have HLEc4 := Ya c4
   clear c4
   by_cases c5 : ((l0.length : Int) : Int).toNat ≤ 35184372088832
   ·rw [if_pos c5] at H
    have ax := eq_true c5
    have ay := Z35 c5
    clear c5
    obtain ⟨am, ac⟩ : ∃ y_ : List Int, y_ = (List.replicate ((l0.length : Int) : Int).toNat 0) := ⟨_, rfl⟩
    replace H : (impl_InverseOf.l0 k am l0 (l0.length : Int) 0) = some (r1, r2) := by first | (rw [ac]; with_reducible exact H) | (have H2_ := (Option.bind_some _ _).symm.trans H; rw [ac]; with_reducible exact H2_) | (have H2_ := (Option.bind_some _ _).symm.trans H; with_reducible exact H2_) | with_reducible exact H | (rw [ac]; exact H) | exact H
    have ag := Ya ac
    clear ac
    have H' := Ya H
    clear H
    go_enter Tryz.func19, Tryz.ntmps19
    go_wp2_with (first | ((with_reducible refine gate_callee (f := 37) rfl ?_); refine Yz 8 Tryz.func37 #[.slice A0 l0.length c0] ?_; (with_reducible refine (impl_IsPermutation.calls k _ _ l0 true _ (Yc HR0.1) aJ.1 A2.1).mono ?_); rintro e w6 ⟨rfl, hb⟩; refine ⟨_, rfl, ?_⟩; replace HB := Yh hb; (try clear hb)) | ((with_reducible refine gate_dst (N := 12) rfl ?_); refine Kd.R_make (Kd.int .i64) _ 3 rfl (N := 12) rfl 24 _ _ rfl (l0.length : Int) rfl rfl Tryz.underlying24 (.int .i64 0) 8 info3 rfl (by decide) (by omega) 0 (ok := fun _ => True) (okp := fun _ => True) rfl (fun _ hk => hk) trivial (Z27 Q5) (Nat.le_trans (Nat.mul_le_mul_right _ (Z27 Q5 : (l0.length : Int).toNat ≤ 35184372088832)) (by omega)) (Below.refl _ _) (Nat.le_refl _) ?_; intro az w7 an hb hg_ hnew_; clear hg_ hnew_; (first | rw [← ag.1] at an | (simp only [Int.reduceToNat] at an; rw [← ag.1] at an)); have ao := Yl an; replace HB := Yh hb; clear hb an))
    go_loopg [15] k (fun kq aR w' => ∃ (ae : List Int) (aa : Int), aR = .int .i64 aa ∧ Aside0 (impl_InverseOf.l0 kq ae l0 (l0.length : Int) aa = some (r1, r2)) ∧ Aside0 (kq ≤ k) ∧ Aside0 (Kd.R (Kd.int .i64) 3 w' w.heap.size (fun _ => True) az ae) ∧ Aside0 (Below w.heap.size w w'))
    case atStart => exact ⟨(am), (0), Q17, H', ⟨Nat.le_refl _⟩, ⟨by (with_reducible repeat (first | apply Z9 | apply Z10 | apply Z11)); exact ao.1⟩, ⟨Q12⟩⟩
    case round =>
     clear H'
     try clear c5
     try clear ax
     try clear ay
     obtain ⟨ae, aa, rfl, HA, HK1, af, HB⟩ := hrel
     cases gk with
     | zero => exact absurd HA.1 (by simp [impl_InverseOf.l0])
     | succ k1 =>
      have H := HA.1
      clear HA
      simp only [impl_InverseOf.l0] at H
      by_cases c9 : aa < (l0.length : Int)
      ·rw [if_pos c9] at H
       have aA := Z35 c9
       clear c9
       by_cases c10 : 0 ≤ aa
       ·rw [if_pos c10] at H
        have aK := Z35 c10
        clear c10
        by_cases au : aa < (l0.length : Int)
        ·rw [if_pos au] at H
         have aL := Z35 au
         clear au
         by_cases av : 0 ≤ (rd l0 aa)
         ·rw [if_pos av] at H
          have aM := Z35 av
          clear av
          by_cases aw : (rd l0 aa) < (ae.length : Int)
          ·rw [if_pos aw] at H
           have aN := Z35 aw
           clear aw
           obtain ⟨ah, ad⟩ : ∃ y_ : List Int, y_ = (ae.set ((rd l0 aa) : Int).toNat aa) := ⟨_, rfl⟩
           replace H : (impl_InverseOf.l0 k1 ah l0 (l0.length : Int) (wrap64 (aa + 1))) = some (r1, r2) := by first | (rw [ad]; with_reducible exact H) | (have H2_ := (Option.bind_some _ _).symm.trans H; rw [ad]; with_reducible exact H2_) | (have H2_ := (Option.bind_some _ _).symm.trans H; with_reducible exact H2_) | with_reducible exact H | (rw [ad]; exact H) | exact H
           have ap := Ya ad
           clear ad
           have H' := Ya H
           clear H
           have ai : 0 ≤ (aa : Int) := Z27 Q5
           have aj : aa < (l0.length : Int) := Z27 Q5
           obtain ⟨aO, aB, ab⟩ := Kd.at_int HR0.1 aa ai aj
           cases aB
           try replace ab := (HB.1.cell (World.block_lt_of_cell? w _ ab)).trans ab
           replace ai := eq_true ai
           replace aj := eq_true aj
           have aC : 0 ≤ ((rd l0 aa) : Int) := Z27 Q5
           have aD : ((rd l0 aa) : Int) < ((ae.length : Int) : Int) := Z27 Q5
           obtain ⟨ak, aE, aq, ar, gl14, cl14, HG14⟩ := Kd.R_form af.1 (by omega)
           (first | cases aq | (injection aq with ea_ en_ ec_; (first | subst ea_ | (injection ea_ with ea_; subst ea_)); subst ec_; clear en_))
           have GB14 := Ya ar
           have GG14 := Ya HG14
           clear ar gl14 HG14
           obtain ⟨aF, hf14_0⟩ := Kd.R_celln 0 af.1 ((rd l0 aa) : Int) aC aD
           replace aC := eq_true aC
           replace aD := eq_true aD
           have HP15 := Kd.R_putg af.1 ((rd l0 aa) : Int) aa
           go_wp2_with (first | ((with_reducible refine gate_store (t := 3) (p := 23) rfl ?_); refine store_event (t := 3) (p := 23) (v := ?vo_w16) (w1 := (wr.setCell ⟨ak, ((rd l0 aa) : Int).toNat, none⟩ (.int .i64 aa))) ?hg ?ho ?hn ?hr ?_; (case ho => rfl); (case hg => rfl); (case hn => rfl); (case hr => first | (go_simp; done) | (go_simp; rfl)); intro aG hw; have hg : wr.grownBy aG (some ak) := (by rw [hw]; exact HP15.2); have hp_ : Kd.R (Kd.int .i64) 3 aG w.heap.size (fun _ => True) (.slice (some ⟨ak, 0, none⟩) ae.length aE) ah := (by rw [hw, ap.1]; exact HP15.1); clear HP15; replace af := Ya hp_; replace HB := Ya ((by rw [hw]; exact Z6 (HB.1) GB14.1 : Below w.heap.size w aG)); clear hg hw hp_))
           go_roundg k1
           case measure => have := HK1.1; omega
           case rel => exact ⟨(ah), (wrap64 (aa + 1)), Q17, H', ⟨Q35⟩, ⟨by (with_reducible repeat (first | apply Z9 | apply Z10 | apply Z11)); exact af.1⟩, ⟨Q12⟩⟩
          ·rw [if_neg aw] at H
           exact absurd H (by simp)
         ·rw [if_neg av] at H
          exact absurd H (by simp)
        ·rw [if_neg au] at H
         exact absurd H (by simp)
       ·rw [if_neg c10] at H
        exact absurd H (by simp)
      ·rw [if_neg c9] at H
       have aA := Z34 c9
       clear c9
       simp only [Option.some.injEq, Prod.mk.injEq] at H
       obtain ⟨rfl, rfl⟩ := H
       go_wp2
       go_ret2
       exact ⟨_, Q2, by (with_reducible repeat (first | apply Z9 | apply Z10 | apply Z11)); exact af.1, Q12⟩
   ·rw [if_neg c5] at H
    exact absurd H (by simp)
  ·rw [if_neg c4] at H
   exact absurd H (by simp)
 ·simp only [Option.some.injEq, Prod.mk.injEq] at H
  obtain ⟨rfl, rfl⟩ := H
  go_enter Tryz.func19, Tryz.ntmps19
  go_wp2_with (first | ((with_reducible refine gate_callee (f := 37) rfl ?_); refine Yz 8 Tryz.func37 #[.slice A0 l0.length c0] ?_; (with_reducible refine (impl_IsPermutation.calls k _ _ l0 false _ (Yc HR0.1) aJ.1 A2.1).mono ?_); rintro e aS ⟨rfl, hb⟩; refine ⟨_, rfl, ?_⟩; replace HB := Yh hb; (try clear hb)))
  go_ret2
  exact ⟨_, Q2, Q3, Q12⟩
def spec_DrawRunSwapper.f (l0 : List Int) : Option (Int × Int) := (spec_l1Cur_among.f l0 0 0 (([1, 2, 3, 4, 5, 4, 6, 8, 0] : List Int))).bind fun aa => ((spec_l1Cur_among.f l0 aa.2.1 aa.2.2 (([0, 1, 5, 23, 24, 120, 5040, 5041, (-1)] : List Int))).bind fun ab => (some (aa.1, ab.1)))
theorem spec_DrawRunSwapper.calls (A0 : Option Addr) (c0 : Nat) (l0 : List Int) (r1 : Int) (r2 : Int) (w : World) (aA : Kd.C (Kd.int .u8) w A0 l0.length l0) (aB : l0.length ≤ c0) (h : spec_DrawRunSwapper.f l0 = some (r1, r2)) :
  Calls Tryz.prog 20 #[.slice A0 l0.length c0] w fun e w' => e = .returned (.tuple #[.int .i64 r1, .int .i64 r2]) ∧ Below w.heap.size w w' := by
 have hu66 := Tryz.underlying66
 have HR0 := Ya aA
 have aG := Ya aB
 clear aA aB
 have HB := Ya (Below.refl w.heap.size w)
 have H : ((spec_l1Cur_among.f l0 0 0 (([1, 2, 3, 4, 5, 4, 6, 8, 0] : List Int))).bind fun ac => ((spec_l1Cur_among.f l0 ac.2.1 ac.2.2 (([0, 1, 5, 23, 24, 120, 5040, 5041, (-1)] : List Int))).bind fun ae => (some (ac.1, ae.1)))) = some (r1, r2) := h
 clear h
 obtain ⟨ap, af⟩ : ∃ y_ : List Int, y_ = (([1, 2, 3, 4, 5, 4, 6, 8, 0] : List Int)) := ⟨_, rfl⟩
 replace H : ((spec_l1Cur_among.f l0 0 0 ap).bind fun ac => ((spec_l1Cur_among.f l0 ac.2.1 ac.2.2 (([0, 1, 5, 23, 24, 120, 5040, 5041, (-1)] : List Int))).bind fun ae => (some (ac.1, ae.1)))) = some (r1, r2) := by first | (rw [af]; with_reducible exact H) | (have H2_ := (Option.bind_some _ _).symm.trans H; rw [af]; with_reducible exact H2_) | (have H2_ := (Option.bind_some _ _).symm.trans H; with_reducible exact H2_) | with_reducible exact H | (rw [af]; exact H) | exact H
 have an := Ya af
 clear af
 replace H := YB H
 obtain ⟨⟨ar, ai, aj⟩, A2, H⟩ := H
 dsimp only at H
 obtain ⟨aq, ag⟩ : ∃ y_ : List Int, y_ = (([0, 1, 5, 23, 24, 120, 5040, 5041, (-1)] : List Int)) := ⟨_, rfl⟩
 replace H : ((spec_l1Cur_among.f l0 ai aj aq).bind fun ae => (some (ar, ae.1))) = some (r1, r2) := by first | (rw [ag]; with_reducible exact H) | (have H2_ := (Option.bind_some _ _).symm.trans H; rw [ag]; with_reducible exact H2_) | (have H2_ := (Option.bind_some _ _).symm.trans H; with_reducible exact H2_) | with_reducible exact H | (rw [ag]; exact H) | exact H
 have ao := Ya ag
 clear ag
 replace H := YB H
 obtain ⟨⟨av, aw, ax⟩, A3, H⟩ := H
 dsimp only at H
 simp only [Option.some.injEq, Prod.mk.injEq] at H
 obtain ⟨rfl, rfl⟩ := H
 go_enter Tryz.func20, Tryz.ntmps20
 go_wp2_with (first | ((with_reducible refine gate_dst (N := 7) rfl ?_); refine Yx 7 #[.slice A0 l0.length c0, .int .i64 0, .int .u64 0] 66 ?_; intro ab hg w4 hbox hb; have HI739 := Ya ((show IsS66 w w4 ab l0 0 0 from ⟨_, _, hbox, (by rw [hg]; exact (Z7 Q0) : w.heap.size ≤ ab), HR0.1⟩)); replace HB := Yh hb; clear hb hbox hg) | ((with_reducible refine gate_dst (N := 9) rfl ?_); refine Kd.R_lit (Kd.int .i64) _ 3 ?hg (N := 9) ?hd (xs := ([1, 2, 3, 4, 5, 4, 6, 8, 0] : List Int)) (inner := [.int .i64 1, .int .i64 2, .int .i64 3, .int .i64 4, .int .i64 5, .int .i64 4, .int .i64 6, .int .i64 8, .int .i64 0]) (ok := fun _ => True) (okp := fun _ => True) ?hr ?hp (fun _ hk => hk) trivial (Below.refl _ _) (Nat.le_refl _) (by simp) ?_; (case hd => rfl); (case hg => rfl); (case hr => first | (go_simp; done) | (go_simp; rfl)); (case hp => exact (Reps.one (show Kd.M (Kd.int .i64) _ _ _ 1 [.int .i64 1] from rfl) (Reps.one (show Kd.M (Kd.int .i64) _ _ _ 2 [.int .i64 2] from rfl) (Reps.one (show Kd.M (Kd.int .i64) _ _ _ 3 [.int .i64 3] from rfl) (Reps.one (show Kd.M (Kd.int .i64) _ _ _ 4 [.int .i64 4] from rfl) (Reps.one (show Kd.M (Kd.int .i64) _ _ _ 5 [.int .i64 5] from rfl) (Reps.one (show Kd.M (Kd.int .i64) _ _ _ 4 [.int .i64 4] from rfl) (Reps.one (show Kd.M (Kd.int .i64) _ _ _ 6 [.int .i64 6] from rfl) (Reps.one (show Kd.M (Kd.int .i64) _ _ _ 8 [.int .i64 8] from rfl) (Reps.one (show Kd.M (Kd.int .i64) _ _ _ 0 [.int .i64 0] from rfl) (Reps.none _ _))))))))))); intro aC w5 au hb hg_ hnew_; clear hg_ hnew_; (first | rw [← an.1] at au | (simp only [Int.reduceToNat] at au; rw [← an.1] at au)); have aa := Ya (Kd.R_lower au (Z7 Q33)); replace HB := Ya (Z8 Q33 hb); replace HI739 := Ya (IsS66.below Q27 hb); clear hb au; obtain ⟨aD, aE, rfl⟩ := Z15 aa.1) | ((with_reducible refine gate_callee (f := 39) rfl ?_); refine Yz 10 Tryz.func39 #[.pointer (some ⟨ab, 0, none⟩), .slice aD ap.length aE] ?_; (with_reducible refine (spec_l1Cur_among.calls ab l0 0 0 _ _ ap ar ai aj w _ ?ak ?al (YX aa) (YL aa) ?am A2.1).mono ?_); (case ak => exact Q27); (case al => exact Q33); (case am => exact far_slice (IsS66.own_ne HI739.1 aa.1 (by decide))); rintro e w8 ⟨rfl, hi, hb, hk⟩; refine ⟨_, rfl, ?_⟩; replace aa := YK66 (show IsS66 w _ ab l0 0 0 from Q27) (Yr aa.1) hk; replace HB := Ya hb; replace HI739 := Ya hi; (try clear hb hk hi)) | ((with_reducible refine gate_dst (N := 12) rfl ?_); refine Kd.R_lit (Kd.int .i64) _ 3 ?hg (N := 12) ?hd (xs := ([0, 1, 5, 23, 24, 120, 5040, 5041, (-1)] : List Int)) (inner := [.int .i64 0, .int .i64 1, .int .i64 5, .int .i64 23, .int .i64 24, .int .i64 120, .int .i64 5040, .int .i64 5041, .int .i64 (-1)]) (ok := fun _ => True) (okp := fun _ => True) ?hr ?hp (fun _ hk => hk) trivial (Below.refl _ _) (Nat.le_refl _) (by simp) ?_; (case hd => rfl); (case hg => rfl); (case hr => first | (go_simp; done) | (go_simp; rfl)); (case hp => exact (Reps.one (show Kd.M (Kd.int .i64) _ _ _ 0 [.int .i64 0] from rfl) (Reps.one (show Kd.M (Kd.int .i64) _ _ _ 1 [.int .i64 1] from rfl) (Reps.one (show Kd.M (Kd.int .i64) _ _ _ 5 [.int .i64 5] from rfl) (Reps.one (show Kd.M (Kd.int .i64) _ _ _ 23 [.int .i64 23] from rfl) (Reps.one (show Kd.M (Kd.int .i64) _ _ _ 24 [.int .i64 24] from rfl) (Reps.one (show Kd.M (Kd.int .i64) _ _ _ 120 [.int .i64 120] from rfl) (Reps.one (show Kd.M (Kd.int .i64) _ _ _ 5040 [.int .i64 5040] from rfl) (Reps.one (show Kd.M (Kd.int .i64) _ _ _ 5041 [.int .i64 5041] from rfl) (Reps.one (show Kd.M (Kd.int .i64) _ _ _ (-1) [.int .i64 (-1)] from rfl) (Reps.none _ _))))))))))); intro aF w9 ah hb hg_ hnew_; clear hg_ hnew_; (first | rw [← ao.1] at ah | (simp only [Int.reduceToNat] at ah; rw [← ao.1] at ah)); have ad := Ya (Kd.R_lower (YW ah aa) (Z7 Q33)); replace aa := YE aa ah hb; replace HB := Ya (Z8 Q33 hb); replace HI739 := Ya (IsS66.below Q27 hb); clear hb ah; obtain ⟨ay, az, rfl⟩ := Z15 ad.1) | ((with_reducible refine gate_callee (f := 39) rfl ?_); refine Yz 13 Tryz.func39 #[.pointer (some ⟨ab, 0, none⟩), .slice ay aq.length az] ?_; (with_reducible refine (spec_l1Cur_among.calls ab l0 ai aj _ _ aq av aw ax w _ ?ak ?al (YX ad) (YL ad) ?am A3.1).mono ?_); (case ak => exact Q27); (case al => exact Q33); (case am => exact far_slice (IsS66.own_ne HI739.1 ad.1 (by decide))); rintro e aH ⟨rfl, hi, hb, hk⟩; refine ⟨_, rfl, ?_⟩; replace aa := YK66 (show IsS66 w _ ab l0 ai aj from Q27) (Yr aa.1) hk; replace ad := YK66 (show IsS66 w _ ab l0 ai aj from Q27) (Yr ad.1) hk; replace HB := Ya hb; replace HI739 := Ya hi; (try clear hb hk hi)))
 go_ret2
 exact ⟨Q2, by repeat (first | (with_reducible first | exact HB.1 | apply Z5 | apply Z3 | apply Z4 | refine Z6 ?_ (IsS66.ge HI739.1)) | exact HB.1)⟩
def impl_Focus_isLast.f (ab : List Int) (ac : List Int) (ad : List Bool) (aa : List Int) : Option (Bool) := if 0 < (aa.length : Int) then (some ((rd aa 0) == (ab.length : Int))) else (none)
theorem impl_Focus_isLast.calls (ai : Option Addr) (aj : Nat) (ae : List Int) (ak : Option Addr) (al : Nat) (af : List Int) (am : Option Addr) (an : Nat) (ag : List Bool) (ao : Option Addr) (ap : Nat) (ab : List Int) (r : Bool) (w : World) (aC : Kd.C (Kd.int .i64) w ai ae.length ae) (aD : ae.length ≤ aj) (aE : Kd.C (Kd.int .i64) w ak af.length af) (aF : af.length ≤ al) (aG : Kd.C Kd.bool w am ag.length ag) (aH : ag.length ≤ an) (aI : Kd.C (Kd.int .i64) w ao ab.length ab) (aJ : ab.length ≤ ap) (h : impl_Focus_isLast.f ae af ag ab = some r) :
  Calls Tryz.prog 48 #[.agg #[.slice ai ae.length aj, .slice ak af.length al, .slice am ag.length an, .slice ao ab.length ap]] w fun e w' => e = .returned (.bool r) ∧ Below w.heap.size w w' := by
 have hu27 := Tryz.underlying27
 have aN := Ya aC
 have aO := Ya aD
 clear aC aD
 have aP := Ya aE
 have aQ := Ya aF
 clear aE aF
 have aR := Ya aG
 have aS := Ya aH
 clear aG aH
 have aq := Ya aI
 have aT := Ya aJ
 clear aI aJ
 have HB := Ya (Below.refl w.heap.size w)
 have H : (if 0 < (ab.length : Int) then (some ((rd ab 0) == (ae.length : Int))) else (none)) = some r := h
 clear h
 by_cases c2 : 0 < (ab.length : Int)
 ·rw [if_pos c2] at H
  have aU := Z35 c2
  have aV : decide (0 < ab.length) = true := Z35 (by omega)
  clear c2
  obtain rfl := Option.some.inj H
  go_enter Tryz.func48, Tryz.ntmps48
  go_wp2_with (first | ((with_reducible refine gate_dst (N := 1) rfl ?_); refine Yx 1 #[.slice ai ae.length aj, .slice ak af.length al, .slice am ag.length an, .slice ao ab.length ap] 27 ?_; intro aK hg w3 hbox hb; have ah := Ya hbox; have aL := Yg hg; replace HB := Yh hb; clear hb hbox hg; obtain ⟨ar, au, av, aw, ax, ay, az, aA⟩ := Y4 ah.1; have ac : 0 ≤ (0 : Int) := (by omega); have ad : 0 < (ab.length : Int) := Z27 Q5; obtain ⟨aM, aB, aa⟩ := Kd.at_int aq.1 0 ac ad; cases aB; have qi753 : (0 < ab.length) = True := eq_true (by omega); (try rw [show ((0 : Int)).toNat = 0 from rfl] at aa); (try rw [Addr.add_zero'] at aa); try replace aa := (HB.1.cell (World.block_lt_of_cell? w _ aa)).trans aa; replace ac := eq_true ac; replace ad := eq_true ad))
  repeat (go_quiet (first | ((with_reducible refine gate_dst (N := 1) rfl ?_); refine Yx 1 #[.slice ai ae.length aj, .slice ak af.length al, .slice am ag.length an, .slice ao ab.length ap] 27 ?_; intro aK hg w3 hbox hb; have ah := Ya hbox; have aL := Yg hg; replace HB := Yh hb; clear hb hbox hg; obtain ⟨ar, au, av, aw, ax, ay, az, aA⟩ := Y4 ah.1; have ac : 0 ≤ (0 : Int) := (by omega); have ad : 0 < (ab.length : Int) := Z27 Q5; obtain ⟨aM, aB, aa⟩ := Kd.at_int aq.1 0 ac ad; cases aB; have qi753 : (0 < ab.length) = True := eq_true (by omega); (try rw [show ((0 : Int)).toNat = 0 from rfl] at aa); (try rw [Addr.add_zero'] at aa); try replace aa := (HB.1.cell (World.block_lt_of_cell? w _ aa)).trans aa; replace ac := eq_true ac; replace ad := eq_true ad)); try go_wp2_with (first | ((with_reducible refine gate_dst (N := 1) rfl ?_); refine Yx 1 #[.slice ai ae.length aj, .slice ak af.length al, .slice am ag.length an, .slice ao ab.length ap] 27 ?_; intro aK hg w3 hbox hb; have ah := Ya hbox; have aL := Yg hg; replace HB := Yh hb; clear hb hbox hg; obtain ⟨ar, au, av, aw, ax, ay, az, aA⟩ := Y4 ah.1; have ac : 0 ≤ (0 : Int) := (by omega); have ad : 0 < (ab.length : Int) := Z27 Q5; obtain ⟨aM, aB, aa⟩ := Kd.at_int aq.1 0 ac ad; cases aB; have qi753 : (0 < ab.length) = True := eq_true (by omega); (try rw [show ((0 : Int)).toNat = 0 from rfl] at aa); (try rw [Addr.add_zero'] at aa); try replace aa := (HB.1.cell (World.block_lt_of_cell? w _ aa)).trans aa; replace ac := eq_true ac; replace ad := eq_true ad)))
  go_ret
  exact ⟨Q2, Q12⟩
 ·rw [if_neg c2] at H
  exact absurd H (by simp)
mutual
def impl_RunSwapper.l0 : Nat → Int → List Int → List Int → List Int → List Bool → List Int → List Int → List Int → Option (List Int)
 | 0, _, _, _, _, _, _, _, _ => none
 | k + 1, m, b, out, d, u, p, it, wh => if (out.length : Int) < m then ((impl_Focus_isLast.f b d u p).bind fun t => (if t = true then some out else ((Go.Proofs.YtapbbmicfkbafaaGreat.SwW.stepS b d u p it wh).bind fun r => (if out.length < 1000000 then (impl_RunSwapper.l0 k m b (out ++ [r.2.2.2.2.2]) r.1 r.2.1 r.2.2.1 r.2.2.2.1 r.2.2.2.2.1) else none)))) else (some out)
end
def impl_RunSwapper.f (k : Nat) (a0 : Int) (a1 : Int) : Option (List Int × Bool) := (impl_isSwapperSize.f a0).bind fun t => (if t = true then ((impl_within.f a1 0 5040).bind fun b => (if b = true then ((impl_startSwapper.f k a0).bind fun s => ((impl_RunSwapper.l0 k a1 s.1 [] s.2.1 s.2.2.1 s.2.2.2.1 s.2.2.2.2.1 s.2.2.2.2.2).bind fun o => some (o, true))) else some ([], false))) else some ([], false))
open Go.Proofs.YtapbbmicfkbafaaGreat.FoW Go.Proofs.YtapbbmicfkbafaaGreat.SwW in
theorem impl_RunSwapper.calls (k : Nat) (a0 : Int) (a1 : Int) (r1 : List Int) (r2 : Bool) (w : World) (h : impl_RunSwapper.f k a0 a1 = some (r1, r2)) :
  Calls Tryz.prog 21 #[.int .i64 a0, .int .i64 a1] w fun e w' => ∃ v0_ : Value, e = .returned (.tuple #[v0_, .bool r2]) ∧ Kd.R (Kd.int .i64) 3 w' w.heap.size (fun _ => True) v0_ r1 ∧ Below w.heap.size w w' := by
 have hu := Tryz.underlying29
 have hu2 := Tryz.underlying27
 unfold impl_RunSwapper.f at h
 obtain ⟨t1, h1, H⟩ := Z33.mp h
 have T1 := Ya h1
 clear h h1
 cases t1
 ·simp only [Bool.false_eq_true, if_false, Option.some.injEq, Prod.mk.injEq] at H
  obtain ⟨rfl, rfl⟩ := H
  go_enter Tryz.func21, Tryz.ntmps21
  go_wp2_with fail
  refine (impl_isSwapperSize.calls a0 false _ T1.1).mono ?_
  rintro e w1 ⟨rfl, hd1⟩
  have hb1 : Below w.heap.size w w1 := by first | exact hd1 | exact Drawn0.below hd1
  have HB := Ya hb1
  clear hb1 hd1
  go_wp2
  go_ret2
  exact ⟨_, rfl, Kd.R_nil _ _ _ _ _, HB.1⟩
 simp only [if_true] at H
 replace H := Z33.mp H
 obtain ⟨t2, h2, H⟩ := H
 have T2 := Ya h2
 clear h2
 cases t2
 ·simp only [Bool.false_eq_true, if_false, Option.some.injEq, Prod.mk.injEq] at H
  obtain ⟨rfl, rfl⟩ := H
  go_enter Tryz.func21, Tryz.ntmps21
  go_wp2_with fail
  refine (impl_isSwapperSize.calls a0 true _ T1.1).mono ?_
  rintro e w1 ⟨rfl, hd1⟩
  have hb1 : Below w.heap.size w w1 := by first | exact hd1 | exact Drawn0.below hd1
  have HB := Ya hb1
  clear hb1 hd1
  go_wp2_with fail
  refine (impl_within.calls a1 0 5040 false _ T2.1).mono ?_
  rintro e w5 ⟨rfl, hd5⟩
  have hb5 : Below w1.heap.size w1 w5 := by first | exact hd5 | exact Drawn0.below hd5
  replace HB := Ya (Z8 HB.1 hb5)
  clear hb5 hd5
  go_wp2
  go_ret2
  exact ⟨_, rfl, Kd.R_nil _ _ _ _ _, HB.1⟩
 simp only [if_true] at H
 replace H := Z33.mp H
 obtain ⟨⟨b, D1, U1, P1, I1, W1⟩, h3, H⟩ := H
 replace H := Z33.mp H
 obtain ⟨o, h4, H⟩ := H
 simp only [Option.some.injEq, Prod.mk.injEq] at H
 obtain ⟨rfl, rfl⟩ := H
 have A1_ := Ya h3
 have H' := Ya h4
 clear h3 h4
 go_enter Tryz.func21, Tryz.ntmps21
 go_wp2_with fail
 refine (impl_isSwapperSize.calls a0 true _ T1.1).mono ?_
 rintro e w1 ⟨rfl, hd1⟩
 have hb1 : Below w.heap.size w w1 := by first | exact hd1 | exact Drawn0.below hd1
 have HB := Ya hb1
 clear hb1 hd1
 go_wp2_with fail
 refine (impl_within.calls a1 0 5040 true _ T2.1).mono ?_
 rintro e w5 ⟨rfl, hd5⟩
 have hb5 : Below w1.heap.size w1 w5 := by first | exact hd5 | exact Drawn0.below hd5
 replace HB := Ya (Z8 HB.1 hb5)
 clear hb5 hd5
 go_upto_region 4 with (first | ((with_reducible refine gate_dst (N := 16) rfl ?_); refine Kd.R_lit (Kd.int .i64) _ 3 ?hg (N := 16) ?hd (xs := ([] : List Int)) (inner := []) (ok := fun _ => True) (okp := fun _ => True) ?hr ?hp (fun _ hk => hk) trivial (Below.refl _ _) (Nat.le_refl _) (by simp) ?_; (case hd => rfl); (case hg => rfl); (case hr => first | (go_simp; done) | (go_simp; rfl)); (case hp => exact (Reps.none _ _)); intro vL w1 ho hb hg_ hnew_; have HO := Yl ho; have n0_ := Yh hb; clear HB; have HB := n0_; clear n0_ ho hb hg_ hnew_) | ((with_reducible refine gate_callee (f := 34) rfl ?_); refine Yz 18 Tryz.func34 #[.int .i64 a0] ?_ (hargs := Q19); (with_reducible refine (impl_startSwapper.calls k a0 b D1 U1 P1 I1 W1 _ A1_.1).mono ?_); rintro e w2 ⟨v0, v1, v2, v3, v4, v5, rfl, ac, ad, ae, af, ag, ah, hb⟩; refine ⟨_, rfl, ?_⟩; have HSZ := Z7 Q0; have hSV : SwV w2 w.heap.size v0 v1 v2 v3 v4 v5 b D1 U1 P1 I1 W1 := ⟨Kd.R_lower ac HSZ, Kd.R_lower ad HSZ, Kd.R_lower ae HSZ, Kd.R_lower af HSZ, Kd.R_lower ag HSZ, Kd.R_lower ah HSZ⟩; have s0 := Kd.R_base ac; have s1 := Kd.R_base ad; have s2 := Kd.R_base ae; have s3 := Kd.R_base af; have s4 := Kd.R_base ag; have s5 := Kd.R_base ah; obtain ⟨A0, q0, rfl⟩ := Z15 ac; obtain ⟨A1, q1, rfl⟩ := Z15 ad; obtain ⟨A2, q2, rfl⟩ := Z15 ae; obtain ⟨A3, q3, rfl⟩ := Z15 af; obtain ⟨A4, q4, rfl⟩ := Z15 ag; obtain ⟨A5, q5, rfl⟩ := Z15 ah; have n0_ := Yh hb; have n1_ : Aside0 (Kd.R (Kd.int .i64) 3 w2 w.heap.size (fun k_ => some k_ ≠ (.slice A0 b.length q0 : Value).ownBlock ∧ some k_ ≠ (.slice A1 D1.length q1 : Value).ownBlock ∧ some k_ ≠ (.slice A2 U1.length q2 : Value).ownBlock ∧ some k_ ≠ (.slice A3 P1.length q3 : Value).ownBlock ∧ some k_ ≠ (.slice A4 I1.length q4 : Value).ownBlock ∧ some k_ ≠ (.slice A5 W1.length q5 : Value).ownBlock) vL ([] : List Int)) := ⟨Z13 (Kd.R_reok rfl (Yr HO.1) (fun k_ hk => (by have hl_ := Z14 HO.1 k_ hk; exact ⟨fun e_ => Nat.not_le.2 hl_ (s0 k_ e_.symm), fun e_ => Nat.not_le.2 hl_ (s1 k_ e_.symm), fun e_ => Nat.not_le.2 hl_ (s2 k_ e_.symm), fun e_ => Nat.not_le.2 hl_ (s3 k_ e_.symm), fun e_ => Nat.not_le.2 hl_ (s4 k_ e_.symm), fun e_ => Nat.not_le.2 hl_ (s5 k_ e_.symm)⟩))) hb⟩; have HV := Ya hSV; clear HB HO HSZ ac ad ae af ag ah s0 s1 s2 s3 s4 s5 hb hSV; have HB := n0_; have HO := n1_; clear n0_ n1_) | ((with_reducible refine gate_dst (N := 7) rfl ?_); refine Yx 7 YN6 29 ?_; intro ab hg w3 hbox hb; have n0_ := Yh hb; have BK := Ya hbox; have am := Ya (by rw [hg]; exact Z7 Q0 : w.heap.size ≤ ab); have n1_ := Ya (SwV.below (Qm1 HV.1) hb); have n2_ := Yw HO hb; clear HV HO; have HV := n1_; have HO := n2_; clear n1_ n2_; clear HB; have HB := n0_; clear n0_; have hd0 := (Z20 BK.1 0).trans rfl; have hd1 := (Z20 BK.1 1).trans rfl; have hd2 := (Z20 BK.1 2).trans rfl; have hd3 := (Z20 BK.1 3).trans rfl; have hd4 := (Z20 BK.1 4).trans rfl; have hd5 := (Z20 BK.1 5).trans rfl; have hf0 := Z21 BK.1 0; have hf1 := Z21 BK.1 1; have hf2 := Z21 BK.1 2; have hf3 := Z21 BK.1 3; have hf4 := Z21 BK.1 4; have hf5 := Z21 BK.1 5; clear hb hbox hg))
 replace HV := Ya (SwV.set6 HV.1 BK.1 (by decide) (by decide) (.slice A0 b.length q0) (.slice A1 D1.length q1) (.slice A2 U1.length q2) (.slice A3 P1.length q3) (.slice A4 I1.length q4) (.slice A5 W1.length q5))
 replace HO := Ya (Z12 (Kd.R_move (w1 := set6 w3 ab (.slice A0 b.length q0) (.slice A1 D1.length q1) (.slice A2 U1.length q2) (.slice A3 P1.length q3) (.slice A4 I1.length q4) (.slice A5 W1.length q5)) (Kd.R_types HO.1 BK.1 (by decide)) (fun k hk => set6_far _ _ _ _ _ _ _ _ k hk.2)) (fun k hk => hk.1))
 replace BK := Ya (set6_at BK.1 (.slice A0 b.length q0) (.slice A1 D1.length q1) (.slice A2 U1.length q2) (.slice A3 P1.length q3) (.slice A4 I1.length q4) (.slice A5 W1.length q5))
 replace HB := Ya (set6_below HB.1 am.1 (.slice A0 b.length q0) (.slice A1 D1.length q1) (.slice A2 U1.length q2) (.slice A3 P1.length q3) (.slice A4 I1.length q4) (.slice A5 W1.length q5))
 clear hd0 hf0 hd1 hf1 hd2 hf2 hd3 hf3 hd4 hf4 hd5 hf5
 unfold set6 at BK HV HO HB
 generalize ((((((w3.setCell ⟨ab, 0, none⟩ (.slice A0 b.length q0)).setCell ⟨ab, 1, none⟩ (.slice A1 D1.length q1)).setCell ⟨ab, 2, none⟩ (.slice A2 U1.length q2)).setCell ⟨ab, 3, none⟩ (.slice A3 P1.length q3)).setCell ⟨ab, 4, none⟩ (.slice A4 I1.length q4)).setCell ⟨ab, 5, none⟩ (.slice A5 W1.length q5)) = w4 at BK HV HO HB ⊢
 go_loopg [6] k (fun kq v6 w' => ∃ (out d : List Int) (u : List Bool) (p it wh : List Int), Aside0 (impl_RunSwapper.l0 kq a1 b out d u p it wh = some o) ∧ Aside0 (kq ≤ k) ∧ Aside0 (d.length = D1.length ∧ u.length = U1.length ∧ p.length = P1.length ∧ it.length = I1.length ∧ wh.length = W1.length) ∧ Aside0 (w'.heap[ab]? = some (.cells #[.slice A0 b.length q0, .slice A1 D1.length q1, .slice A2 U1.length q2, .slice A3 P1.length q3, .slice A4 I1.length q4, .slice A5 W1.length q5] 29 (0, 0))) ∧ Aside0 (SwV w' w.heap.size (.slice A0 b.length q0) (.slice A1 D1.length q1) (.slice A2 U1.length q2) (.slice A3 P1.length q3) (.slice A4 I1.length q4) (.slice A5 W1.length q5) b d u p it wh) ∧ Aside0 (Kd.R (Kd.int .i64) 3 w' w.heap.size (fun k_ => some k_ ≠ (.slice A0 b.length q0 : Value).ownBlock ∧ some k_ ≠ (.slice A1 D1.length q1 : Value).ownBlock ∧ some k_ ≠ (.slice A2 U1.length q2 : Value).ownBlock ∧ some k_ ≠ (.slice A3 P1.length q3 : Value).ownBlock ∧ some k_ ≠ (.slice A4 I1.length q4 : Value).ownBlock ∧ some k_ ≠ (.slice A5 W1.length q5 : Value).ownBlock) v6 out) ∧ Aside0 (Below w.heap.size w w'))
 case atStart => exact ⟨[], D1, U1, P1, I1, W1, H', ⟨Nat.le_refl _⟩, ⟨rfl, rfl, rfl, rfl, rfl⟩, BK, HV, HO, HB⟩
 case round =>
  clear H' BK HV HO HB
  obtain ⟨out, d, u, p, it, wh, HA, HK1, HL, BK, HV, HO, HB⟩ := hrel
  cases gk with
  | zero => exact absurd HA.1 (by simp [impl_RunSwapper.l0])
  | succ k1 =>
   have H := HA.1
   clear HA
   simp only [impl_RunSwapper.l0] at H
   obtain ⟨Ao, co, eo⟩ := Z15 HO.1
   subst eo
   by_cases c1 : (out.length : Int) < a1
   rotate_left
   ·rw [if_neg c1] at H
    obtain rfl := Option.some.inj H
    have b1 : decide ((out.length : Int) < a1) = false := Z34 c1
    clear c1 H
    go_wp2
    go_ret2
    first | exact ⟨_, rfl, Z12 HO.1 (fun _ _ => trivial), HB.1⟩ | exact ⟨rfl, _, Z12 HO.1 (fun _ _ => trivial), HB.1⟩
   rw [if_pos c1] at H
   have b1 : decide ((out.length : Int) < a1) = true := Z35 c1
   replace H := Z33.mp H
   obtain ⟨t, ht, H⟩ := H
   have HT := Ya ht
   obtain ⟨hd, hu', hp, hi', hw'⟩ := HL.1
   have hbk := BK.1
   rw [← hd, ← hu', ← hp, ← hi', ← hw'] at hbk
   have HBK := Ya hbk
   have aa : Aside0 (SwV _ w.heap.size (.slice A0 b.length q0) (.slice A1 d.length q1) (.slice A2 u.length q2) (.slice A3 p.length q3) (.slice A4 it.length q4) (.slice A5 wh.length q5) b d u p it wh) := ⟨by have := HV.1; rw [← hd, ← hu', ← hp, ← hi', ← hw'] at this; exact this⟩
   have ai := (Z20 HBK.1 0).trans rfl
   have aj := (Z20 HBK.1 1).trans rfl
   have ak := (Z20 HBK.1 2).trans rfl
   have al := (Z20 HBK.1 3).trans rfl
   clear c1 ht hbk hd hu' hp hi' hw'
   cases t
   rotate_left
   ·simp only [if_true] at H
    obtain rfl := Option.some.inj H
    clear H
    go_wp2_with fail
    refine (impl_Focus_isLast.calls _ _ b _ _ d _ _ u _ _ p true _ (Kd.R_reads' aa.1.r0).2.2 (Kd.R_reads' aa.1.r0).2.1 (Kd.R_reads' aa.1.r1).2.2 (Kd.R_reads' aa.1.r1).2.1 (Kd.R_reads' aa.1.r2).2.2 (Kd.R_reads' aa.1.r2).2.1 (Kd.R_reads' aa.1.r3).2.2 (Kd.R_reads' aa.1.r3).2.1 HT.1).mono ?_
    rintro e w6 ⟨rfl, hd6⟩
    have hb6 : Below wr.heap.size wr w6 := by first | exact hd6 | exact Drawn0.below hd6
    replace HB := Ya (Z8 HB.1 hb6)
    replace HO := Ya (Z13 HO.1 hb6)
    clear hd6 hb6 ai aj ak al
    go_wp2
    go_ret2
    first | exact ⟨_, rfl, Z12 HO.1 (fun _ _ => trivial), HB.1⟩ | exact ⟨rfl, _, Z12 HO.1 (fun _ _ => trivial), HB.1⟩
   simp only [Bool.false_eq_true, if_false] at H
   replace H := Z33.mp H
   obtain ⟨⟨d', u', p', it', wh', r⟩, hs, H⟩ := H
   by_cases c2' : out.length < 1000000
   rotate_left
   ·rw [if_neg c2'] at H; exact absurd H (by simp)
   rw [if_pos c2'] at H
   have H' := Ya H
   have HS := Ya hs
   have LM := Ya c2'
   obtain ⟨hl, hl0, hl1, hl2, hl3, hl4, hl5⟩ := stepS_len hs
   have HL2 := Ya hl
   obtain ⟨g0, p0, g1, p1, g2, p2, g3, p3, g4, p4, g5, p5, e0, e1, e2, e3, e4, e5, hF⟩ := SwR.of aa.1 hl0 hl1 hl2 hl3 hl4 hl5
   injection e0 with x0 _ z0
   injection e1 with x1 _ z1
   injection e2 with x2 _ z2
   injection e3 with x3 _ z3
   injection e4 with x4 _ z4
   injection e5 with x5 _ z5
   subst x0 z0 x1 z1 x2 z2 x3 z3 x4 z4 x5 z5
   have HF := Ya hF
   clear H hs c2' hl hl0 hl1 hl2 hl3 hl4 hl5 hF HV
   go_wp2_with fail
   refine (impl_Focus_isLast.calls _ _ b _ _ d _ _ u _ _ p false _ (Kd.R_reads' aa.1.r0).2.2 (Kd.R_reads' aa.1.r0).2.1 (Kd.R_reads' aa.1.r1).2.2 (Kd.R_reads' aa.1.r1).2.1 (Kd.R_reads' aa.1.r2).2.2 (Kd.R_reads' aa.1.r2).2.1 (Kd.R_reads' aa.1.r3).2.2 (Kd.R_reads' aa.1.r3).2.1 HT.1).mono ?_
   rintro e w6 ⟨rfl, hd6⟩
   have hb6 : Below wr.heap.size wr w6 := by first | exact hd6 | exact Drawn0.below hd6
   replace HB := Ya (Z8 HB.1 hb6)
   replace HO := Ya (Z13 HO.1 hb6)
   replace HBK := Ya (Z25 HBK.1 hb6)
   replace HF := Ya (SwR.below HF.1 hb6)
   replace BK := Ya (Z25 BK.1 hb6)
   clear hd6 hb6 ai aj ak al aa
   go_wp2_with (first | ((with_reducible refine gate_callee (f := 27) rfl ?_); refine Yz 30 Tryz.func27 #[.pointer (some ⟨ab, 0, none⟩)] ?_ (hargs := Q19); (with_reducible refine (impl_Swapper_step.calls w ab g0 q0 g1 q1 g2 q2 g3 q3 g4 q4 g5 q5 b d u p it wh d' u' p' it' wh' r _ HBK.1 HF.1 HB.1 HS.1).mono ?_); rintro e w7 ⟨rfl, hk1, hk2, hk3, hk4⟩; refine ⟨_, rfl, ?_⟩; have n0_ := Ya (hk1.trans BK.1); have n1_ := Ya (Kd.R_kept HO.1 hk3 (fun k hk hs_ => by rcases hs_ with (e | e | e) | e | e; exact hk.2.1 (by rw [e]; rfl); exact hk.2.2.1 (by rw [e]; rfl); exact hk.2.2.2.1 (by rw [e]; rfl); exact hk.2.2.2.2.1 (by rw [e]; rfl); exact hk.2.2.2.2.2 (by rw [e]; rfl))); have hv := SwR.back hk2; rw [HL2.1.1, HL2.1.2.1, HL2.1.2.2.1, HL2.1.2.2.2.1, HL2.1.2.2.2.2, HL.1.1, HL.1.2.1, HL.1.2.2.1, HL.1.2.2.2.1, HL.1.2.2.2.2] at hv; have HV := Ya hv; clear HBK BK HF HO HB; have BK := n0_; have HO := n1_; have HB := Ya hk4; clear n0_ n1_ hk1 hk2 hk3 hk4 hv) | ((with_reducible refine gate_builtin (b := .append) (xs := #[.tmp 29, .tmp 31]) rfl ?_); at_builtin; refine Kd.R_append (Kd.int .i64) (w0 := w) w.heap.size rfl (.tmp 29) (.tmp 31) 24 3 (.int .i64 0) 8 rfl Tryz.underlying24 info3 rfl (by decide) (by omega) (.slice Ao out.length co) out r [.int .i64 r] (fun k_ => some k_ ≠ (.slice (some ⟨g0, 0, none⟩) b.length q0 : Value).ownBlock ∧ some k_ ≠ (.slice (some ⟨g1, 0, none⟩) D1.length q1 : Value).ownBlock ∧ some k_ ≠ (.slice (some ⟨g2, 0, none⟩) U1.length q2 : Value).ownBlock ∧ some k_ ≠ (.slice (some ⟨g3, 0, none⟩) P1.length q3 : Value).ownBlock ∧ some k_ ≠ (.slice (some ⟨g4, 0, none⟩) I1.length q4 : Value).ownBlock ∧ some k_ ≠ (.slice (some ⟨g5, 0, none⟩) W1.length q5 : Value).ownBlock) (fun _ => False) rfl (by first | (go_simp; done) | (go_simp; rfl)) ?aP (fun _ hk => hk.elim) ?aF ?aO ?aB ?aS ?aL ?_; (case aP => exact rfl); (case aB => exact HB.1); (case aF => exact (fun k hk => by have l_ := fun j (hj : OwnS (.slice (some ⟨g0, 0, none⟩) b.length q0) (.slice (some ⟨g1, 0, none⟩) D1.length q1) (.slice (some ⟨g2, 0, none⟩) U1.length q2) (.slice (some ⟨g3, 0, none⟩) P1.length q3) (.slice (some ⟨g4, 0, none⟩) I1.length q4) (.slice (some ⟨g5, 0, none⟩) W1.length q5) j) => Nat.lt_of_lt_of_le (SwV.lt HV.1 j hj) hk; exact ⟨fun e => Nat.lt_irrefl _ (l_ k (.inl e.symm)), fun e => Nat.lt_irrefl _ (l_ k (.inr (.inl e.symm))), fun e => Nat.lt_irrefl _ (l_ k (.inr (.inr (.inl e.symm)))), fun e => Nat.lt_irrefl _ (l_ k (.inr (.inr (.inr (.inl e.symm))))), fun e => Nat.lt_irrefl _ (l_ k (.inr (.inr (.inr (.inr (.inl e.symm)))))), fun e => Nat.lt_irrefl _ (l_ k (.inr (.inr (.inr (.inr (.inr e.symm))))))⟩)); (case aO => exact HO.1); (case aS => exact HB.1.size); (case aL => have := LM.1; omega); intro v8 w8 ho hb hg hat; have n0_ := Ya (blk_grown BK.1 hg (Kd.R_ne HO.1 BK.1 (by decide))); have n1_ := Ya (SwV.grown HV.1 hg (fun k hk => by have o_ := HO.1.1 k hk; exact not_ownS o_.1 o_.2.1 o_.2.2.1 o_.2.2.2.1 o_.2.2.2.2.1 o_.2.2.2.2.2)); clear HO HB BK HV; have HO := Ya ho; have HB := Ya hb; have BK := n0_; have HV := n1_; clear n0_ n1_ ho hb hg hat))
   go_roundg k1
   case measure => have := HK1.1; omega
   case rel => exact ⟨_, d', u', p', it', wh', H', ⟨Q35⟩, ⟨Q64⟩, BK, HV, HO, HB⟩
mutual
def spec_RunSwapper.j0 : Nat → Int → Int → Bool → Option (List Int × Bool)
 | 0, _, _, _ => none
 | k + 1, x0, x1, ab => if ab = true then (some (([] : List Int), false)) else ((spec_foSwapper.f k x0).bind fun aa => (spec_RunSwapper.l0 k x1 ([] : List Int) aa.1 aa.2.1 aa.2.2.1 aa.2.2.2.1 aa.2.2.2.2.1 aa.2.2.2.2.2))
def spec_RunSwapper.l0 : Nat → Int → List Int → List Int → List Int → List Bool → List Int → List Int → List Int → Option (List Int × Bool)
 | 0, _, _, _, _, _, _, _, _ => none
 | k + 1, x1, x6, ab, ac, ad, ae, af, ag => if x1 > 0 then ((spec_foSwap.f k ab ac ad ae af ag).bind fun aa => (if aa.2.2.2.2.2.2 < 0 then (some (x6, true)) else (if x6.length < 17592186044416 then (spec_RunSwapper.l0 k (wrap64 (x1 - 1)) (x6 ++ [aa.2.2.2.2.2.2]) aa.1 aa.2.1 aa.2.2.1 aa.2.2.2.1 aa.2.2.2.2.1 aa.2.2.2.2.2.1) else (none)))) else (some (x6, true))
end
def spec_RunSwapper.f (k : Nat) (a0 : Int) (a1 : Int) : Option (List Int × Bool) := (spec_foSize.f a0).bind fun aa => (if aa = true then ((spec_l1In.f a1 0 5040).bind fun ab => (spec_RunSwapper.j0 k a0 a1 (!ab))) else (spec_RunSwapper.j0 k a0 a1 true))
theorem spec_RunSwapper.calls (k : Nat) (a0 : Int) (a1 : Int) (r1 : List Int) (r2 : Bool) (w : World) (h : spec_RunSwapper.f k a0 a1 = some (r1, r2)) :
  Calls Tryz.prog 22 #[.int .i64 a0, .int .i64 a1] w fun e w' => ∃ v0_ : Value, e = .returned (.tuple #[v0_, .bool r2]) ∧ Kd.R (Kd.int .i64) 3 w' w.heap.size (fun _ => True) v0_ r1 ∧ Below w.heap.size w w' := by
 have hu29 := Tryz.underlying29
 have HB := Ya (Below.refl w.heap.size w)
 have H : ((spec_foSize.f a0).bind fun b5 => (if b5 = true then ((spec_l1In.f a1 0 5040).bind fun bF => (spec_RunSwapper.j0 k a0 a1 (!bF))) else (spec_RunSwapper.j0 k a0 a1 true))) = some (r1, r2) := h
 clear h
 have cf := Ya H
 clear H
 go_enter Tryz.func22, Tryz.ntmps22
 go_upto_region 1 with (fail)
 go_cut [17] (fun cP wc => ∃ (kq : Nat) (bA : Bool), cP = .bool bA ∧ Aside0 (spec_RunSwapper.j0 kq a0 a1 bA = some (r1, r2)) ∧ Aside0 (kq ≤ k) ∧ Aside0 (Below w.heap.size w wc))
 case first =>
  have H := cf.1
  clear cf
  replace H := YB H
  obtain ⟨b5, A4, H⟩ := H
  replace H := YC H
  obtain ⟨rfl, H⟩ | ⟨rfl, H⟩ := H
  ·replace H := YB H
   obtain ⟨bF, A6, H⟩ := H
   have H' := Ya H
   clear H
   go_wp2_with (first | ((with_reducible refine gate_callee (f := 44) rfl ?_); refine Yz 11 Tryz.func44 #[.int .i64 a0] ?_; (with_reducible refine (spec_foSize.calls a0 true _ A4.1).mono ?_); rintro e w' ⟨rfl, ⟨nd, rfl⟩⟩; refine ⟨_, rfl, ?_⟩) | (go_at_call 45; (with_reducible refine (spec_l1In.calls a1 0 5040 bF _ A6.1).mono ?_); rintro e w' ⟨rfl, ⟨nd, rfl⟩⟩))
   go_meet
   case rel => exact ⟨_, (!bF), Q17, H', ⟨Q43⟩, ⟨Q12⟩⟩
  ·have H' := Ya H
   clear H
   go_wp2_with (first | ((with_reducible refine gate_callee (f := 44) rfl ?_); refine Yz 11 Tryz.func44 #[.int .i64 a0] ?_; (with_reducible refine (spec_foSize.calls a0 false _ A4.1).mono ?_); rintro e w' ⟨rfl, ⟨nd, rfl⟩⟩; refine ⟨_, rfl, ?_⟩))
   go_meet
   case rel => exact ⟨_, (true), Q17, H', ⟨Q43⟩, ⟨Q12⟩⟩
 case rest =>
  clear cf
  obtain ⟨kq, bA, rfl, HA, cH, HB⟩ := hcut
  cases kq with
  | zero => exact absurd HA.1 (by simp [spec_RunSwapper.j0])
  | succ cg =>
   have H := HA.1
   clear HA
   simp only [spec_RunSwapper.j0] at H
   replace H := YC H
   obtain ⟨rfl, H⟩ | ⟨rfl, H⟩ := H
   ·simp only [Option.some.injEq, Prod.mk.injEq] at H
    obtain ⟨rfl, rfl⟩ := H
    go_wp2
    go_ret2
    exact ⟨_, Q2, Q3, Q12⟩
   ·replace H := YB H
    obtain ⟨⟨bh, bk, bu, bB, bG, bY⟩, A8, H⟩ := H
    dsimp only at H
    have H' := Ya H
    clear H
    go_wp2_with (first | ((with_reducible refine gate_callee (f := 49) rfl ?_); refine Yz 19 Tryz.func49 #[.int .i64 a0] ?_; (with_reducible refine (spec_foSwapper.calls cg a0 bh bk bu bB bG bY _ A8.1).mono ?_); rintro e w9 ⟨cQ, cR, cS, cT, cU, cV, rfl, bb, bc, bE, bd, be, bf, hb⟩; refine ⟨_, rfl, ?_⟩; have bm := Yl bb; have bn := Yl bc; have bo := Yl bE; have bp := Yl bd; have bq := Yl be; have br := Yl bf; replace HB := Yh hb; (try clear hb bb bc bE bd be bf)) | ((with_reducible refine gate_dst (N := 7) rfl ?_); refine Yx 7 YN6 29 ?_; intro bW hg dp hbox hb; replace bm := Yw bm hb; replace bn := Yw bn hb; replace bo := Yw bo hb; replace bp := Yw bp hb; replace bq := Yw bq hb; replace br := Yw br hb; have af := Ya hbox; have cI := Yg hg; replace HB := Yh hb; clear hb hbox hg; obtain ⟨bv, bw, rfl⟩ := Z15 bm.1; obtain ⟨bH, bI, bJ, bK, bL, bN, bO, bP, bQ, bR, bS, bT⟩ := Y6 af.1; obtain ⟨bC, bD, rfl⟩ := Z15 bn.1; obtain ⟨bU, bV, rfl⟩ := Z15 bo.1; obtain ⟨bZ, b0, rfl⟩ := Z15 bp.1; obtain ⟨b6, b7, rfl⟩ := Z15 bq.1; obtain ⟨ch, cj, rfl⟩ := Z15 br.1))
    go_loopg [1, 6] cg (fun kq v1 v6 w' => ∃ (bi : Int) (bx : List Int) (ah : List Int) (ai : List Int) (an : List Bool) (aj : List Int) (ak : List Int) (al : List Int) (ap : Value) (aq : Value) (bg : Value) (ar : Value) (au : Value) (av : Value), v1 = .int .i64 bi ∧ Aside0 (spec_RunSwapper.l0 kq bi bx ah ai an aj ak al = some (r1, r2)) ∧ Aside0 (kq ≤ cg) ∧ Aside0 (Kd.R (Kd.int .i64) 3 w' w.heap.size (fun k_ => some k_ ≠ (ap : Value).ownBlock ∧ some k_ ≠ (aq : Value).ownBlock ∧ some k_ ≠ (ar : Value).ownBlock ∧ some k_ ≠ (au : Value).ownBlock ∧ some k_ ≠ (av : Value).ownBlock) v6 bx) ∧ Aside0 (Kd.R (Kd.int .i64) 3 w' w.heap.size (fun k_ => some k_ ≠ (v6 : Value).ownBlock ∧ some k_ ≠ (aq : Value).ownBlock ∧ some k_ ≠ (ar : Value).ownBlock ∧ some k_ ≠ (au : Value).ownBlock ∧ some k_ ≠ (av : Value).ownBlock) ap ah) ∧ Aside0 (Kd.R (Kd.int .i64) 3 w' w.heap.size (fun k_ => some k_ ≠ (v6 : Value).ownBlock ∧ some k_ ≠ (ap : Value).ownBlock ∧ some k_ ≠ (ar : Value).ownBlock ∧ some k_ ≠ (au : Value).ownBlock ∧ some k_ ≠ (av : Value).ownBlock) aq ai) ∧ Aside0 (Kd.R Kd.bool 4 w' w.heap.size (fun _ => True) bg an) ∧ Aside0 (Kd.R (Kd.int .i64) 3 w' w.heap.size (fun k_ => some k_ ≠ (v6 : Value).ownBlock ∧ some k_ ≠ (ap : Value).ownBlock ∧ some k_ ≠ (aq : Value).ownBlock ∧ some k_ ≠ (au : Value).ownBlock ∧ some k_ ≠ (av : Value).ownBlock) ar aj) ∧ Aside0 (Kd.R (Kd.int .i64) 3 w' w.heap.size (fun k_ => some k_ ≠ (v6 : Value).ownBlock ∧ some k_ ≠ (ap : Value).ownBlock ∧ some k_ ≠ (aq : Value).ownBlock ∧ some k_ ≠ (ar : Value).ownBlock ∧ some k_ ≠ (av : Value).ownBlock) au ak) ∧ Aside0 (Kd.R (Kd.int .i64) 3 w' w.heap.size (fun k_ => some k_ ≠ (v6 : Value).ownBlock ∧ some k_ ≠ (ap : Value).ownBlock ∧ some k_ ≠ (aq : Value).ownBlock ∧ some k_ ≠ (ar : Value).ownBlock ∧ some k_ ≠ (au : Value).ownBlock) av al) ∧ Aside0 (w'.heap[bW]? = some (.cells #[ap, aq, bg, ar, au, av] 29 (0, 0))) ∧ Aside0 (Below w.heap.size w w'))
    case atStart => exact ⟨(a1), (([] : List Int)), (bh), (bk), (bu), (bB), (bG), (bY), (.slice bv bh.length bw), (.slice bC bk.length bD), (.slice bU bu.length bV), (.slice bZ bB.length b0), (.slice b6 bG.length b7), (.slice ch bY.length cj), Q17, H', ⟨Nat.le_refl _⟩, ⟨Q3⟩, ⟨Yj (Yf6 bm.1 af.1) (fun _ hk => ⟨(by simp [Value.ownBlock]), ⟨hk.1.1, ⟨hk.1.2.1, ⟨hk.1.2.2.1, hk.1.2.2.2⟩⟩⟩⟩)⟩, ⟨Yj (Yf6 bn.1 af.1) (fun _ hk => ⟨(by simp [Value.ownBlock]), ⟨hk.1.1, ⟨hk.1.2.1, ⟨hk.1.2.2.1, hk.1.2.2.2⟩⟩⟩⟩)⟩, ⟨Yj (Yf6 bo.1 af.1) (fun _ hk => trivial)⟩, ⟨Yj (Yf6 bp.1 af.1) (fun _ hk => ⟨(by simp [Value.ownBlock]), ⟨hk.1.1, ⟨hk.1.2.1, ⟨hk.1.2.2.1, hk.1.2.2.2⟩⟩⟩⟩)⟩, ⟨Yj (Yf6 bq.1 af.1) (fun _ hk => ⟨(by simp [Value.ownBlock]), ⟨hk.1.1, ⟨hk.1.2.1, ⟨hk.1.2.2.1, hk.1.2.2.2⟩⟩⟩⟩)⟩, ⟨Yj (Yf6 br.1 af.1) (fun _ hk => ⟨(by simp [Value.ownBlock]), ⟨hk.1.1, ⟨hk.1.2.1, ⟨hk.1.2.2.1, hk.1.2.2.2⟩⟩⟩⟩)⟩, ⟨by (with_reducible repeat (first | refine Z22 ?_ _ | refine Z23 ?_ | refine Z24 ?_ _)); refine Z26 (cs := #[.slice bv bh.length bw, .slice bC bk.length bD, .slice bU bu.length bV, .slice bZ bB.length b0, .slice b6 bG.length b7, .slice none 0 0]) ?_ 5 _ rfl; (with_reducible repeat (first | refine Z22 ?_ _ | refine Z23 ?_ | refine Z24 ?_ _)); refine Z26 (cs := #[.slice bv bh.length bw, .slice bC bk.length bD, .slice bU bu.length bV, .slice bZ bB.length b0, .slice none 0 0, .slice none 0 0]) ?_ 4 _ rfl; (with_reducible repeat (first | refine Z22 ?_ _ | refine Z23 ?_ | refine Z24 ?_ _)); refine Z26 (cs := #[.slice bv bh.length bw, .slice bC bk.length bD, .slice bU bu.length bV, .slice none 0 0, .slice none 0 0, .slice none 0 0]) ?_ 3 _ rfl; (with_reducible repeat (first | refine Z22 ?_ _ | refine Z23 ?_ | refine Z24 ?_ _)); refine Z26 (cs := #[.slice bv bh.length bw, .slice bC bk.length bD, .slice none 0 0, .slice none 0 0, .slice none 0 0, .slice none 0 0]) ?_ 2 _ rfl; (with_reducible repeat (first | refine Z22 ?_ _ | refine Z23 ?_ | refine Z24 ?_ _)); refine Z26 (cs := #[.slice bv bh.length bw, .slice none 0 0, .slice none 0 0, .slice none 0 0, .slice none 0 0, .slice none 0 0]) ?_ 1 _ rfl; (with_reducible repeat (first | refine Z22 ?_ _ | refine Z23 ?_ | refine Z24 ?_ _)); refine Z26 (cs := YN6) ?_ 0 _ rfl; (with_reducible repeat (first | refine Z22 ?_ _ | refine Z23 ?_ | refine Z24 ?_ _)); exact af.1⟩, ⟨Q12⟩⟩
    case round =>
     clear H'
     try clear bH
     try clear bI
     try clear bJ
     try clear bK
     try clear bL
     try clear bN
     try clear bO
     try clear bP
     try clear bQ
     try clear bR
     try clear bS
     try clear bT
     obtain ⟨bi, bx, ah, ai, an, aj, ak, al, ap, aq, bg, ar, au, av, rfl, HA, cJ, ao, aa, ab, ag, ac, ad, ae, af, HB⟩ := hrel
     cases gk with
     | zero => exact absurd HA.1 (by simp [spec_RunSwapper.l0])
     | succ k2 =>
      have H := HA.1
      clear HA
      simp only [spec_RunSwapper.l0] at H
      by_cases b3 : bi > 0
      ·rw [if_pos b3] at H
       have b8 : decide (0 < bi) = true := Z35 b3
       clear b3
       replace H := YB H
       obtain ⟨⟨aw, ax, bl, ay, az, aA, bz⟩, cK, H⟩ := H
       dsimp only at H
       by_cases b4 : bz < 0
       ·rw [if_pos b4] at H
        have b9 := Z35 b4
        clear b4
        simp only [Option.some.injEq, Prod.mk.injEq] at H
        obtain ⟨rfl, rfl⟩ := H
        have cW := Y6 af.1
        obtain ⟨ck, cl, rfl⟩ := Z15 aa.1
        obtain ⟨cm, cp, rfl⟩ := Z15 ab.1
        obtain ⟨cq, cr, rfl⟩ := Z15 ag.1
        obtain ⟨ct, cu, rfl⟩ := Z15 ac.1
        obtain ⟨cv, cw, rfl⟩ := Z15 ad.1
        obtain ⟨cx, cy, rfl⟩ := Z15 ae.1
        go_wp2_with (first | ((with_reducible refine gate_callee (f := 29) rfl ?_); refine Yz 26 Tryz.func29 #[.agg #[.slice ck ah.length cl, .slice cm ai.length cp, .slice cq an.length cr, .slice ct aj.length cu, .slice cv ak.length cw, .slice cx al.length cy]] ?_; (with_reducible refine (spec_foSwap.calls k2 _ _ ah _ _ ai _ _ an _ _ aj _ _ ak _ _ al aw ax bl ay az aA bz _ (YX aa) (YL aa) (YX ab) (YL ab) (YX ag) (YL ag) (YX ac) (YL ac) (YX ad) (YL ad) (YX ae) (YL ae) cK.1).mono ?_); rintro e dq ⟨cz, cA, cB, cC, cD, cE, rfl, bb, bc, bE, bd, be, bf, hb⟩; refine ⟨_, rfl, ?_⟩; have aC := Yl (YW (YW (YW (YW (YW (YW bb ao) aa) ab) ac) ad) ae); have aD := Yl (YW (YW (YW (YW (YW (YW bc ao) aa) ab) ac) ad) ae); have aK := Yl (YW bE ag); replace ag := YE ag bE hb; have aE := Yl (YW (YW (YW (YW (YW (YW bd ao) aa) ab) ac) ad) ae); have aG := Yl (YW (YW (YW (YW (YW (YW be ao) aa) ab) ac) ad) ae); have aH := Yl (YW (YW (YW (YW (YW (YW bf ao) aa) ab) ac) ad) ae); replace ao := YM (YT (YT (YT (YT (YT (YO ao hb) bb) bc) bd) be) bf); replace aa := YM (YT (YT (YT (YT (YT (YO aa hb) bb) bc) bd) be) bf); replace ab := YM (YT (YT (YT (YT (YT (YO ab hb) bb) bc) bd) be) bf); replace ac := YM (YT (YT (YT (YT (YT (YO ac hb) bb) bc) bd) be) bf); replace ad := YM (YT (YT (YT (YT (YT (YO ad hb) bb) bc) bd) be) bf); replace ae := YM (YT (YT (YT (YT (YT (YO ae hb) bb) bc) bd) be) bf); replace af := Yb af hb; replace HB := Yh hb; (try clear hb bb bc bE bd be bf)) | ((with_reducible refine gate_dst (N := 8) rfl ?_); refine Yx 8 YN6 29 ?_; intro bX hg dr hbox hb; replace ao := Yw ao hb; replace aa := Yw aa hb; replace ab := Yw ab hb; replace ag := Yw ag hb; replace ac := Yw ac hb; replace ad := Yw ad hb; replace ae := Yw ae hb; replace aC := Yw aC hb; replace aD := Yw aD hb; replace aK := Yw aK hb; replace aE := Yw aE hb; replace aG := Yw aG hb; replace aH := Yw aH hb; have am := Ya hbox; have ca := Yg hg; replace HB := Yh hb; have aI := Yn af hg; have aJ := Ym af hg; replace af := Yb af hb; clear hb hbox hg; obtain ⟨cX, cY, rfl⟩ := Z15 aC.1; have cL := aJ.1; have cM := aI.1; have cZ := Y6 am.1; obtain ⟨da, db, rfl⟩ := Z15 aD.1; obtain ⟨dc, dd, rfl⟩ := Z15 aK.1; obtain ⟨de, df, rfl⟩ := Z15 aE.1; obtain ⟨dg, dh, rfl⟩ := Z15 aG.1; obtain ⟨di, dj, rfl⟩ := Z15 aH.1))
        go_ret2
        exact ⟨_, Q2, Yj (Yf6 ao.1 am.1) (fun _ hk => trivial), Q12⟩
       ·rw [if_neg b4] at H
        have b9 := Z34 b4
        clear b4
        by_cases ce : bx.length < 17592186044416
        ·rw [if_pos ce] at H
         have LMc38 := Ya ce
         clear ce
         obtain ⟨cb, bj⟩ : ∃ y_ : List Int, y_ = (bx ++ [bz]) := ⟨_, rfl⟩
         replace H : (spec_RunSwapper.l0 k2 (wrap64 (bi - 1)) cb aw ax bl ay az aA) = some (r1, r2) := by first | (rw [bj]; with_reducible exact H) | (have H2_ := (Option.bind_some _ _).symm.trans H; rw [bj]; with_reducible exact H2_) | (have H2_ := (Option.bind_some _ _).symm.trans H; with_reducible exact H2_) | with_reducible exact H | (rw [bj]; exact H) | exact H
         have cc := Ya bj
         clear bj
         have H' := Ya H
         clear H
         have dk := Y6 af.1
         obtain ⟨aZ, a2, rfl⟩ := Z15 aa.1
         obtain ⟨a3, a4, rfl⟩ := Z15 ab.1
         obtain ⟨cF, cG, rfl⟩ := Z15 ag.1
         obtain ⟨a5, a6, rfl⟩ := Z15 ac.1
         obtain ⟨a7, a8, rfl⟩ := Z15 ad.1
         obtain ⟨a9, ba, rfl⟩ := Z15 ae.1
         go_wp2_with (first | ((with_reducible refine gate_callee (f := 29) rfl ?_); refine Yz 26 Tryz.func29 #[.agg #[.slice aZ ah.length a2, .slice a3 ai.length a4, .slice cF an.length cG, .slice a5 aj.length a6, .slice a7 ak.length a8, .slice a9 al.length ba]] ?_; (with_reducible refine (spec_foSwap.calls k2 _ _ ah _ _ ai _ _ an _ _ aj _ _ ak _ _ al aw ax bl ay az aA bz _ (YX aa) (YL aa) (YX ab) (YL ab) (YX ag) (YL ag) (YX ac) (YL ac) (YX ad) (YL ad) (YX ae) (YL ae) cK.1).mono ?_); rintro e dt ⟨cz, cA, cB, cC, cD, cE, rfl, bb, bc, bE, bd, be, bf, hb⟩; refine ⟨_, rfl, ?_⟩; have aC := Yl (YW (YW (YW (YW (YW (YW bb ao) aa) ab) ac) ad) ae); have aD := Yl (YW (YW (YW (YW (YW (YW bc ao) aa) ab) ac) ad) ae); have aK := Yl (YW bE ag); replace ag := YE ag bE hb; have aE := Yl (YW (YW (YW (YW (YW (YW bd ao) aa) ab) ac) ad) ae); have aG := Yl (YW (YW (YW (YW (YW (YW be ao) aa) ab) ac) ad) ae); have aH := Yl (YW (YW (YW (YW (YW (YW bf ao) aa) ab) ac) ad) ae); replace ao := YM (YT (YT (YT (YT (YT (YO ao hb) bb) bc) bd) be) bf); replace aa := YM (YT (YT (YT (YT (YT (YO aa hb) bb) bc) bd) be) bf); replace ab := YM (YT (YT (YT (YT (YT (YO ab hb) bb) bc) bd) be) bf); replace ac := YM (YT (YT (YT (YT (YT (YO ac hb) bb) bc) bd) be) bf); replace ad := YM (YT (YT (YT (YT (YT (YO ad hb) bb) bc) bd) be) bf); replace ae := YM (YT (YT (YT (YT (YT (YO ae hb) bb) bc) bd) be) bf); replace af := Yb af hb; replace HB := Yh hb; (try clear hb bb bc bE bd be bf)) | ((with_reducible refine gate_dst (N := 8) rfl ?_); refine Yx 8 YN6 29 ?_; intro bX hg du hbox hb; replace ao := Yw ao hb; replace aa := Yw aa hb; replace ab := Yw ab hb; replace ag := Yw ag hb; replace ac := Yw ac hb; replace ad := Yw ad hb; replace ae := Yw ae hb; replace aC := Yw aC hb; replace aD := Yw aD hb; replace aK := Yw aK hb; replace aE := Yw aE hb; replace aG := Yw aG hb; replace aH := Yw aH hb; have am := Ya hbox; have ca := Yg hg; replace HB := Yh hb; have aI := Yn af hg; have aJ := Ym af hg; replace af := Yb af hb; clear hb hbox hg; obtain ⟨aM, aN, rfl⟩ := Z15 aC.1; have cN := aJ.1; have cO := aI.1; have dl := Y6 am.1; obtain ⟨aQ, aR, rfl⟩ := Z15 aD.1; obtain ⟨b1, b2, rfl⟩ := Z15 aK.1; obtain ⟨aT, aU, rfl⟩ := Z15 aE.1; obtain ⟨aV, aW, rfl⟩ := Z15 aG.1; obtain ⟨aX, aY, rfl⟩ := Z15 aH.1; have dm := Y6 af.1) | ((with_reducible refine gate_builtin (b := .append) (xs := #[.tmp 32, .tmp 34]) rfl ?_); at_builtin; refine Kd.R_append (Kd.int .i64) (w0 := w) w.heap.size rfl (.tmp 32) (.tmp 34) 24 3 (.int .i64 0) 8 rfl Tryz.underlying24 info3 rfl (by decide) (by omega) u6 bx bz [.int .i64 bz] (fun k_ => some k_ ≠ (.slice aZ ah.length a2 : Value).ownBlock ∧ some k_ ≠ (.slice a3 ai.length a4 : Value).ownBlock ∧ some k_ ≠ (.slice a5 aj.length a6 : Value).ownBlock ∧ some k_ ≠ (.slice a7 ak.length a8 : Value).ownBlock ∧ some k_ ≠ (.slice a9 al.length ba : Value).ownBlock ∧ some k_ ≠ (.slice aM aw.length aN : Value).ownBlock ∧ some k_ ≠ (.slice aQ ax.length aR : Value).ownBlock ∧ some k_ ≠ (.slice aT ay.length aU : Value).ownBlock ∧ some k_ ≠ (.slice aV az.length aW : Value).ownBlock ∧ some k_ ≠ (.slice aX aA.length aY : Value).ownBlock) (fun _ => False) rfl (by first | (go_simp; done) | (go_simp; rfl)) ?aP (fun _ hk => hk.elim) ?aF ?aO ?aB ?aS ?aL ?_; (case aP => exact rfl); (case aB => exact Q0); (case aF => exact (fun k_ hk => ⟨Kd.fresh' (Z14 (Yj (Z12 (Yd6 aa.1 am.1 af.1) (fun _ h_ => h_.1)) (fun _ h_ => h_.1))) k_ hk, Kd.fresh' (Z14 (Yj (Z12 (Yd6 ab.1 am.1 af.1) (fun _ h_ => h_.1)) (fun _ h_ => h_.1))) k_ hk, Kd.fresh' (Z14 (Yj (Z12 (Yd6 ac.1 am.1 af.1) (fun _ h_ => h_.1)) (fun _ h_ => h_.1))) k_ hk, Kd.fresh' (Z14 (Yj (Z12 (Yd6 ad.1 am.1 af.1) (fun _ h_ => h_.1)) (fun _ h_ => h_.1))) k_ hk, Kd.fresh' (Z14 (Yj (Z12 (Yd6 ae.1 am.1 af.1) (fun _ h_ => h_.1)) (fun _ h_ => h_.1))) k_ hk, Kd.fresh' (Z14 (Yj (Z12 (Yd6 aC.1 am.1 af.1) (fun _ h_ => h_.1)) (fun _ h_ => h_.1))) k_ hk, Kd.fresh' (Z14 (Yj (Z12 (Yd6 aD.1 am.1 af.1) (fun _ h_ => h_.1)) (fun _ h_ => h_.1))) k_ hk, Kd.fresh' (Z14 (Yj (Z12 (Yd6 aE.1 am.1 af.1) (fun _ h_ => h_.1)) (fun _ h_ => h_.1))) k_ hk, Kd.fresh' (Z14 (Yj (Z12 (Yd6 aG.1 am.1 af.1) (fun _ h_ => h_.1)) (fun _ h_ => h_.1))) k_ hk, Kd.fresh' (Z14 (Yj (Z12 (Yd6 aH.1 am.1 af.1) (fun _ h_ => h_.1)) (fun _ h_ => h_.1))) k_ hk⟩)); (case aO => exact (Yj (Yd6 ao.1 am.1 af.1) (fun _ hk => ⟨hk.1.1.1.1.1.1.1.1, ⟨hk.1.1.1.1.1.1.1.2.1, ⟨hk.1.1.1.1.1.1.1.2.2.1, ⟨hk.1.1.1.1.1.1.1.2.2.2.1, ⟨hk.1.1.1.1.1.1.1.2.2.2.2, ⟨hk.1.1.1.1.1.1.2, ⟨hk.1.1.1.1.1.2, ⟨hk.1.1.1.1.2, ⟨hk.1.1.1.2, hk.1.1.2⟩⟩⟩⟩⟩⟩⟩⟩⟩))); (case aS => exact (Z7 Q0)); (case aL => have := LMc38.1; omega); intro dn dv ho hb hg hat; rw [← cc.1] at ho; replace aa := Ya (Kd.R_after (ok := (fun k_ => some k_ ≠ (.slice a3 ai.length a4 : Value).ownBlock ∧ some k_ ≠ (.slice a5 aj.length a6 : Value).ownBlock ∧ some k_ ≠ (.slice a7 ak.length a8 : Value).ownBlock ∧ some k_ ≠ (.slice a9 al.length ba : Value).ownBlock ∧ some k_ ≠ (.slice aM aw.length aN : Value).ownBlock ∧ some k_ ≠ (.slice aQ ax.length aR : Value).ownBlock ∧ some k_ ≠ (.slice aT ay.length aU : Value).ownBlock ∧ some k_ ≠ (.slice aV az.length aW : Value).ownBlock ∧ some k_ ≠ (.slice aX aA.length aY : Value).ownBlock)) (Yj (Yd6 aa.1 am.1 af.1) (fun _ hk => ⟨⟨hk.1.1.1.1.1.1.1.2.1, ⟨hk.1.1.1.1.1.1.1.2.2.1, ⟨hk.1.1.1.1.1.1.1.2.2.2.1, ⟨hk.1.1.1.1.1.1.1.2.2.2.2, ⟨hk.1.1.1.1.1.1.2, ⟨hk.1.1.1.1.1.2, ⟨hk.1.1.1.1.2, ⟨hk.1.1.1.2, hk.1.1.2⟩⟩⟩⟩⟩⟩⟩⟩, hk.1.1.1.1.1.1.1.1⟩)) hg hat); replace ab := Ya (Kd.R_after (ok := (fun k_ => some k_ ≠ (.slice aZ ah.length a2 : Value).ownBlock ∧ some k_ ≠ (.slice a5 aj.length a6 : Value).ownBlock ∧ some k_ ≠ (.slice a7 ak.length a8 : Value).ownBlock ∧ some k_ ≠ (.slice a9 al.length ba : Value).ownBlock ∧ some k_ ≠ (.slice aM aw.length aN : Value).ownBlock ∧ some k_ ≠ (.slice aQ ax.length aR : Value).ownBlock ∧ some k_ ≠ (.slice aT ay.length aU : Value).ownBlock ∧ some k_ ≠ (.slice aV az.length aW : Value).ownBlock ∧ some k_ ≠ (.slice aX aA.length aY : Value).ownBlock)) (Yj (Yd6 ab.1 am.1 af.1) (fun _ hk => ⟨⟨hk.1.1.1.1.1.1.1.2.1, ⟨hk.1.1.1.1.1.1.1.2.2.1, ⟨hk.1.1.1.1.1.1.1.2.2.2.1, ⟨hk.1.1.1.1.1.1.1.2.2.2.2, ⟨hk.1.1.1.1.1.1.2, ⟨hk.1.1.1.1.1.2, ⟨hk.1.1.1.1.2, ⟨hk.1.1.1.2, hk.1.1.2⟩⟩⟩⟩⟩⟩⟩⟩, hk.1.1.1.1.1.1.1.1⟩)) hg hat); replace ag := Ya (Kd.R_over' (Yj (Z12 (Yd6 ag.1 am.1 af.1) (fun _ h_ => h_.1)) (fun _ h_ => h_.1)) (Kd.R_typed (Yj (Z12 (Yd6 ao.1 am.1 af.1) (fun _ h_ => h_.1)) (fun _ h_ => h_.1))) (by decide) hg); replace ac := Ya (Kd.R_after (ok := (fun k_ => some k_ ≠ (.slice aZ ah.length a2 : Value).ownBlock ∧ some k_ ≠ (.slice a3 ai.length a4 : Value).ownBlock ∧ some k_ ≠ (.slice a7 ak.length a8 : Value).ownBlock ∧ some k_ ≠ (.slice a9 al.length ba : Value).ownBlock ∧ some k_ ≠ (.slice aM aw.length aN : Value).ownBlock ∧ some k_ ≠ (.slice aQ ax.length aR : Value).ownBlock ∧ some k_ ≠ (.slice aT ay.length aU : Value).ownBlock ∧ some k_ ≠ (.slice aV az.length aW : Value).ownBlock ∧ some k_ ≠ (.slice aX aA.length aY : Value).ownBlock)) (Yj (Yd6 ac.1 am.1 af.1) (fun _ hk => ⟨⟨hk.1.1.1.1.1.1.1.2.1, ⟨hk.1.1.1.1.1.1.1.2.2.1, ⟨hk.1.1.1.1.1.1.1.2.2.2.1, ⟨hk.1.1.1.1.1.1.1.2.2.2.2, ⟨hk.1.1.1.1.1.1.2, ⟨hk.1.1.1.1.1.2, ⟨hk.1.1.1.1.2, ⟨hk.1.1.1.2, hk.1.1.2⟩⟩⟩⟩⟩⟩⟩⟩, hk.1.1.1.1.1.1.1.1⟩)) hg hat); replace ad := Ya (Kd.R_after (ok := (fun k_ => some k_ ≠ (.slice aZ ah.length a2 : Value).ownBlock ∧ some k_ ≠ (.slice a3 ai.length a4 : Value).ownBlock ∧ some k_ ≠ (.slice a5 aj.length a6 : Value).ownBlock ∧ some k_ ≠ (.slice a9 al.length ba : Value).ownBlock ∧ some k_ ≠ (.slice aM aw.length aN : Value).ownBlock ∧ some k_ ≠ (.slice aQ ax.length aR : Value).ownBlock ∧ some k_ ≠ (.slice aT ay.length aU : Value).ownBlock ∧ some k_ ≠ (.slice aV az.length aW : Value).ownBlock ∧ some k_ ≠ (.slice aX aA.length aY : Value).ownBlock)) (Yj (Yd6 ad.1 am.1 af.1) (fun _ hk => ⟨⟨hk.1.1.1.1.1.1.1.2.1, ⟨hk.1.1.1.1.1.1.1.2.2.1, ⟨hk.1.1.1.1.1.1.1.2.2.2.1, ⟨hk.1.1.1.1.1.1.1.2.2.2.2, ⟨hk.1.1.1.1.1.1.2, ⟨hk.1.1.1.1.1.2, ⟨hk.1.1.1.1.2, ⟨hk.1.1.1.2, hk.1.1.2⟩⟩⟩⟩⟩⟩⟩⟩, hk.1.1.1.1.1.1.1.1⟩)) hg hat); replace ae := Ya (Kd.R_after (ok := (fun k_ => some k_ ≠ (.slice aZ ah.length a2 : Value).ownBlock ∧ some k_ ≠ (.slice a3 ai.length a4 : Value).ownBlock ∧ some k_ ≠ (.slice a5 aj.length a6 : Value).ownBlock ∧ some k_ ≠ (.slice a7 ak.length a8 : Value).ownBlock ∧ some k_ ≠ (.slice aM aw.length aN : Value).ownBlock ∧ some k_ ≠ (.slice aQ ax.length aR : Value).ownBlock ∧ some k_ ≠ (.slice aT ay.length aU : Value).ownBlock ∧ some k_ ≠ (.slice aV az.length aW : Value).ownBlock ∧ some k_ ≠ (.slice aX aA.length aY : Value).ownBlock)) (Yj (Yd6 ae.1 am.1 af.1) (fun _ hk => ⟨⟨hk.1.1.1.1.1.1.1.2.1, ⟨hk.1.1.1.1.1.1.1.2.2.1, ⟨hk.1.1.1.1.1.1.1.2.2.2.1, ⟨hk.1.1.1.1.1.1.1.2.2.2.2, ⟨hk.1.1.1.1.1.1.2, ⟨hk.1.1.1.1.1.2, ⟨hk.1.1.1.1.2, ⟨hk.1.1.1.2, hk.1.1.2⟩⟩⟩⟩⟩⟩⟩⟩, hk.1.1.1.1.1.1.1.1⟩)) hg hat); replace aC := Ya (Kd.R_after (ok := (fun k_ => some k_ ≠ (.slice aZ ah.length a2 : Value).ownBlock ∧ some k_ ≠ (.slice a3 ai.length a4 : Value).ownBlock ∧ some k_ ≠ (.slice a5 aj.length a6 : Value).ownBlock ∧ some k_ ≠ (.slice a7 ak.length a8 : Value).ownBlock ∧ some k_ ≠ (.slice a9 al.length ba : Value).ownBlock ∧ some k_ ≠ (.slice aQ ax.length aR : Value).ownBlock ∧ some k_ ≠ (.slice aT ay.length aU : Value).ownBlock ∧ some k_ ≠ (.slice aV az.length aW : Value).ownBlock ∧ some k_ ≠ (.slice aX aA.length aY : Value).ownBlock)) (Yj (Yd6 aC.1 am.1 af.1) (fun _ hk => ⟨⟨hk.1.1.1.1.1.1.2, ⟨hk.1.1.1.1.1.2, ⟨hk.1.1.1.1.2, ⟨hk.1.1.1.2, ⟨hk.1.1.2, ⟨hk.1.1.1.1.1.1.1.1.1, ⟨hk.1.1.1.1.1.1.1.1.2.1, ⟨hk.1.1.1.1.1.1.1.1.2.2.1, hk.1.1.1.1.1.1.1.1.2.2.2⟩⟩⟩⟩⟩⟩⟩⟩, hk.1.1.1.1.1.1.1.2⟩)) hg hat); replace aD := Ya (Kd.R_after (ok := (fun k_ => some k_ ≠ (.slice aZ ah.length a2 : Value).ownBlock ∧ some k_ ≠ (.slice a3 ai.length a4 : Value).ownBlock ∧ some k_ ≠ (.slice a5 aj.length a6 : Value).ownBlock ∧ some k_ ≠ (.slice a7 ak.length a8 : Value).ownBlock ∧ some k_ ≠ (.slice a9 al.length ba : Value).ownBlock ∧ some k_ ≠ (.slice aM aw.length aN : Value).ownBlock ∧ some k_ ≠ (.slice aT ay.length aU : Value).ownBlock ∧ some k_ ≠ (.slice aV az.length aW : Value).ownBlock ∧ some k_ ≠ (.slice aX aA.length aY : Value).ownBlock)) (Yj (Yd6 aD.1 am.1 af.1) (fun _ hk => ⟨⟨hk.1.1.1.1.1.1.2, ⟨hk.1.1.1.1.1.2, ⟨hk.1.1.1.1.2, ⟨hk.1.1.1.2, ⟨hk.1.1.2, ⟨hk.1.1.1.1.1.1.1.1.1, ⟨hk.1.1.1.1.1.1.1.1.2.1, ⟨hk.1.1.1.1.1.1.1.1.2.2.1, hk.1.1.1.1.1.1.1.1.2.2.2⟩⟩⟩⟩⟩⟩⟩⟩, hk.1.1.1.1.1.1.1.2⟩)) hg hat); replace aK := Ya (Kd.R_over' (Yj (Z12 (Yd6 aK.1 am.1 af.1) (fun _ h_ => h_.1)) (fun _ h_ => h_.1)) (Kd.R_typed (Yj (Z12 (Yd6 ao.1 am.1 af.1) (fun _ h_ => h_.1)) (fun _ h_ => h_.1))) (by decide) hg); replace aE := Ya (Kd.R_after (ok := (fun k_ => some k_ ≠ (.slice aZ ah.length a2 : Value).ownBlock ∧ some k_ ≠ (.slice a3 ai.length a4 : Value).ownBlock ∧ some k_ ≠ (.slice a5 aj.length a6 : Value).ownBlock ∧ some k_ ≠ (.slice a7 ak.length a8 : Value).ownBlock ∧ some k_ ≠ (.slice a9 al.length ba : Value).ownBlock ∧ some k_ ≠ (.slice aM aw.length aN : Value).ownBlock ∧ some k_ ≠ (.slice aQ ax.length aR : Value).ownBlock ∧ some k_ ≠ (.slice aV az.length aW : Value).ownBlock ∧ some k_ ≠ (.slice aX aA.length aY : Value).ownBlock)) (Yj (Yd6 aE.1 am.1 af.1) (fun _ hk => ⟨⟨hk.1.1.1.1.1.1.2, ⟨hk.1.1.1.1.1.2, ⟨hk.1.1.1.1.2, ⟨hk.1.1.1.2, ⟨hk.1.1.2, ⟨hk.1.1.1.1.1.1.1.1.1, ⟨hk.1.1.1.1.1.1.1.1.2.1, ⟨hk.1.1.1.1.1.1.1.1.2.2.1, hk.1.1.1.1.1.1.1.1.2.2.2⟩⟩⟩⟩⟩⟩⟩⟩, hk.1.1.1.1.1.1.1.2⟩)) hg hat); replace aG := Ya (Kd.R_after (ok := (fun k_ => some k_ ≠ (.slice aZ ah.length a2 : Value).ownBlock ∧ some k_ ≠ (.slice a3 ai.length a4 : Value).ownBlock ∧ some k_ ≠ (.slice a5 aj.length a6 : Value).ownBlock ∧ some k_ ≠ (.slice a7 ak.length a8 : Value).ownBlock ∧ some k_ ≠ (.slice a9 al.length ba : Value).ownBlock ∧ some k_ ≠ (.slice aM aw.length aN : Value).ownBlock ∧ some k_ ≠ (.slice aQ ax.length aR : Value).ownBlock ∧ some k_ ≠ (.slice aT ay.length aU : Value).ownBlock ∧ some k_ ≠ (.slice aX aA.length aY : Value).ownBlock)) (Yj (Yd6 aG.1 am.1 af.1) (fun _ hk => ⟨⟨hk.1.1.1.1.1.1.2, ⟨hk.1.1.1.1.1.2, ⟨hk.1.1.1.1.2, ⟨hk.1.1.1.2, ⟨hk.1.1.2, ⟨hk.1.1.1.1.1.1.1.1.1, ⟨hk.1.1.1.1.1.1.1.1.2.1, ⟨hk.1.1.1.1.1.1.1.1.2.2.1, hk.1.1.1.1.1.1.1.1.2.2.2⟩⟩⟩⟩⟩⟩⟩⟩, hk.1.1.1.1.1.1.1.2⟩)) hg hat); replace aH := Ya (Kd.R_after (ok := (fun k_ => some k_ ≠ (.slice aZ ah.length a2 : Value).ownBlock ∧ some k_ ≠ (.slice a3 ai.length a4 : Value).ownBlock ∧ some k_ ≠ (.slice a5 aj.length a6 : Value).ownBlock ∧ some k_ ≠ (.slice a7 ak.length a8 : Value).ownBlock ∧ some k_ ≠ (.slice a9 al.length ba : Value).ownBlock ∧ some k_ ≠ (.slice aM aw.length aN : Value).ownBlock ∧ some k_ ≠ (.slice aQ ax.length aR : Value).ownBlock ∧ some k_ ≠ (.slice aT ay.length aU : Value).ownBlock ∧ some k_ ≠ (.slice aV az.length aW : Value).ownBlock)) (Yj (Yd6 aH.1 am.1 af.1) (fun _ hk => ⟨⟨hk.1.1.1.1.1.1.2, ⟨hk.1.1.1.1.1.2, ⟨hk.1.1.1.1.2, ⟨hk.1.1.1.2, ⟨hk.1.1.2, ⟨hk.1.1.1.1.1.1.1.1.1, ⟨hk.1.1.1.1.1.1.1.1.2.1, ⟨hk.1.1.1.1.1.1.1.1.2.2.1, hk.1.1.1.1.1.1.1.1.2.2.2⟩⟩⟩⟩⟩⟩⟩⟩, hk.1.1.1.1.1.1.1.2⟩)) hg hat); replace af := Ya (blk_grown (g := bW) (o := .cells #[.slice aM aw.length aN, .slice aQ ax.length aR, .slice b1 bl.length b2, .slice aT ay.length aU, .slice aV az.length aW, .slice aX aA.length aY] 29 (0, 0)) (Yk (Yv6 (Yo6 af.1 aI.1))) hg (Kd.R_ne ao.1 af.1 (by decide))); replace am := Ya (blk_grown (g := bX) (o := .cells #[.slice aM aw.length aN, .slice aQ ax.length aR, .slice b1 bl.length b2, .slice aT ay.length aU, .slice aV az.length aW, .slice aX aA.length aY] 29 (0, 0)) (Yk (Yo6 (Yv6 am.1) aJ.1)) hg (Kd.R_ne ao.1 am.1 (by decide))); replace HB := Ya hb; have cd := Ya ho; clear ao; clear ho hb hg hat))
         go_roundg k2
         case measure => have := cH.1; have := cJ.1; omega
         case rel => exact ⟨(wrap64 (bi - 1)), (cb), (aw), (ax), (bl), (ay), (az), (aA), (.slice aM aw.length aN), (.slice aQ ax.length aR), (.slice b1 bl.length b2), (.slice aT ay.length aU), (.slice aV az.length aW), (.slice aX aA.length aY), Q17, H', ⟨by have := cH.1; have := cJ.1; omega⟩, ⟨Yj cd.1 (fun _ hk => ⟨hk.2.2.2.2.2.1, ⟨hk.2.2.2.2.2.2.1, ⟨hk.2.2.2.2.2.2.2.1, ⟨hk.2.2.2.2.2.2.2.2.1, hk.2.2.2.2.2.2.2.2.2⟩⟩⟩⟩)⟩, ⟨Yj aC.1 (fun _ hk => ⟨hk.2, ⟨hk.1.2.2.2.2.2.1, ⟨hk.1.2.2.2.2.2.2.1, ⟨hk.1.2.2.2.2.2.2.2.1, hk.1.2.2.2.2.2.2.2.2⟩⟩⟩⟩)⟩, ⟨Yj aD.1 (fun _ hk => ⟨hk.2, ⟨hk.1.2.2.2.2.2.1, ⟨hk.1.2.2.2.2.2.2.1, ⟨hk.1.2.2.2.2.2.2.2.1, hk.1.2.2.2.2.2.2.2.2⟩⟩⟩⟩)⟩, ⟨Yj aK.1 (fun _ hk => trivial)⟩, ⟨Yj aE.1 (fun _ hk => ⟨hk.2, ⟨hk.1.2.2.2.2.2.1, ⟨hk.1.2.2.2.2.2.2.1, ⟨hk.1.2.2.2.2.2.2.2.1, hk.1.2.2.2.2.2.2.2.2⟩⟩⟩⟩)⟩, ⟨Yj aG.1 (fun _ hk => ⟨hk.2, ⟨hk.1.2.2.2.2.2.1, ⟨hk.1.2.2.2.2.2.2.1, ⟨hk.1.2.2.2.2.2.2.2.1, hk.1.2.2.2.2.2.2.2.2⟩⟩⟩⟩)⟩, ⟨Yj aH.1 (fun _ hk => ⟨hk.2, ⟨hk.1.2.2.2.2.2.1, ⟨hk.1.2.2.2.2.2.2.1, ⟨hk.1.2.2.2.2.2.2.2.1, hk.1.2.2.2.2.2.2.2.2⟩⟩⟩⟩)⟩, ⟨by (with_reducible repeat (first | refine Z22 ?_ _ | refine Z23 ?_ | refine Z24 ?_ _)); exact af.1⟩, ⟨Q12⟩⟩
        ·rw [if_neg ce] at H
         exact absurd H (by simp)
      ·rw [if_neg b3] at H
       have b8 : decide (0 < bi) = false := Z34 b3
       clear b3
       simp only [Option.some.injEq, Prod.mk.injEq] at H
       obtain ⟨rfl, rfl⟩ := H
       go_wp2
       go_ret2
       exact ⟨_, Q2, Yj ao.1 (fun _ hk => trivial), Q12⟩
def impl_StartSwapper.f (k : Nat) (a0 : Int) : Option (List Int × List Int × List Bool × List Int × List Int × List Int × Bool) := (impl_isSwapperSize.f a0).bind fun ab => (if ab = true then ((impl_startSwapper.f k a0).bind fun aa => (some (aa.1, aa.2.1, aa.2.2.1, aa.2.2.2.1, aa.2.2.2.2.1, aa.2.2.2.2.2, true))) else (some (([] : List Int), ([] : List Int), ([] : List Bool), ([] : List Int), ([] : List Int), ([] : List Int), false)))
theorem impl_StartSwapper.calls (k : Nat) (a0 : Int) (r1 : List Int) (r2 : List Int) (r3 : List Bool) (r4 : List Int) (r5 : List Int) (r6 : List Int) (r7 : Bool) (w : World) (h : impl_StartSwapper.f k a0 = some (r1, r2, r3, r4, r5, r6, r7)) :
  Calls Tryz.prog 23 #[.int .i64 a0] w fun e w' => ∃ v0_ v1_ v2_ v3_ v4_ v5_ : Value, e = .returned (.tuple #[.agg #[v0_, v1_, v2_, v3_, v4_, v5_], .bool r7]) ∧ Kd.R (Kd.int .i64) 3 w' w.heap.size (fun k_ => some k_ ≠ (v1_ : Value).ownBlock ∧ some k_ ≠ (v3_ : Value).ownBlock ∧ some k_ ≠ (v4_ : Value).ownBlock ∧ some k_ ≠ (v5_ : Value).ownBlock) v0_ r1 ∧ Kd.R (Kd.int .i64) 3 w' w.heap.size (fun k_ => some k_ ≠ (v0_ : Value).ownBlock ∧ some k_ ≠ (v3_ : Value).ownBlock ∧ some k_ ≠ (v4_ : Value).ownBlock ∧ some k_ ≠ (v5_ : Value).ownBlock) v1_ r2 ∧ Kd.R Kd.bool 4 w' w.heap.size (fun _ => True) v2_ r3 ∧ Kd.R (Kd.int .i64) 3 w' w.heap.size (fun k_ => some k_ ≠ (v0_ : Value).ownBlock ∧ some k_ ≠ (v1_ : Value).ownBlock ∧ some k_ ≠ (v4_ : Value).ownBlock ∧ some k_ ≠ (v5_ : Value).ownBlock) v3_ r4 ∧ Kd.R (Kd.int .i64) 3 w' w.heap.size (fun k_ => some k_ ≠ (v0_ : Value).ownBlock ∧ some k_ ≠ (v1_ : Value).ownBlock ∧ some k_ ≠ (v3_ : Value).ownBlock ∧ some k_ ≠ (v5_ : Value).ownBlock) v4_ r5 ∧ Kd.R (Kd.int .i64) 3 w' w.heap.size (fun k_ => some k_ ≠ (v0_ : Value).ownBlock ∧ some k_ ≠ (v1_ : Value).ownBlock ∧ some k_ ≠ (v3_ : Value).ownBlock ∧ some k_ ≠ (v4_ : Value).ownBlock) v5_ r6 ∧ Below w.heap.size w w' := by
 have hu29 := Tryz.underlying29
 have HB := Ya (Below.refl w.heap.size w)
 have H : ((impl_isSwapperSize.f a0).bind fun aj => (if aj = true then ((impl_startSwapper.f k a0).bind fun ab => (some (ab.1, ab.2.1, ab.2.2.1, ab.2.2.2.1, ab.2.2.2.2.1, ab.2.2.2.2.2, true))) else (some (([] : List Int), ([] : List Int), ([] : List Bool), ([] : List Int), ([] : List Int), ([] : List Int), false)))) = some (r1, r2, r3, r4, r5, r6, r7) := h
 clear h
 replace H := YB H
 obtain ⟨aj, A2, H⟩ := H
 replace H := YC H
 obtain ⟨rfl, H⟩ | ⟨rfl, H⟩ := H
 ·replace H := YB H
  obtain ⟨⟨ak, al, am, an, ao, ap⟩, A4, H⟩ := H
  dsimp only at H
  simp only [Option.some.injEq, Prod.mk.injEq] at H
  obtain ⟨rfl, rfl, rfl, rfl, rfl, rfl, rfl⟩ := H
  go_enter Tryz.func23, Tryz.ntmps23
  go_wp2_with (first | ((with_reducible refine gate_dst (N := 2) rfl ?_); refine Yx 2 YN6 29 ?_; intro ac hg w5 hbox hb; have aa := Ya hbox; have aq := Yg hg; replace HB := Yh hb; clear hb hbox hg) | ((with_reducible refine gate_callee (f := 32) rfl ?_); refine Yz 5 Tryz.func32 #[.int .i64 a0] ?_; (with_reducible refine (impl_isSwapperSize.calls a0 true _ A2.1).mono ?_); rintro e w' ⟨rfl, ⟨nd, rfl⟩⟩; refine ⟨_, rfl, ?_⟩; (try (rw [drewN_self w5]; generalize hq_ : World.drewN w5 _ = w5; replace aa : Aside0 (w5.heap[ac]? = some (.cells YN6 29 (0, 0))) := ⟨by rw [← hq_]; exact (Yk aa.1)⟩; replace HB : Aside0 (Below w.heap.size w w5) := ⟨by rw [← hq_]; exact Q0⟩; clear hq_))) | ((with_reducible refine gate_callee (f := 34) rfl ?_); refine Yz 9 Tryz.func34 #[.int .i64 a0] ?_; (with_reducible refine (impl_startSwapper.calls k a0 ak al am an ao ap _ A4.1).mono ?_); rintro e w6 ⟨aI, aJ, aK, aL, aM, aN, rfl, aC, aD, aE, aF, aG, aH, hb⟩; refine ⟨_, rfl, ?_⟩; have ad := Yl aC; have ae := Yl aD; have af := Yl aE; have ag := Yl aF; have ah := Yl aG; have ai := Yl aH; replace aa := Yb aa hb; replace HB := Yh hb; (try clear hb aC aD aE aF aG aH); obtain ⟨aO, aP, rfl⟩ := Z15 ad.1; have aT := Y6 aa.1; obtain ⟨aQ, aR, rfl⟩ := Z15 ae.1; obtain ⟨au, av, rfl⟩ := Z15 af.1; obtain ⟨aw, ax, rfl⟩ := Z15 ag.1; obtain ⟨ay, az, rfl⟩ := Z15 ah.1; obtain ⟨aA, aB, rfl⟩ := Z15 ai.1))
  refine bodyPost_ret (results_ct rfl _ _ ac 29 #[.slice aO ak.length aP, .slice aQ al.length aR, .slice au am.length av, .slice aw an.length ax, .slice ay ao.length az, .slice aA ap.length aB] (0, 0) _ rfl (Yk (Yv6 aa.1)) Tryz.underlying29 rfl (by kernel_rfl)) rfl ?_
  exact ⟨_, _, _, _, _, _, Q2, Yj (Yf6 ad.1 aa.1) (fun _ hk => ⟨hk.1.1, ⟨hk.1.2.1, ⟨hk.1.2.2.1, hk.1.2.2.2⟩⟩⟩), Yj (Yf6 ae.1 aa.1) (fun _ hk => ⟨hk.1.1, ⟨hk.1.2.1, ⟨hk.1.2.2.1, hk.1.2.2.2⟩⟩⟩), Yj (Yf6 af.1 aa.1) (fun _ hk => trivial), Yj (Yf6 ag.1 aa.1) (fun _ hk => ⟨hk.1.1, ⟨hk.1.2.1, ⟨hk.1.2.2.1, hk.1.2.2.2⟩⟩⟩), Yj (Yf6 ah.1 aa.1) (fun _ hk => ⟨hk.1.1, ⟨hk.1.2.1, ⟨hk.1.2.2.1, hk.1.2.2.2⟩⟩⟩), Yj (Yf6 ai.1 aa.1) (fun _ hk => ⟨hk.1.1, ⟨hk.1.2.1, ⟨hk.1.2.2.1, hk.1.2.2.2⟩⟩⟩), Q12⟩
 ·simp only [Option.some.injEq, Prod.mk.injEq] at H
  obtain ⟨rfl, rfl, rfl, rfl, rfl, rfl, rfl⟩ := H
  go_enter Tryz.func23, Tryz.ntmps23
  go_wp2_with (first | ((with_reducible refine gate_dst (N := 2) rfl ?_); refine Yx 2 YN6 29 ?_; intro ac hg ar hbox hb; have aa := Ya hbox; have aq := Yg hg; replace HB := Yh hb; clear hb hbox hg) | ((with_reducible refine gate_callee (f := 32) rfl ?_); refine Yz 5 Tryz.func32 #[.int .i64 a0] ?_; (with_reducible refine (impl_isSwapperSize.calls a0 false _ A2.1).mono ?_); rintro e w' ⟨rfl, ⟨nd, rfl⟩⟩; refine ⟨_, rfl, ?_⟩; (try (rw [drewN_self ar]; generalize hq_ : World.drewN ar _ = ar; replace aa : Aside0 (ar.heap[ac]? = some (.cells YN6 29 (0, 0))) := ⟨by rw [← hq_]; exact (Yk aa.1)⟩; replace HB : Aside0 (Below w.heap.size w ar) := ⟨by rw [← hq_]; exact Q0⟩; clear hq_)); have aS := Y6 aa.1))
  refine bodyPost_ret (results_ct rfl _ _ ac 29 YN6 (0, 0) _ rfl (Yk (Yv6 aa.1)) Tryz.underlying29 rfl (by kernel_rfl)) rfl ?_
  exact ⟨_, _, _, _, _, _, Q2, Q3, Q3, Q3, Q3, Q3, Q3, Q12⟩
open Go.Proofs.YtapbbmicfkbafaaGreat.FoW Go.Proofs.YtapbbmicfkbafaaGreat.SwW Go.Proofs.YtapbbmicfkbafaaGreat.SwL Go.Proofs.YtapbbmicfkbafaaGreat.StpW
def PhA (b : List Int) (d : List Int) (u : List Bool) (p : List Int) (it : List Int) (wh : List Int) : Prop := ∃ (k1 k2 k3 k4 k5 k6 : Nat) (n0 : List Int) (n1 : List Int) (n2 : List Bool) (n3 : List Int) (n4 : List Int) (n5 : List Int) (at_ : Int) (ok : Bool) (r : Int) (one : Bool), impl_StepSwapper.f k1 b d u p it wh = some (n0, n1, n2, n3, n4, n5, at_, ok) ∧ spec_StepSwapper.f k2 b d u p it wh = some (n0, n1, n2, n3, n4, n5, at_, ok) ∧ impl_SwapperRank.f k3 b d u p it wh = some (r, one) ∧ spec_SwapperRank.f k4 b d u p it wh = some (r, one) ∧ impl_IsSwapper.f k5 b d u p it wh = some one ∧ laws_uSwapper.f k6 n0 n1 n2 n3 n4 n5 n0 n1 n2 n3 n4 n5 = some true ∧ (one = true → ∃ (k1 k2 : Nat) (nx : List Int), impl_TrotterRank.f k1 it = some (r, true) ∧ impl_NextTrotter.f k2 it = some (nx, at_, ok) ∧ (ok = true → (∃ k, laws_uSame.f k nx n4 = some true) ∧ ∃ k, impl_IsSwapper.f k n0 n1 n2 n3 n4 n5 = some true))
def PhC (m : List Int) : Prop := ∃ (k1 k2 k3 k4 : Nat) (n r : Int) (t0 : List Int) (t1 : List Int) (t2 : List Bool) (t3 : List Int) (t4 : List Int) (t5 : List Int) (o : Bool), spec_DrawSwapperAt.f k1 m = some (n, r) ∧ impl_SwapperAt.f k2 n r = some (t0, t1, t2, t3, t4, t5, o) ∧ spec_SwapperAt.f k3 n r = some (t0, t1, t2, t3, t4, t5, o) ∧ laws_uSwapper.f k4 t0 t1 t2 t3 t4 t5 t0 t1 t2 t3 t4 t5 = some true ∧ (o = true → ∃ (k1 k2 k3 k4 : Nat) (L I : List Int), impl_TrotterAt.f k1 n r = some (L, true) ∧ impl_InverseOf.f k2 L = some (I, true) ∧ laws_uSame.f k3 t4 L = some true ∧ laws_uSame.f k4 t5 I = some true)
def PhE (m : List Int) : Prop := ∃ (k1 k2 k3 k4 k5 k6 : Nat) (n r : Int) (R : List Int) (o : Bool) (t0 : List Int) (t1 : List Int) (t2 : List Bool) (t3 : List Int) (t4 : List Int) (t5 : List Int) (o2 : Bool), spec_DrawRunSwapper.f m = some (n, r) ∧ impl_RunSwapper.f k1 n r = some (R, o) ∧ spec_RunSwapper.f k2 n r = some (R, o) ∧ laws_uSame.f k3 R R = some true ∧ impl_StartSwapper.f k4 n = some (t0, t1, t2, t3, t4, t5, o2) ∧ impl_SwapperAt.f k5 n 0 = some (t0, t1, t2, t3, t4, t5, o2) ∧ laws_uSwapper.f k6 t0 t1 t2 t3 t4 t5 t0 t1 t2 t3 t4 t5 = some true
def Fine (l m : List Int) : Prop := ∃ bb, laws_big.f l m = some bb ∧ (bb = false → SD l ∧ (∀ (b : List Int) (d : List Int) (u : List Bool) (p : List Int) (it : List Int) (wh : List Int), b.length ≤ 2000 → d.length ≤ 2000 → u.length ≤ 2000 → p.length ≤ 2000 → it.length ≤ 2000 → wh.length ≤ 2000 → PhA b d u p it wh) ∧ PhC m ∧ PhE m)
structure LB6 (w W : World) (g : Nat) (v0 v1 v2 v3 v4 v5 : Value) (b d : List Int) (u : List Bool) (p it wh : List Int) : Prop where mk ::
 n : W.heap[g]? = some (.cells #[v0, v1, v2, v3, v4, v5] 29 (0, 0))
 v : SwC W w.heap.size v0 v1 v2 v3 v4 v5 b d u p it wh
 m : Below w.heap.size w W
 q : w.heap.size ≤ g
section
variable {w W w1 : World} {g g' : Nat} {v0 v1 v2 v3 v4 v5 y0 y1 y2 y3 y4 y5 : Value} {b d : List Int} {u : List Bool} {p it wh xs : List Int} {cs : Array Value} {v : Value} {ok : Nat → Prop} {base : Nat}
theorem LB6.below (h : LB6 w W g v0 v1 v2 v3 v4 v5 b d u p it wh) (hb : Below W.heap.size W w1) : LB6 w w1 g v0 v1 v2 v3 v4 v5 b d u p it wh := ⟨Z25 h.n hb, h.v.below hb, Z8 h.m hb, h.q⟩
theorem LB6.new (hB : Below w.heap.size w W) (hn : W.heap[g]? = some (.cells #[y0, y1, y2, y3, y4, y5] 29 (0, 0))) (hv : SwC W w.heap.size v0 v1 v2 v3 v4 v5 b d u p it wh) (hq : w.heap.size ≤ g) : LB6 w (set6 W g v0 v1 v2 v3 v4 v5) g v0 v1 v2 v3 v4 v5 b d u p it wh := ⟨set6_at hn .., SwC.set6 hv hn (by decide) (by decide) .., set6_below hB hq .., hq⟩
theorem LB6.far (h : LB6 w W g v0 v1 v2 v3 v4 v5 b d u p it wh) (hn : W.heap[g']? = some (.cells cs 29 (0, 0))) (hq : w.heap.size ≤ g') (hg : g ≠ g') : LB6 w (set6 W g' y0 y1 y2 y3 y4 y5) g v0 v1 v2 v3 v4 v5 b d u p it wh := ⟨(set6_far _ g' _ _ _ _ _ _ g hg).trans h.n, SwC.set6 h.v hn (by decide) (by decide) .., set6_below h.m hq .., h.q⟩
theorem Lr6 (r : (Kd.int .i64).R 3 W base ok v xs) (hn : W.heap[g']? = some (.cells cs 29 (0, 0))) : (Kd.int .i64).R 3 (set6 W g' y0 y1 y2 y3 y4 y5) base ok v xs :=
 Z12 (Kd.R_move (Kd.R_types r hn (by decide)) (fun k hk => set6_far _ g' _ _ _ _ _ _ k hk.2)) (fun _ h => h.1)
theorem Lbl (h : Drawn0 w W) : Below w.heap.size w W := by
 obtain ⟨n, rfl⟩ := h
 exact Z3 (Below.refl _ _) n
end
theorem LstS {k : Nat} {w : World} {r : Int} {o : Bool} {A0 A1 A2 A3 A4 A5 : Option Addr} {c0 c1 c2 c3 c4 c5 : Nat} {b : List Int} {d : List Int} {u : List Bool} {p : List Int} {it : List Int} {wh : List Int} {n0 : List Int} {n1 : List Int} {n2 : List Bool} {n3 : List Int} {n4 : List Int} {n5 : List Int} (h : SwA w A0 A1 A2 A3 A4 A5 c0 c1 c2 c3 c4 c5 b d u p it wh) (hs : spec_StepSwapper.f k b d u p it wh = some (n0, n1, n2, n3, n4, n5, r, o)) :
  Calls Tryz.prog 7 #[.agg #[.slice A0 b.length c0, .slice A1 d.length c1, .slice A2 u.length c2, .slice A3 p.length c3, .slice A4 it.length c4, .slice A5 wh.length c5]] w fun e w' => ∃ v0 v1 v2 v3 v4 v5 : Value, e = .returned (.tuple #[.agg #[v0, v1, v2, v3, v4, v5], .int .i64 r, .bool o]) ∧ SwC w' w.heap.size v0 v1 v2 v3 v4 v5 n0 n1 n2 n3 n4 n5 ∧ Below w.heap.size w w' :=
 (spec_StepSwapper.calls k _ _ b _ _ d _ _ u _ _ p _ _ it _ _ wh n0 n1 n2 n3 n4 n5 r o w (h).r0 (h).l0 (h).r1 (h).l1 (h).r2 (h).l2 (h).r3 (h).l3 (h).r4 (h).l4 (h).r5 (h).l5 hs).mono Q38
theorem LstI {k : Nat} {w : World} {r : Int} {o : Bool} {A0 A1 A2 A3 A4 A5 : Option Addr} {c0 c1 c2 c3 c4 c5 : Nat} {b : List Int} {d : List Int} {u : List Bool} {p : List Int} {it : List Int} {wh : List Int} {n0 : List Int} {n1 : List Int} {n2 : List Bool} {n3 : List Int} {n4 : List Int} {n5 : List Int} (h : SwA w A0 A1 A2 A3 A4 A5 c0 c1 c2 c3 c4 c5 b d u p it wh) (hs : impl_StepSwapper.f k b d u p it wh = some (n0, n1, n2, n3, n4, n5, r, o)) :
  Calls Tryz.prog 6 #[.agg #[.slice A0 b.length c0, .slice A1 d.length c1, .slice A2 u.length c2, .slice A3 p.length c3, .slice A4 it.length c4, .slice A5 wh.length c5]] w fun e w' => ∃ v0 v1 v2 v3 v4 v5 : Value, e = .returned (.tuple #[.agg #[v0, v1, v2, v3, v4, v5], .int .i64 r, .bool o]) ∧ SwC w' w.heap.size v0 v1 v2 v3 v4 v5 n0 n1 n2 n3 n4 n5 ∧ Below w.heap.size w w' :=
 (impl_StepSwapper.calls k _ _ b _ _ d _ _ u _ _ p _ _ it _ _ wh n0 n1 n2 n3 n4 n5 r o w (h).r0 (h).l0 (h).r1 (h).l1 (h).r2 (h).l2 (h).r3 (h).l3 (h).r4 (h).l4 (h).r5 (h).l5 hs).mono Q38
theorem LatS {k : Nat} {w : World} {n r : Int} {o : Bool} {t0 : List Int} {t1 : List Int} {t2 : List Bool} {t3 : List Int} {t4 : List Int} {t5 : List Int} (hs : spec_SwapperAt.f k n r = some (t0, t1, t2, t3, t4, t5, o)) :
  Calls Tryz.prog 17 #[.int .i64 n, .int .i64 r] w fun e w' => ∃ v0 v1 v2 v3 v4 v5 : Value, e = .returned (.tuple #[.agg #[v0, v1, v2, v3, v4, v5], .bool o]) ∧ SwC w' w.heap.size v0 v1 v2 v3 v4 v5 t0 t1 t2 t3 t4 t5 ∧ Below w.heap.size w w' :=
 (spec_SwapperAt.calls k n r t0 t1 t2 t3 t4 t5 o w hs).mono Q38
theorem LatI {k : Nat} {w : World} {n r : Int} {o : Bool} {t0 : List Int} {t1 : List Int} {t2 : List Bool} {t3 : List Int} {t4 : List Int} {t5 : List Int} (hs : impl_SwapperAt.f k n r = some (t0, t1, t2, t3, t4, t5, o)) :
  Calls Tryz.prog 16 #[.int .i64 n, .int .i64 r] w fun e w' => ∃ v0 v1 v2 v3 v4 v5 : Value, e = .returned (.tuple #[.agg #[v0, v1, v2, v3, v4, v5], .bool o]) ∧ SwC w' w.heap.size v0 v1 v2 v3 v4 v5 t0 t1 t2 t3 t4 t5 ∧ Below w.heap.size w w' :=
 (impl_SwapperAt.calls k n r t0 t1 t2 t3 t4 t5 o w hs).mono Q38
theorem LsaI {k : Nat} {w : World} {n : Int} {o : Bool} {t0 : List Int} {t1 : List Int} {t2 : List Bool} {t3 : List Int} {t4 : List Int} {t5 : List Int} (hs : impl_StartSwapper.f k n = some (t0, t1, t2, t3, t4, t5, o)) :
  Calls Tryz.prog 23 #[.int .i64 n] w fun e w' => ∃ v0 v1 v2 v3 v4 v5 : Value, e = .returned (.tuple #[.agg #[v0, v1, v2, v3, v4, v5], .bool o]) ∧ SwC w' w.heap.size v0 v1 v2 v3 v4 v5 t0 t1 t2 t3 t4 t5 ∧ Below w.heap.size w w' :=
 (impl_StartSwapper.calls k n t0 t1 t2 t3 t4 t5 o w hs).mono Q38
theorem LrkS {k : Nat} {w : World} {r : Int} {o : Bool} {A0 A1 A2 A3 A4 A5 : Option Addr} {c0 c1 c2 c3 c4 c5 : Nat} {b : List Int} {d : List Int} {u : List Bool} {p : List Int} {it : List Int} {wh : List Int} (h : SwA w A0 A1 A2 A3 A4 A5 c0 c1 c2 c3 c4 c5 b d u p it wh) (hs : spec_SwapperRank.f k b d u p it wh = some (r, o)) :
  Calls Tryz.prog 9 #[.agg #[.slice A0 b.length c0, .slice A1 d.length c1, .slice A2 u.length c2, .slice A3 p.length c3, .slice A4 it.length c4, .slice A5 wh.length c5]] w fun e w' => e = .returned (.tuple #[.int .i64 r, .bool o]) ∧ Below w.heap.size w w' :=
 spec_SwapperRank.calls k _ _ b _ _ d _ _ u _ _ p _ _ it _ _ wh r o w (h).r0 (h).l0 (h).r1 (h).l1 (h).r2 (h).l2 (h).r3 (h).l3 (h).r4 (h).l4 (h).r5 (h).l5 hs
theorem LrkI {k : Nat} {w : World} {r : Int} {o : Bool} {A0 A1 A2 A3 A4 A5 : Option Addr} {c0 c1 c2 c3 c4 c5 : Nat} {b : List Int} {d : List Int} {u : List Bool} {p : List Int} {it : List Int} {wh : List Int} (h : SwA w A0 A1 A2 A3 A4 A5 c0 c1 c2 c3 c4 c5 b d u p it wh) (hs : impl_SwapperRank.f k b d u p it wh = some (r, o)) :
  Calls Tryz.prog 8 #[.agg #[.slice A0 b.length c0, .slice A1 d.length c1, .slice A2 u.length c2, .slice A3 p.length c3, .slice A4 it.length c4, .slice A5 wh.length c5]] w fun e w' => e = .returned (.tuple #[.int .i64 r, .bool o]) ∧ Below w.heap.size w w' :=
 impl_SwapperRank.calls k _ _ b _ _ d _ _ u _ _ p _ _ it _ _ wh r o w (h).r0 (h).l0 (h).r1 (h).l1 (h).r2 (h).l2 (h).r3 (h).l3 (h).r4 (h).l4 (h).r5 (h).l5 hs
theorem LisI {k : Nat} {w : World} {o : Bool} {A0 A1 A2 A3 A4 A5 : Option Addr} {c0 c1 c2 c3 c4 c5 : Nat} {b : List Int} {d : List Int} {u : List Bool} {p : List Int} {it : List Int} {wh : List Int} (h : SwA w A0 A1 A2 A3 A4 A5 c0 c1 c2 c3 c4 c5 b d u p it wh) (hs : impl_IsSwapper.f k b d u p it wh = some o) :
  Calls Tryz.prog 11 #[.agg #[.slice A0 b.length c0, .slice A1 d.length c1, .slice A2 u.length c2, .slice A3 p.length c3, .slice A4 it.length c4, .slice A5 wh.length c5]] w fun e w' => e = .returned (.bool o) ∧ Below w.heap.size w w' :=
 impl_IsSwapper.calls k _ _ b _ _ d _ _ u _ _ p _ _ it _ _ wh o w (h).r0 (h).l0 (h).r1 (h).l1 (h).r2 (h).l2 (h).r3 (h).l3 (h).r4 (h).l4 (h).r5 (h).l5 hs
theorem LuS {k : Nat} {w : World} {A0 A1 A2 A3 A4 A5 : Option Addr} {c0 c1 c2 c3 c4 c5 : Nat} {B0 B1 B2 B3 B4 B5 : Option Addr} {e0 e1 e2 e3 e4 e5 : Nat} {b : List Int} {d : List Int} {u : List Bool} {p : List Int} {it : List Int} {wh : List Int} (h : SwA w A0 A1 A2 A3 A4 A5 c0 c1 c2 c3 c4 c5 b d u p it wh) (h' : SwA w B0 B1 B2 B3 B4 B5 e0 e1 e2 e3 e4 e5 b d u p it wh) (hs : laws_uSwapper.f k b d u p it wh b d u p it wh = some true) :
  Calls Tryz.prog 10 #[.agg #[.slice A0 b.length c0, .slice A1 d.length c1, .slice A2 u.length c2, .slice A3 p.length c3, .slice A4 it.length c4, .slice A5 wh.length c5], .agg #[.slice B0 b.length e0, .slice B1 d.length e1, .slice B2 u.length e2, .slice B3 p.length e3, .slice B4 it.length e4, .slice B5 wh.length e5]] w fun e w' => e = .returned (.bool true) ∧ Below w.heap.size w w' :=
 laws_uSwapper.calls k _ _ b _ _ d _ _ u _ _ p _ _ it _ _ wh _ _ b _ _ d _ _ u _ _ p _ _ it _ _ wh true w (h).r0 (h).l0 (h).r1 (h).l1 (h).r2 (h).l2 (h).r3 (h).l3 (h).r4 (h).l4 (h).r5 (h).l5 (h').r0 (h').l0 (h').r1 (h').l1 (h').r2 (h').l2 (h').r3 (h').l3 (h').r4 (h').l4 (h').r5 (h').l5 hs
theorem Lsm {k : Nat} {w : World} {A0 A1 : Option Addr} {c0 c1 b0 b1 : Nat} {o0 o1 : Nat → Prop} {x y : List Int} (h : (Kd.int .i64).R 3 w b0 o0 (.slice A0 x.length c0) x) (h' : (Kd.int .i64).R 3 w b1 o1 (.slice A1 y.length c1) y) (hs : laws_uSame.f k x y = some true) :
  Calls Tryz.prog 14 #[.slice A0 x.length c0, .slice A1 y.length c1] w fun e w' => e = .returned (.bool true) ∧ Below w.heap.size w w' :=
 (laws_uSame.calls k _ _ x _ _ y true w (Kd.R_reads' h).2.2 (Kd.R_reads' h).2.1 (Kd.R_reads' h').2.2 (Kd.R_reads' h').2.1 hs).mono (fun _ _ h => ⟨h.1, Lbl h.2⟩)
theorem laws_FnSwappers.calls (P : Option Addr) (pc : Nat) (l : List Int) (Q : Option Addr) (qc : Nat) (m : List Int) (w : World) (h0 : Kd.C (Kd.int .u8) w P l.length l) (h1 : l.length ≤ pc) (h2 : Kd.C (Kd.int .u8) w Q m.length m) (h3 : m.length ≤ qc) (h : Fine l m) :
  Calls Tryz.prog 3 #[.slice P l.length pc, .slice Q m.length qc] w fun e w' => e = .returned (.bool true) ∧ Below w.heap.size w w' := by
 obtain ⟨bb, hb, h⟩ := h
 have HR0 := Ya h0
 have ak := Ya h2
 have HG := Ya hb
 have HF := Ya h
 have HB := Ya (Below.refl w.heap.size w)
 clear h0 h2 hb h
 cases bb
 ·obtain ⟨hD, hA, hC, hE⟩ := HF.1 rfl
  have HD := Ya hD
  have HA := Ya hA
  have HC := Ya hC
  have HE := Ya hE
  clear hD hA hC hE
  go_enter Tryz.func3, Tryz.ntmps3
  go_upto_region 4 with (first | ((with_reducible refine gate_callee (f := 4) rfl ?_); refine Yz 43 Tryz.func4 #[.slice P l.length pc, .slice Q m.length qc] ?_ (hargs := Q19); (with_reducible refine (laws_big.calls _ _ l _ _ m _ _ HR0.1 h1 ak.1 h3 HG.1).mono ?_); rintro e wq ⟨rfl, hd⟩; refine ⟨_, rfl, ?_⟩; have hb := Lbl hd; replace HB := Ya (Z8 HB.1 hb); clear hb hd) | ((with_reducible refine gate_callee (f := 5) rfl ?_); refine Yz 45 Tryz.func5 #[.slice P l.length pc] ?_ (hargs := Q19); (with_reducible refine (spec_DrawStepSwapper.calls P pc l _ (Z19 HR0.1 HB.1) h1 HD.1).mono ?_); rintro e wq ⟨v0, v1, v2, v3, v4, v5, b, d, u, p, it, wh, rfl, hv, hl, hb⟩; refine ⟨_, rfl, ?_⟩; have HV := Ya (SwC.lower hv (Z7 HB.1)); have HL := Ya hl; clear hl; replace HB := Ya (Z8 HB.1 hb); clear hv hb; obtain ⟨S0, c0, S1, c1, S2, c2, S3, c3, S4, c4, S5, c5, q0, q1, q2, q3, q4, q5⟩ := SwC.slices HV.1; subst q0 q1 q2 q3 q4 q5) | ((with_reducible refine gate_dst (N := 5) rfl ?_); refine Yx 5 YN6 29 ?_; intro g5 hg w_5 hbox hb; have BX := Ya hbox; have GX := Ya (by rw [hg]; exact Z7 HB.1 : w.heap.size ≤ g5); replace HV := Ya (SwC.below HV.1 hb); replace HB := Ya (Z8 HB.1 hb); obtain ⟨⟨aa, ab, ac, ad, ae, af⟩, hf0, hf1, hf2, hf3, hf4, hf5⟩ := LY6 BX.1; clear hb hbox hg))
  clear aa hf0 ab hf1 ac hf2 ad hf3 ae hf4 af hf5
  have m_ := LB6.new (v0 := .slice S0 b.length c0) (v1 := .slice S1 d.length c1) (v2 := .slice S2 u.length c2) (v3 := .slice S3 p.length c3) (v4 := .slice S4 it.length c4) (v5 := .slice S5 wh.length c5) HB.1 BX.1 HV.1 GX.1
  unfold set6 at m_
  clear HB BX HV GX 
  have HB := Ya m_.m
  have HS := Ya m_
  clear m_
  generalize (World.setCell (World.setCell (World.setCell (World.setCell (World.setCell (World.setCell _ ⟨g5, 0, none⟩ (.slice S0 b.length c0)) ⟨g5, 1, none⟩ (.slice S1 d.length c1)) ⟨g5, 2, none⟩ (.slice S2 u.length c2)) ⟨g5, 3, none⟩ (.slice S3 p.length c3)) ⟨g5, 4, none⟩ (.slice S4 it.length c4)) ⟨g5, 5, none⟩ (.slice S5 wh.length c5)) = w5 at HB HS ⊢
  obtain ⟨l0, l1, l2, l3, l4, l5⟩ := HL.1
  obtain ⟨k1, k2, k3, k4, k5, k6, n0, n1, n2, n3, n4, n5, at_, ok, r, one, f1, f2, f3, f4, f5, f6, f7⟩ := HA.1 b d u p it wh l0 l1 l2 l3 l4 l5
  have F1 := Ya f1
  have F2 := Ya f2
  have F3 := Ya f3
  have F4 := Ya f4
  have F5 := Ya f5
  have F6 := Ya f6
  have F7 := Ya f7
  clear f1 f2 f3 f4 f5 f6 f7 HA HD HL HF l0 l1 l2 l3 l4 l5
  obtain ⟨⟨hcs0, hcs1, hcs2, hcs3, hcs4, hcs5⟩, hfs0, hfs1, hfs2, hfs3, hfs4, hfs5⟩ := LY6 (LB6.n HS.1)
  go_upto_region 5 with (first | ((with_reducible refine gate_callee (f := 6) rfl ?_); refine Yz 48 Tryz.func6 #[.agg #[.slice S0 b.length c0, .slice S1 d.length c1, .slice S2 u.length c2, .slice S3 p.length c3, .slice S4 it.length c4, .slice S5 wh.length c5]] ?_ (hargs := Q19); (with_reducible refine (LstI (SwC.toA (LB6.v HS.1)) F1.1).mono ?_); rintro e wq ⟨v0, v1, v2, v3, v4, v5, rfl, hv, hb⟩; refine ⟨_, rfl, ?_⟩; have HV := Ya (SwC.lower hv (Z7 HB.1)); replace HS := Ya (LB6.below HS.1 hb); replace HB := Ya (Z8 HB.1 hb); clear hv hb; obtain ⟨N0, e0, N1, e1, N2, e2, N3, e3, N4, e4, N5, e5, q0, q1, q2, q3, q4, q5⟩ := SwC.slices HV.1; subst q0 q1 q2 q3 q4 q5) | ((with_reducible refine gate_dst (N := 6) rfl ?_); refine Yx 6 YN6 29 ?_; intro g6 hg w_6 hbox hb; have BX := Ya hbox; have GX := Ya (by rw [hg]; exact Z7 HB.1 : w.heap.size ≤ g6); have hn_HS := Ya (by rw [hg]; exact Nat.ne_of_lt (blk_lt (LB6.n HS.1)) : g5 ≠ g6); replace HV := Ya (SwC.below HV.1 hb); replace HS := Ya (LB6.below HS.1 hb); replace HB := Ya (Z8 HB.1 hb); obtain ⟨⟨aa, ab, ac, ad, ae, af⟩, hf0, hf1, hf2, hf3, hf4, hf5⟩ := LY6 BX.1; clear hb hbox hg))
  clear hcs0 hfs0 hcs1 hfs1 hcs2 hfs2 hcs3 hfs3 hcs4 hfs4 hcs5 hfs5
  clear aa hf0 ab hf1 ac hf2 ad hf3 ae hf4 af hf5
  have m_ := LB6.new (v0 := .slice N0 n0.length e0) (v1 := .slice N1 n1.length e1) (v2 := .slice N2 n2.length e2) (v3 := .slice N3 n3.length e3) (v4 := .slice N4 n4.length e4) (v5 := .slice N5 n5.length e5) HB.1 BX.1 HV.1 GX.1
  have m0_ := LB6.far (y0 := .slice N0 n0.length e0) (y1 := .slice N1 n1.length e1) (y2 := .slice N2 n2.length e2) (y3 := .slice N3 n3.length e3) (y4 := .slice N4 n4.length e4) (y5 := .slice N5 n5.length e5) HS.1 BX.1 GX.1 hn_HS.1
  unfold set6 at m_ m0_
  clear HB BX HV GX HS hn_HS
  have HB := Ya m_.m
  have HN := Ya m_
  have HS := Ya m0_
  clear m_ m0_
  generalize (World.setCell (World.setCell (World.setCell (World.setCell (World.setCell (World.setCell _ ⟨g6, 0, none⟩ (.slice N0 n0.length e0)) ⟨g6, 1, none⟩ (.slice N1 n1.length e1)) ⟨g6, 2, none⟩ (.slice N2 n2.length e2)) ⟨g6, 3, none⟩ (.slice N3 n3.length e3)) ⟨g6, 4, none⟩ (.slice N4 n4.length e4)) ⟨g6, 5, none⟩ (.slice N5 n5.length e5)) = w5 at HB HN HS ⊢
  obtain ⟨⟨hcs0, hcs1, hcs2, hcs3, hcs4, hcs5⟩, hfs0, hfs1, hfs2, hfs3, hfs4, hfs5⟩ := LY6 (LB6.n HS.1)
  go_upto_region 6 with (first | ((with_reducible refine gate_callee (f := 7) rfl ?_); refine Yz 54 Tryz.func7 #[.agg #[.slice S0 b.length c0, .slice S1 d.length c1, .slice S2 u.length c2, .slice S3 p.length c3, .slice S4 it.length c4, .slice S5 wh.length c5]] ?_ (hargs := Q19); (with_reducible refine (LstS (SwC.toA (LB6.v HS.1)) F2.1).mono ?_); rintro e wq ⟨v0, v1, v2, v3, v4, v5, rfl, hv, hb⟩; refine ⟨_, rfl, ?_⟩; have HV := Ya (SwC.lower hv (Z7 HB.1)); replace HS := Ya (LB6.below HS.1 hb); replace HN := Ya (LB6.below HN.1 hb); replace HB := Ya (Z8 HB.1 hb); clear hv hb; obtain ⟨R0, f0, R1, f1, R2, f2, R3, f3, R4, f4, R5, f5, q0, q1, q2, q3, q4, q5⟩ := SwC.slices HV.1; subst q0 q1 q2 q3 q4 q5) | ((with_reducible refine gate_dst (N := 9) rfl ?_); refine Yx 9 YN6 29 ?_; intro g9 hg w_9 hbox hb; have BX := Ya hbox; have GX := Ya (by rw [hg]; exact Z7 HB.1 : w.heap.size ≤ g9); have hn_HS := Ya (by rw [hg]; exact Nat.ne_of_lt (blk_lt (LB6.n HS.1)) : g5 ≠ g9); have hn_HN := Ya (by rw [hg]; exact Nat.ne_of_lt (blk_lt (LB6.n HN.1)) : g6 ≠ g9); replace HV := Ya (SwC.below HV.1 hb); replace HS := Ya (LB6.below HS.1 hb); replace HN := Ya (LB6.below HN.1 hb); replace HB := Ya (Z8 HB.1 hb); obtain ⟨⟨aa, ab, ac, ad, ae, af⟩, hf0, hf1, hf2, hf3, hf4, hf5⟩ := LY6 BX.1; clear hb hbox hg))
  clear hcs0 hfs0 hcs1 hfs1 hcs2 hfs2 hcs3 hfs3 hcs4 hfs4 hcs5 hfs5
  clear aa hf0 ab hf1 ac hf2 ad hf3 ae hf4 af hf5
  have m_ := LB6.new (v0 := .slice R0 n0.length f0) (v1 := .slice R1 n1.length f1) (v2 := .slice R2 n2.length f2) (v3 := .slice R3 n3.length f3) (v4 := .slice R4 n4.length f4) (v5 := .slice R5 n5.length f5) HB.1 BX.1 HV.1 GX.1
  have m0_ := LB6.far (y0 := .slice R0 n0.length f0) (y1 := .slice R1 n1.length f1) (y2 := .slice R2 n2.length f2) (y3 := .slice R3 n3.length f3) (y4 := .slice R4 n4.length f4) (y5 := .slice R5 n5.length f5) HS.1 BX.1 GX.1 hn_HS.1
  have m1_ := LB6.far (y0 := .slice R0 n0.length f0) (y1 := .slice R1 n1.length f1) (y2 := .slice R2 n2.length f2) (y3 := .slice R3 n3.length f3) (y4 := .slice R4 n4.length f4) (y5 := .slice R5 n5.length f5) HN.1 BX.1 GX.1 hn_HN.1
  unfold set6 at m_ m0_ m1_
  clear HB BX HV GX HS HN hn_HS hn_HN
  have HB := Ya m_.m
  have HR := Ya m_
  have HS := Ya m0_
  have HN := Ya m1_
  clear m_ m0_ m1_
  generalize (World.setCell (World.setCell (World.setCell (World.setCell (World.setCell (World.setCell _ ⟨g9, 0, none⟩ (.slice R0 n0.length f0)) ⟨g9, 1, none⟩ (.slice R1 n1.length f1)) ⟨g9, 2, none⟩ (.slice R2 n2.length f2)) ⟨g9, 3, none⟩ (.slice R3 n3.length f3)) ⟨g9, 4, none⟩ (.slice R4 n4.length f4)) ⟨g9, 5, none⟩ (.slice R5 n5.length f5)) = w5 at HB HR HS HN ⊢
  obtain ⟨⟨hcs0, hcs1, hcs2, hcs3, hcs4, hcs5⟩, hfs0, hfs1, hfs2, hfs3, hfs4, hfs5⟩ := LY6 (LB6.n HS.1)
  go_upto_region 7 with (first | ((with_reducible refine gate_callee (f := 8) rfl ?_); refine Yz 60 Tryz.func8 #[.agg #[.slice S0 b.length c0, .slice S1 d.length c1, .slice S2 u.length c2, .slice S3 p.length c3, .slice S4 it.length c4, .slice S5 wh.length c5]] ?_ (hargs := Q19); (with_reducible refine (LrkI (SwC.toA (LB6.v HS.1)) F3.1).mono ?_); rintro e wq ⟨rfl, hb⟩; refine ⟨_, rfl, ?_⟩; replace HS := Ya (LB6.below HS.1 hb); replace HN := Ya (LB6.below HN.1 hb); replace HR := Ya (LB6.below HR.1 hb); replace HB := Ya (Z8 HB.1 hb); clear hb))
  clear hcs0 hfs0 hcs1 hfs1 hcs2 hfs2 hcs3 hfs3 hcs4 hfs4 hcs5 hfs5
  obtain ⟨⟨hcs0, hcs1, hcs2, hcs3, hcs4, hcs5⟩, hfs0, hfs1, hfs2, hfs3, hfs4, hfs5⟩ := LY6 (LB6.n HS.1)
  go_upto_region 8 with (first | ((with_reducible refine gate_callee (f := 9) rfl ?_); refine Yz 65 Tryz.func9 #[.agg #[.slice S0 b.length c0, .slice S1 d.length c1, .slice S2 u.length c2, .slice S3 p.length c3, .slice S4 it.length c4, .slice S5 wh.length c5]] ?_ (hargs := Q19); (with_reducible refine (LrkS (SwC.toA (LB6.v HS.1)) F4.1).mono ?_); rintro e wq ⟨rfl, hb⟩; refine ⟨_, rfl, ?_⟩; replace HS := Ya (LB6.below HS.1 hb); replace HN := Ya (LB6.below HN.1 hb); replace HR := Ya (LB6.below HR.1 hb); replace HB := Ya (Z8 HB.1 hb); clear hb))
  clear hcs0 hfs0 hcs1 hfs1 hcs2 hfs2 hcs3 hfs3 hcs4 hfs4 hcs5 hfs5
  obtain ⟨⟨hcn0, hcn1, hcn2, hcn3, hcn4, hcn5⟩, hfn0, hfn1, hfn2, hfn3, hfn4, hfn5⟩ := LY6 (LB6.n HN.1)
  obtain ⟨⟨hcr0, hcr1, hcr2, hcr3, hcr4, hcr5⟩, hfr0, hfr1, hfr2, hfr3, hfr4, hfr5⟩ := LY6 (LB6.n HR.1)
  (try go_frame)
  go_cut [97] (fun am wc => am = .bool false ∧ Aside0 (LB6 w wc g5 (.slice S0 b.length c0) (.slice S1 d.length c1) (.slice S2 u.length c2) (.slice S3 p.length c3) (.slice S4 it.length c4) (.slice S5 wh.length c5) b d u p it wh) ∧ Aside0 (LB6 w wc g6 (.slice N0 n0.length e0) (.slice N1 n1.length e1) (.slice N2 n2.length e2) (.slice N3 n3.length e3) (.slice N4 n4.length e4) (.slice N5 n5.length e5) n0 n1 n2 n3 n4 n5))
  case first => as_aux_lemma =>
   cases ok <;> cases one <;> (go_wp2_with fail; refine (LuS (SwC.toA (LB6.v HN.1)) (SwC.toA (LB6.v HR.1)) F6.1).mono ?_; rintro e wq ⟨rfl, hb⟩; replace HS := Ya (LB6.below HS.1 hb); replace HN := Ya (LB6.below HN.1 hb); replace HR := Ya (LB6.below HR.1 hb); replace HB := Ya (Z8 HB.1 hb); clear hb; clear hcn0 hfn0 hcn1 hfn1 hcn2 hfn2 hcn3 hfn3 hcn4 hfn4 hcn5 hfn5; clear hcr0 hfr0 hcr1 hfr1 hcr2 hfr2 hcr3 hfr3 hcr4 hfr4 hcr5 hfr5; obtain ⟨⟨hcs0, hcs1, hcs2, hcs3, hcs4, hcs5⟩, hfs0, hfs1, hfs2, hfs3, hfs4, hfs5⟩ := LY6 (LB6.n HS.1); go_wp2_with fail; refine (LisI (SwC.toA (LB6.v HS.1)) F5.1).mono ?_; rintro e wq ⟨rfl, hb⟩; replace HS := Ya (LB6.below HS.1 hb); replace HN := Ya (LB6.below HN.1 hb); replace HR := Ya (LB6.below HR.1 hb); replace HB := Ya (Z8 HB.1 hb); clear hb; clear hcs0 hfs0 hcs1 hfs1 hcs2 hfs2 hcs3 hfs3 hcs4 hfs4 hcs5 hfs5; go_wp2; go_meet; case rel => exact ⟨rfl, ⟨HS.1⟩, ⟨HN.1⟩⟩)
  case rest  =>
   clear HS HN HR HB
   obtain ⟨rfl, HS, HN⟩ := hcut
   have HB := Ya (LB6.m HS.1)
   clear hcn0 hfn0 hcn1 hfn1 hcn2 hfn2 hcn3 hfn3 hcn4 hfn4 hcn5 hfn5
   clear hcr0 hfr0 hcr1 hfr1 hcr2 hfr2 hcr3 hfr3 hcr4 hfr4 hcr5 hfr5
   go_upto_if 98 with (fail)
   (try go_frame)
   go_cut [] (fun wc => Aside0 (Below w.heap.size w wc))
   case first => as_aux_lemma =>
    cases one
    ·go_wp2
     go_meet
     case rel => exact ⟨HB.1⟩
    ·obtain ⟨k1, k2, nx, f1, f2, f3⟩ := F7.1 rfl
     have F8 := Ya f1
     have F9 := Ya f2
     have F10 := Ya f3
     clear f1 f2 f3
     obtain ⟨⟨hcs0, hcs1, hcs2, hcs3, hcs4, hcs5⟩, hfs0, hfs1, hfs2, hfs3, hfs4, hfs5⟩ := LY6 (LB6.n HS.1)
     go_upto_region 12 with (first | ((with_reducible refine gate_callee (f := 12) rfl ?_); refine Yz 102 Tryz.func12 #[.slice S4 it.length c4] ?_ (hargs := Q19); (with_reducible refine (impl_TrotterRank.calls _ _ _ it _ _ _ (Kd.R_reads' (LB6.v HS.1).r4).2.2 (Kd.R_reads' (LB6.v HS.1).r4).2.1 F8.1).mono ?_); rintro e wq ⟨rfl, hb⟩; refine ⟨_, rfl, ?_⟩; replace HS := Ya (LB6.below HS.1 hb); replace HN := Ya (LB6.below HN.1 hb); replace HB := Ya (Z8 HB.1 hb); clear hb))
     clear hcs0 hfs0 hcs1 hfs1 hcs2 hfs2 hcs3 hfs3 hcs4 hfs4 hcs5 hfs5
     obtain ⟨⟨hcs0, hcs1, hcs2, hcs3, hcs4, hcs5⟩, hfs0, hfs1, hfs2, hfs3, hfs4, hfs5⟩ := LY6 (LB6.n HS.1)
     go_upto_region 13 with (first | ((with_reducible refine gate_callee (f := 13) rfl ?_); refine Yz 108 Tryz.func13 #[.slice S4 it.length c4] ?_ (hargs := Q19); (with_reducible refine (impl_NextTrotter.calls _ _ _ it _ _ _ _ (Kd.R_reads' (LB6.v HS.1).r4).2.2 (Kd.R_reads' (LB6.v HS.1).r4).2.1 F9.1).mono ?_); rintro e wq ⟨v0, rfl, hv, hb⟩; refine ⟨_, rfl, ?_⟩; have HX := Ya hv; replace HS := Ya (LB6.below HS.1 hb); replace HN := Ya (LB6.below HN.1 hb); replace HB := Ya (Z8 HB.1 hb); clear hv hb; obtain ⟨X, xc, q0⟩ := Z15 HX.1; subst q0))
     clear hcs0 hfs0 hcs1 hfs1 hcs2 hfs2 hcs3 hfs3 hcs4 hfs4 hcs5 hfs5
     obtain ⟨⟨hcn0, hcn1, hcn2, hcn3, hcn4, hcn5⟩, hfn0, hfn1, hfn2, hfn3, hfn4, hfn5⟩ := LY6 (LB6.n HN.1)
     cases ok
     ·go_wp2
      go_meet
      case rel => exact ⟨HB.1⟩
     ·obtain ⟨⟨k3, f1⟩, k4, f2⟩ := F10.1 rfl
      have F11 := Ya f1
      have F12 := Ya f2
      clear f1 f2
      go_wp2_with fail
      refine (Lsm HX.1 (LB6.v HN.1).r4 F11.1).mono ?_
      rintro e wq ⟨rfl, hb⟩
      replace HS := Ya (LB6.below HS.1 hb)
      replace HN := Ya (LB6.below HN.1 hb)
      replace HB := Ya (Z8 HB.1 hb)
      clear hb
      clear hcn0 hfn0 hcn1 hfn1 hcn2 hfn2 hcn3 hfn3 hcn4 hfn4 hcn5 hfn5
      obtain ⟨⟨hcn0, hcn1, hcn2, hcn3, hcn4, hcn5⟩, hfn0, hfn1, hfn2, hfn3, hfn4, hfn5⟩ := LY6 (LB6.n HN.1)
      go_wp2_with fail
      refine (LisI (SwC.toA (LB6.v HN.1)) F12.1).mono ?_
      rintro e wq ⟨rfl, hb⟩
      replace HS := Ya (LB6.below HS.1 hb)
      replace HN := Ya (LB6.below HN.1 hb)
      replace HB := Ya (Z8 HB.1 hb)
      clear hb
      clear hcn0 hfn0 hcn1 hfn1 hcn2 hfn2 hcn3 hfn3 hcn4 hfn4 hcn5 hfn5
      go_wp2
      go_meet
      case rel => exact ⟨HB.1⟩
   case rest  =>
   clear HB HS HN
   have HB := hcut
   clear F1 F2 F3 F4 F5 F6 F7
   obtain ⟨k1, k2, k3, k4, n, r, t0, t1, t2, t3, t4, t5, o, f1, f2, f3, f4, f5⟩ := HC.1
   have F1 := Ya f1
   have F2 := Ya f2
   have F3 := Ya f3
   have F4 := Ya f4
   have F5 := Ya f5
   clear f1 f2 f3 f4 f5
   go_upto_region 16 with (first | ((with_reducible refine gate_callee (f := 15) rfl ?_); refine Yz 146 Tryz.func15 #[.slice Q m.length qc] ?_ (hargs := Q19); (with_reducible refine (spec_DrawSwapperAt.calls _ _ _ m _ _ _ (Z19 ak.1 HB.1) h3 F1.1).mono ?_); rintro e wq ⟨rfl, hb⟩; refine ⟨_, rfl, ?_⟩; replace HB := Ya (Z8 HB.1 hb); clear hb))
   go_upto_region 17 with (first | ((with_reducible refine gate_callee (f := 16) rfl ?_); refine Yz 152 Tryz.func16 #[.int .i64 n, .int .i64 r] ?_ (hargs := Q19); (with_reducible refine (LatI F2.1).mono ?_); rintro e wq ⟨v0, v1, v2, v3, v4, v5, rfl, hv, hb⟩; refine ⟨_, rfl, ?_⟩; have HV := Ya (SwC.lower hv (Z7 HB.1)); replace HB := Ya (Z8 HB.1 hb); clear hv hb; obtain ⟨T0, c0, T1, c1, T2, c2, T3, c3, T4, c4, T5, c5, q0, q1, q2, q3, q4, q5⟩ := SwC.slices HV.1; subst q0 q1 q2 q3 q4 q5) | ((with_reducible refine gate_dst (N := 23) rfl ?_); refine Yx 23 YN6 29 ?_; intro ag hg w_23 hbox hb; have BX := Ya hbox; have GX := Ya (by rw [hg]; exact Z7 HB.1 : w.heap.size ≤ ag); replace HV := Ya (SwC.below HV.1 hb); replace HB := Ya (Z8 HB.1 hb); obtain ⟨⟨aa, ab, ac, ad, ae, af⟩, hf0, hf1, hf2, hf3, hf4, hf5⟩ := LY6 BX.1; clear hb hbox hg))
   clear aa hf0 ab hf1 ac hf2 ad hf3 ae hf4 af hf5
   have m_ := LB6.new (v0 := .slice T0 t0.length c0) (v1 := .slice T1 t1.length c1) (v2 := .slice T2 t2.length c2) (v3 := .slice T3 t3.length c3) (v4 := .slice T4 t4.length c4) (v5 := .slice T5 t5.length c5) HB.1 BX.1 HV.1 GX.1
   unfold set6 at m_
   clear HB BX HV GX 
   have HB := Ya m_.m
   have HT := Ya m_
   clear m_
   generalize (World.setCell (World.setCell (World.setCell (World.setCell (World.setCell (World.setCell _ ⟨ag, 0, none⟩ (.slice T0 t0.length c0)) ⟨ag, 1, none⟩ (.slice T1 t1.length c1)) ⟨ag, 2, none⟩ (.slice T2 t2.length c2)) ⟨ag, 3, none⟩ (.slice T3 t3.length c3)) ⟨ag, 4, none⟩ (.slice T4 t4.length c4)) ⟨ag, 5, none⟩ (.slice T5 t5.length c5)) = w5 at HB HT ⊢
   go_upto_region 18 with (first | ((with_reducible refine gate_callee (f := 17) rfl ?_); refine Yz 158 Tryz.func17 #[.int .i64 n, .int .i64 r] ?_ (hargs := Q19); (with_reducible refine (LatS F3.1).mono ?_); rintro e wq ⟨v0, v1, v2, v3, v4, v5, rfl, hv, hb⟩; refine ⟨_, rfl, ?_⟩; have HV := Ya (SwC.lower hv (Z7 HB.1)); replace HT := Ya (LB6.below HT.1 hb); replace HB := Ya (Z8 HB.1 hb); clear hv hb; obtain ⟨U0, e0, U1, e1, U2, e2, U3, e3, U4, e4, U5, e5, q0, q1, q2, q3, q4, q5⟩ := SwC.slices HV.1; subst q0 q1 q2 q3 q4 q5) | ((with_reducible refine gate_dst (N := 25) rfl ?_); refine Yx 25 YN6 29 ?_; intro ah hg w_25 hbox hb; have BX := Ya hbox; have GX := Ya (by rw [hg]; exact Z7 HB.1 : w.heap.size ≤ ah); have hn_HT := Ya (by rw [hg]; exact Nat.ne_of_lt (blk_lt (LB6.n HT.1)) : ag ≠ ah); replace HV := Ya (SwC.below HV.1 hb); replace HT := Ya (LB6.below HT.1 hb); replace HB := Ya (Z8 HB.1 hb); obtain ⟨⟨aa, ab, ac, ad, ae, af⟩, hf0, hf1, hf2, hf3, hf4, hf5⟩ := LY6 BX.1; clear hb hbox hg))
   clear aa hf0 ab hf1 ac hf2 ad hf3 ae hf4 af hf5
   have m_ := LB6.new (v0 := .slice U0 t0.length e0) (v1 := .slice U1 t1.length e1) (v2 := .slice U2 t2.length e2) (v3 := .slice U3 t3.length e3) (v4 := .slice U4 t4.length e4) (v5 := .slice U5 t5.length e5) HB.1 BX.1 HV.1 GX.1
   have m0_ := LB6.far (y0 := .slice U0 t0.length e0) (y1 := .slice U1 t1.length e1) (y2 := .slice U2 t2.length e2) (y3 := .slice U3 t3.length e3) (y4 := .slice U4 t4.length e4) (y5 := .slice U5 t5.length e5) HT.1 BX.1 GX.1 hn_HT.1
   unfold set6 at m_ m0_
   clear HB BX HV GX HT hn_HT
   have HB := Ya m_.m
   have HU := Ya m_
   have HT := Ya m0_
   clear m_ m0_
   generalize (World.setCell (World.setCell (World.setCell (World.setCell (World.setCell (World.setCell _ ⟨ah, 0, none⟩ (.slice U0 t0.length e0)) ⟨ah, 1, none⟩ (.slice U1 t1.length e1)) ⟨ah, 2, none⟩ (.slice U2 t2.length e2)) ⟨ah, 3, none⟩ (.slice U3 t3.length e3)) ⟨ah, 4, none⟩ (.slice U4 t4.length e4)) ⟨ah, 5, none⟩ (.slice U5 t5.length e5)) = w5 at HB HU HT ⊢
   obtain ⟨⟨hct0, hct1, hct2, hct3, hct4, hct5⟩, hft0, hft1, hft2, hft3, hft4, hft5⟩ := LY6 (LB6.n HT.1)
   obtain ⟨⟨hcu0, hcu1, hcu2, hcu3, hcu4, hcu5⟩, hfu0, hfu1, hfu2, hfu3, hfu4, hfu5⟩ := LY6 (LB6.n HU.1)
   (try go_frame)
   go_cut [169] (fun al wc => al = .bool false ∧ Aside0 (LB6 w wc ag (.slice T0 t0.length c0) (.slice T1 t1.length c1) (.slice T2 t2.length c2) (.slice T3 t3.length c3) (.slice T4 t4.length c4) (.slice T5 t5.length c5) t0 t1 t2 t3 t4 t5))
   case first => as_aux_lemma =>
    cases o <;> (go_wp2_with fail; refine (LuS (SwC.toA (LB6.v HT.1)) (SwC.toA (LB6.v HU.1)) F4.1).mono ?_; rintro e wq ⟨rfl, hb⟩; replace HT := Ya (LB6.below HT.1 hb); replace HU := Ya (LB6.below HU.1 hb); replace HB := Ya (Z8 HB.1 hb); clear hb; clear hct0 hft0 hct1 hft1 hct2 hft2 hct3 hft3 hct4 hft4 hct5 hft5; clear hcu0 hfu0 hcu1 hfu1 hcu2 hfu2 hcu3 hfu3 hcu4 hfu4 hcu5 hfu5; go_wp2; go_meet; case rel => exact ⟨rfl, ⟨HT.1⟩⟩)
   case rest  =>
    clear HT HU HB
    obtain ⟨rfl, HT⟩ := hcut
    have HB := Ya (LB6.m HT.1)
    clear hct0 hft0 hct1 hft1 hct2 hft2 hct3 hft3 hct4 hft4 hct5 hft5
    clear hcu0 hfu0 hcu1 hfu1 hcu2 hfu2 hcu3 hfu3 hcu4 hfu4 hcu5 hfu5
    go_upto_if 170 with (fail)
    (try go_frame)
    go_cut [] (fun wc => Aside0 (Below w.heap.size w wc))
    case first => as_aux_lemma =>
     cases o
     ·go_wp2
      go_meet
      case rel => exact ⟨HB.1⟩
     ·obtain ⟨k1, k2, k3, k4, L, I, f1, f2, f3, f4⟩ := F5.1 rfl
      have F6 := Ya f1
      have F7 := Ya f2
      have F8 := Ya f3
      have F9 := Ya f4
      clear f1 f2 f3 f4
      go_upto_region 22 with (first | ((with_reducible refine gate_callee (f := 18) rfl ?_); refine Yz 174 Tryz.func18 #[.int .i64 n, .int .i64 r] ?_ (hargs := Q19); (with_reducible refine (impl_TrotterAt.calls _ n r _ _ _ F6.1).mono ?_); rintro e wq ⟨v0, rfl, hv, hb⟩; refine ⟨_, rfl, ?_⟩; have HX := Ya hv; replace HT := Ya (LB6.below HT.1 hb); replace HB := Ya (Z8 HB.1 hb); clear hv hb; obtain ⟨X, xc, q0⟩ := Z15 HX.1; subst q0))
      go_upto_region 23 with (first | ((with_reducible refine gate_callee (f := 19) rfl ?_); refine Yz 179 Tryz.func19 #[.slice X L.length xc] ?_ (hargs := Q19); (with_reducible refine (impl_InverseOf.calls _ _ _ L _ _ _ (Kd.R_reads' HX.1).2.2 (Kd.R_reads' HX.1).2.1 F7.1).mono ?_); rintro e wq ⟨v0, rfl, hv, hb⟩; refine ⟨_, rfl, ?_⟩; have HI := Ya hv; replace HT := Ya (LB6.below HT.1 hb); replace HX := Ya (Z13 HX.1 hb); replace HB := Ya (Z8 HB.1 hb); clear hv hb; obtain ⟨Y, yc, q0⟩ := Z15 HI.1; subst q0))
      obtain ⟨⟨hct0, hct1, hct2, hct3, hct4, hct5⟩, hft0, hft1, hft2, hft3, hft4, hft5⟩ := LY6 (LB6.n HT.1)
      go_wp2_with fail
      refine (Lsm (LB6.v HT.1).r4 HX.1 F8.1).mono ?_
      rintro e wq ⟨rfl, hb⟩
      replace HT := Ya (LB6.below HT.1 hb)
      replace HX := Ya (Z13 HX.1 hb)
      replace HI := Ya (Z13 HI.1 hb)
      replace HB := Ya (Z8 HB.1 hb)
      clear hb
      clear hct0 hft0 hct1 hft1 hct2 hft2 hct3 hft3 hct4 hft4 hct5 hft5
      obtain ⟨⟨hct0, hct1, hct2, hct3, hct4, hct5⟩, hft0, hft1, hft2, hft3, hft4, hft5⟩ := LY6 (LB6.n HT.1)
      go_wp2_with fail
      refine (Lsm (LB6.v HT.1).r5 HI.1 F9.1).mono ?_
      rintro e wq ⟨rfl, hb⟩
      replace HT := Ya (LB6.below HT.1 hb)
      replace HX := Ya (Z13 HX.1 hb)
      replace HI := Ya (Z13 HI.1 hb)
      replace HB := Ya (Z8 HB.1 hb)
      clear hb
      clear hct0 hft0 hct1 hft1 hct2 hft2 hct3 hft3 hct4 hft4 hct5 hft5
      go_wp2
      go_meet
      case rel => exact ⟨HB.1⟩
    case rest => as_aux_lemma =>
    clear HB HT
    have HB := hcut
    clear F1 F2 F3 F4 F5
    obtain ⟨k1, k2, k3, k4, k5, k6, n', r', R, o1, z0, z1, z2, z3, z4, z5, o2, f1, f2, f3, f4, f5, f6, f7⟩ := HE.1
    have F1 := Ya f1
    have F2 := Ya f2
    have F3 := Ya f3
    have F4 := Ya f4
    have F5 := Ya f5
    have F6 := Ya f6
    have F7 := Ya f7
    clear f1 f2 f3 f4 f5 f6 f7
    go_upto_region 26 with (first | ((with_reducible refine gate_callee (f := 20) rfl ?_); refine Yz 204 Tryz.func20 #[.slice Q m.length qc] ?_ (hargs := Q19); (with_reducible refine (spec_DrawRunSwapper.calls _ _ m _ _ _ (Z19 ak.1 HB.1) h3 F1.1).mono ?_); rintro e wq ⟨rfl, hb⟩; refine ⟨_, rfl, ?_⟩; replace HB := Ya (Z8 HB.1 hb); clear hb))
    go_upto_region 27 with (first | ((with_reducible refine gate_callee (f := 21) rfl ?_); refine Yz 210 Tryz.func21 #[.int .i64 n', .int .i64 r'] ?_ (hargs := Q19); (with_reducible refine (impl_RunSwapper.calls _ n' r' _ _ _ F2.1).mono ?_); rintro e wq ⟨v0, rfl, hv, hb⟩; refine ⟨_, rfl, ?_⟩; have HX := Ya hv; replace HB := Ya (Z8 HB.1 hb); clear hv hb; obtain ⟨X, xc, q0⟩ := Z15 HX.1; subst q0))
    go_upto_region 28 with (first | ((with_reducible refine gate_callee (f := 22) rfl ?_); refine Yz 216 Tryz.func22 #[.int .i64 n', .int .i64 r'] ?_ (hargs := Q19); (with_reducible refine (spec_RunSwapper.calls _ n' r' _ _ _ F3.1).mono ?_); rintro e wq ⟨v0, rfl, hv, hb⟩; refine ⟨_, rfl, ?_⟩; have HI := Ya hv; replace HX := Ya (Z13 HX.1 hb); replace HB := Ya (Z8 HB.1 hb); clear hv hb; obtain ⟨Y, yc, q0⟩ := Z15 HI.1; subst q0))
    go_upto_region 29 with (first | ((with_reducible refine gate_callee (f := 23) rfl ?_); refine Yz 221 Tryz.func23 #[.int .i64 n'] ?_ (hargs := Q19); (with_reducible refine (LsaI F5.1).mono ?_); rintro e wq ⟨v0, v1, v2, v3, v4, v5, rfl, hv, hb⟩; refine ⟨_, rfl, ?_⟩; have HV := Ya (SwC.lower hv (Z7 HB.1)); replace HX := Ya (Z13 HX.1 hb); replace HI := Ya (Z13 HI.1 hb); replace HB := Ya (Z8 HB.1 hb); clear hv hb; obtain ⟨S0, c0, S1, c1, S2, c2, S3, c3, S4, c4, S5, c5, q0, q1, q2, q3, q4, q5⟩ := SwC.slices HV.1; subst q0 q1 q2 q3 q4 q5) | ((with_reducible refine gate_dst (N := 37) rfl ?_); refine Yx 37 YN6 29 ?_; intro ai hg w_37 hbox hb; have BX := Ya hbox; have GX := Ya (by rw [hg]; exact Z7 HB.1 : w.heap.size ≤ ai); replace HV := Ya (SwC.below HV.1 hb); replace HX := Ya (Z13 HX.1 hb); replace HI := Ya (Z13 HI.1 hb); replace HB := Ya (Z8 HB.1 hb); obtain ⟨⟨aa, ab, ac, ad, ae, af⟩, hf0, hf1, hf2, hf3, hf4, hf5⟩ := LY6 BX.1; clear hb hbox hg))
    clear aa hf0 ab hf1 ac hf2 ad hf3 ae hf4 af hf5
    have m_ := LB6.new (v0 := .slice S0 z0.length c0) (v1 := .slice S1 z1.length c1) (v2 := .slice S2 z2.length c2) (v3 := .slice S3 z3.length c3) (v4 := .slice S4 z4.length c4) (v5 := .slice S5 z5.length c5) HB.1 BX.1 HV.1 GX.1
    have l0_ := Lr6 (y0 := .slice S0 z0.length c0) (y1 := .slice S1 z1.length c1) (y2 := .slice S2 z2.length c2) (y3 := .slice S3 z3.length c3) (y4 := .slice S4 z4.length c4) (y5 := .slice S5 z5.length c5) HX.1 BX.1
    have l1_ := Lr6 (y0 := .slice S0 z0.length c0) (y1 := .slice S1 z1.length c1) (y2 := .slice S2 z2.length c2) (y3 := .slice S3 z3.length c3) (y4 := .slice S4 z4.length c4) (y5 := .slice S5 z5.length c5) HI.1 BX.1
    unfold set6 at m_ l0_ l1_
    clear HB BX HV GX HX HI
    have HB := Ya m_.m
    have HT := Ya m_
    have HX := Ya l0_
    have HI := Ya l1_
    clear m_ l0_ l1_
    generalize (World.setCell (World.setCell (World.setCell (World.setCell (World.setCell (World.setCell _ ⟨ai, 0, none⟩ (.slice S0 z0.length c0)) ⟨ai, 1, none⟩ (.slice S1 z1.length c1)) ⟨ai, 2, none⟩ (.slice S2 z2.length c2)) ⟨ai, 3, none⟩ (.slice S3 z3.length c3)) ⟨ai, 4, none⟩ (.slice S4 z4.length c4)) ⟨ai, 5, none⟩ (.slice S5 z5.length c5)) = w5 at HB HT HX HI ⊢
    go_upto_region 30 with (first | ((with_reducible refine gate_callee (f := 16) rfl ?_); refine Yz 226 Tryz.func16 #[.int .i64 n', .int .i64 0] ?_ (hargs := Q19); (with_reducible refine (LatI F6.1).mono ?_); rintro e wq ⟨v0, v1, v2, v3, v4, v5, rfl, hv, hb⟩; refine ⟨_, rfl, ?_⟩; have HV := Ya (SwC.lower hv (Z7 HB.1)); replace HT := Ya (LB6.below HT.1 hb); replace HX := Ya (Z13 HX.1 hb); replace HI := Ya (Z13 HI.1 hb); replace HB := Ya (Z8 HB.1 hb); clear hv hb; obtain ⟨U0, e0, U1, e1, U2, e2, U3, e3, U4, e4, U5, e5, q0, q1, q2, q3, q4, q5⟩ := SwC.slices HV.1; subst q0 q1 q2 q3 q4 q5) | ((with_reducible refine gate_dst (N := 39) rfl ?_); refine Yx 39 YN6 29 ?_; intro aj hg w_39 hbox hb; have BX := Ya hbox; have GX := Ya (by rw [hg]; exact Z7 HB.1 : w.heap.size ≤ aj); have hn_HT := Ya (by rw [hg]; exact Nat.ne_of_lt (blk_lt (LB6.n HT.1)) : ai ≠ aj); replace HV := Ya (SwC.below HV.1 hb); replace HT := Ya (LB6.below HT.1 hb); replace HX := Ya (Z13 HX.1 hb); replace HI := Ya (Z13 HI.1 hb); replace HB := Ya (Z8 HB.1 hb); obtain ⟨⟨aa, ab, ac, ad, ae, af⟩, hf0, hf1, hf2, hf3, hf4, hf5⟩ := LY6 BX.1; clear hb hbox hg))
    clear aa hf0 ab hf1 ac hf2 ad hf3 ae hf4 af hf5
    have m_ := LB6.new (v0 := .slice U0 z0.length e0) (v1 := .slice U1 z1.length e1) (v2 := .slice U2 z2.length e2) (v3 := .slice U3 z3.length e3) (v4 := .slice U4 z4.length e4) (v5 := .slice U5 z5.length e5) HB.1 BX.1 HV.1 GX.1
    have m0_ := LB6.far (y0 := .slice U0 z0.length e0) (y1 := .slice U1 z1.length e1) (y2 := .slice U2 z2.length e2) (y3 := .slice U3 z3.length e3) (y4 := .slice U4 z4.length e4) (y5 := .slice U5 z5.length e5) HT.1 BX.1 GX.1 hn_HT.1
    have l0_ := Lr6 (y0 := .slice U0 z0.length e0) (y1 := .slice U1 z1.length e1) (y2 := .slice U2 z2.length e2) (y3 := .slice U3 z3.length e3) (y4 := .slice U4 z4.length e4) (y5 := .slice U5 z5.length e5) HX.1 BX.1
    have l1_ := Lr6 (y0 := .slice U0 z0.length e0) (y1 := .slice U1 z1.length e1) (y2 := .slice U2 z2.length e2) (y3 := .slice U3 z3.length e3) (y4 := .slice U4 z4.length e4) (y5 := .slice U5 z5.length e5) HI.1 BX.1
    unfold set6 at m_ m0_ l0_ l1_
    clear HB BX HV GX HT hn_HT HX HI
    have HB := Ya m_.m
    have HU := Ya m_
    have HT := Ya m0_
    have HX := Ya l0_
    have HI := Ya l1_
    clear m_ m0_ l0_ l1_
    generalize (World.setCell (World.setCell (World.setCell (World.setCell (World.setCell (World.setCell _ ⟨aj, 0, none⟩ (.slice U0 z0.length e0)) ⟨aj, 1, none⟩ (.slice U1 z1.length e1)) ⟨aj, 2, none⟩ (.slice U2 z2.length e2)) ⟨aj, 3, none⟩ (.slice U3 z3.length e3)) ⟨aj, 4, none⟩ (.slice U4 z4.length e4)) ⟨aj, 5, none⟩ (.slice U5 z5.length e5)) = w5 at HB HU HT HX HI ⊢
    cases o1 <;> cases o2 <;> (go_wp2_with fail; refine (Lsm HX.1 HI.1 F4.1).mono ?_; rintro e wq ⟨rfl, hb⟩; replace HT := Ya (LB6.below HT.1 hb); replace HU := Ya (LB6.below HU.1 hb); replace HX := Ya (Z13 HX.1 hb); replace HI := Ya (Z13 HI.1 hb); replace HB := Ya (Z8 HB.1 hb); clear hb; obtain ⟨⟨hct0, hct1, hct2, hct3, hct4, hct5⟩, hft0, hft1, hft2, hft3, hft4, hft5⟩ := LY6 (LB6.n HT.1); obtain ⟨⟨hcu0, hcu1, hcu2, hcu3, hcu4, hcu5⟩, hfu0, hfu1, hfu2, hfu3, hfu4, hfu5⟩ := LY6 (LB6.n HU.1); go_wp2_with fail; refine (LuS (SwC.toA (LB6.v HT.1)) (SwC.toA (LB6.v HU.1)) F7.1).mono ?_; rintro e wq ⟨rfl, hb⟩; replace HT := Ya (LB6.below HT.1 hb); replace HU := Ya (LB6.below HU.1 hb); replace HX := Ya (Z13 HX.1 hb); replace HI := Ya (Z13 HI.1 hb); replace HB := Ya (Z8 HB.1 hb); clear hb; clear hct0 hft0 hct1 hft1 hct2 hft2 hct3 hft3 hct4 hft4 hct5 hft5; clear hcu0 hfu0 hcu1 hfu1 hcu2 hfu2 hcu3 hfu3 hcu4 hfu4 hcu5 hfu5; go_wp2; go_ret; exact ⟨rfl, HB.1⟩)
 ·go_enter Tryz.func3, Tryz.ntmps3
  go_wp2_with (first | ((with_reducible refine gate_callee (f := 4) rfl ?_); refine Yz 43 Tryz.func4 #[.slice P l.length pc, .slice Q m.length qc] ?_ (hargs := Q19); (with_reducible refine (laws_big.calls _ _ l _ _ m _ _ HR0.1 h1 ak.1 h3 HG.1).mono ?_); rintro e wq ⟨rfl, hd⟩; refine ⟨_, rfl, ?_⟩; have hb := Lbl hd; replace HB := Ya (Z8 HB.1 hb); clear hb hd))
  go_ret
  exact ⟨rfl, HB.1⟩
def laws_FnSwappers.Pure : Prop := ∀ (l0 : List Int) (l1 : List Int), l0.length ≤ maxLen → l0.length * 1 ≤ 140737488351232 → (∀ x ∈ l0, (Lit.int .u8 x).wf = true) → l1.length ≤ maxLen → l1.length * 1 ≤ 140737488351232 → (∀ x ∈ l1, (Lit.int .u8 x).wf = true) → Fine l0 l1
theorem laws_FnSwappers.walk (P : laws_FnSwappers.Pure) (a0 : Option Addr) (len0 cap0 : Nat) (z0 : List Int) (a1 : Option Addr) (len1 cap1 : Nat) (z1 : List Int) (w : World) (w0 : (a0 = none ∧ len0 = 0 ∧ cap0 = 0 ∧ z0 = []) ∨ ∃ x, a0 = some x ∧ len0 ≤ cap0 ∧ cap0 ≤ maxLen ∧ z0.length = cap0 ∧ (∀ i, i < z0.length → w.cell? (x.add i) = some (.int .u8 (z0.getD i 0))) ∧ ∀ n ∈ z0, (Lit.int .u8 n).wf = true) (y0 : len0 * 1 ≤ 140737488351232) (w1 : (a1 = none ∧ len1 = 0 ∧ cap1 = 0 ∧ z1 = []) ∨ ∃ x, a1 = some x ∧ len1 ≤ cap1 ∧ cap1 ≤ maxLen ∧ z1.length = cap1 ∧ (∀ i, i < z1.length → w.cell? (x.add i) = some (.int .u8 (z1.getD i 0))) ∧ ∀ n ∈ z1, (Lit.int .u8 n).wf = true) (y1 : len1 * 1 ≤ 140737488351232) :
 Calls Tryz.prog 3 #[.slice a0 len0 cap0, .slice a1 len1 cap1] w fun e w' => e = .returned (.bool true) ∧ Below w.heap.size w w' := by
 obtain ⟨l0, rfl, aa, hm0, hw0, ab⟩ := ReadsInt.ofRowC w0
 obtain ⟨l1, rfl, ac, hm1, hw1, ad⟩ := ReadsInt.ofRowC w1
 exact laws_FnSwappers.calls _ _ l0 _ _ l1 w (Kd.C_of_reads (d := (0 : Int)) (h1 := fun _ => rfl) aa) ab (Kd.C_of_reads (d := (0 : Int)) (h1 := fun _ => rfl) ac) ad (P l0 l1 hm0 y0 hw0 hm1 y1 hw1)
end Go.Proofs.YtapbbmicfkbafaaGreat.MFnSwappers
