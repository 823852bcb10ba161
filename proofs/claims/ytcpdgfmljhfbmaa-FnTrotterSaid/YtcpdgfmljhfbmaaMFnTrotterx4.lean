/- Functions of the program as Lean functions, each with the proof that its call comes to just that: laid for this claim by this session's own program. -/
import Derived.Test.YtcpdgfmljhfbmaaMFnTrotterx0
import Derived.Test.YtcpdgfmljhfbmaaMFnTrotterx1
import Derived.Test.YtcpdgfmljhfbmaaMFnTrotterx3
namespace Go.Proofs.Ytcpdgfmljhfbmaa.MFnTrotter
open Go.RowKit Go.Proofs.YtcpdgfmljhfbmaaW.PrintWords Go.Proofs.YtcpdgfmljhfbmaaW.PrintLast Go.Proofs.YtcpdgfmljhfbmaaW.PrintMore
attribute [local go_sem] max2_int min2_int max_two min_two max_three min_three max_four min_four   -- for this text's walks alone
set_option linter.unusedVariables false
set_option linter.unusedSimpArgs false

/-! ### spec_l1Cur_rank: function 66 -/
def spec_l1Cur_rank.f (s0_0 : List Int) (s0_1 : Int) (s0_2 : Int) (a1 : Int) : Option (Int × Int × Int) := (spec_l1Cur_pick.f s0_0 s0_1 s0_2 12).bind fun bt172 => (if bt172.1 = 0 then ((spec_l1Cur_among.f s0_0 bt172.2.1 bt172.2.2 (([(-1), a1, wrap64 (a1 + 1), 4611686018427387904] : List Int))).bind fun bt178 => (some (bt178.1, bt178.2.1, bt178.2.2))) else (if bt172.1 = 1 then (some (wrap64 (a1 - 1), bt172.2.1, bt172.2.2)) else (if bt172.1 = 2 then (some (0, bt172.2.1, bt172.2.2)) else (if a1 < 2 then (some (0, bt172.2.1, bt172.2.2)) else ((spec_l1Cur_pick.f s0_0 bt172.2.1 bt172.2.2 60000).bind fun bt181 => ((spec_l1Cur_pick.f s0_0 bt181.2.1 bt181.2.2 60000).bind fun bt184 => (if a1 = 0 then (none) else (some (Int.tmod (wrap64 ((wrap64 (bt181.1 * 60000)) + bt184.1)) a1, bt184.2.1, bt184.2.2)))))))))
set_option maxHeartbeats 8000000 in
set_option maxRecDepth 100000 in
theorem spec_l1Cur_rank.calls (g : Nat) (s0_0 : List Int) (s0_1 : Int) (s0_2 : Int) (a1 : Int) (r1 : Int) (r2 : Int) (r3 : Int) (w0 w : World) (hI : IsS49 w0 w g s0_0 s0_1 s0_2) (hB : Below w0.heap.size w0 w) (h : spec_l1Cur_rank.f s0_0 s0_1 s0_2 a1 = some (r1, r2, r3)) :
    Calls Try.prog 66 #[.pointer (some ⟨g, 0, none⟩), .int .i64 a1] w fun e w' => e = .returned (.int .i64 r1) ∧ IsS49 w0 w' g s0_0 r2 r3 ∧ Below w0.heap.size w0 w' ∧ KeepBut w w' g none := by
  have HI0 := Aside0.mk hI
  have HK := Aside0.mk (KeepBut.refl w g none)
  have HL := Aside0.mk hB.size
  clear hI
  have HW0 := Aside0.mk hB.size
  have HB := Aside0.mk hB
  clear hB
  have H : ((spec_l1Cur_pick.f s0_0 s0_1 s0_2 12).bind fun bt172 => (if bt172.1 = 0 then ((spec_l1Cur_among.f s0_0 bt172.2.1 bt172.2.2 (([(-1), a1, wrap64 (a1 + 1), 4611686018427387904] : List Int))).bind fun bt178 => (some (bt178.1, bt178.2.1, bt178.2.2))) else (if bt172.1 = 1 then (some (wrap64 (a1 - 1), bt172.2.1, bt172.2.2)) else (if bt172.1 = 2 then (some (0, bt172.2.1, bt172.2.2)) else (if a1 < 2 then (some (0, bt172.2.1, bt172.2.2)) else ((spec_l1Cur_pick.f s0_0 bt172.2.1 bt172.2.2 60000).bind fun bt181 => ((spec_l1Cur_pick.f s0_0 bt181.2.1 bt181.2.2 60000).bind fun bt184 => (if a1 = 0 then (none) else (some (Int.tmod (wrap64 ((wrap64 (bt181.1 * 60000)) + bt184.1)) a1, bt184.2.1, bt184.2.2)))))))))) = some (r1, r2, r3) := h
  clear h
  replace H := Option.bind_eq_some_iff.mp H
  obtain ⟨⟨t172, t173, t174⟩, A30, H⟩ := H
  replace H : (if t172 = 0 then ((spec_l1Cur_among.f s0_0 t173 t174 (([(-1), a1, wrap64 (a1 + 1), 4611686018427387904] : List Int))).bind fun bt178 => (some (bt178.1, bt178.2.1, bt178.2.2))) else (if t172 = 1 then (some (wrap64 (a1 - 1), t173, t174)) else (if t172 = 2 then (some (0, t173, t174)) else (if a1 < 2 then (some (0, t173, t174)) else ((spec_l1Cur_pick.f s0_0 t173 t174 60000).bind fun bt181 => ((spec_l1Cur_pick.f s0_0 bt181.2.1 bt181.2.2 60000).bind fun bt184 => (if a1 = 0 then (none) else (some (Int.tmod (wrap64 ((wrap64 (bt181.1 * 60000)) + bt184.1)) a1, bt184.2.1, bt184.2.2))))))))) = some (r1, r2, r3) := H
  have A3 := Aside0.mk A30
  clear A30
  by_cases c4 : t172 = 0
  · rw [if_pos c4] at H
    have c4b0 : (t172 == 0) = true := beq_iff_eq.mpr c4
    have c4b1 : (t172 != 0) = false := bne_eq_false_iff_eq.mpr c4
    clear c4
    obtain ⟨y175, hy175⟩ : ∃ y_ : List Int, y_ = (([(-1), a1, wrap64 (a1 + 1), 4611686018427387904] : List Int)) := ⟨_, rfl⟩
    replace H : ((spec_l1Cur_among.f s0_0 t173 t174 y175).bind fun bt178 => (some (bt178.1, bt178.2.1, bt178.2.2))) = some (r1, r2, r3) := by first | (rw [hy175]; with_reducible exact H) | (have H2_ := (Option.bind_some _ _).symm.trans H; rw [hy175]; with_reducible exact H2_) | (have H2_ := (Option.bind_some _ _).symm.trans H; with_reducible exact H2_) | with_reducible exact H | (rw [hy175]; exact H) | exact H
    have Ny175 := Aside0.mk hy175
    clear hy175
    replace H := Option.bind_eq_some_iff.mp H
    obtain ⟨⟨t178, t179, t180⟩, A50, H⟩ := H
    replace H : (some (t178, t179, t180)) = some (r1, r2, r3) := H
    have A5 := Aside0.mk A50
    clear A50
    simp only [Option.some.injEq, Prod.mk.injEq] at H
    obtain ⟨rfl, rfl, rfl⟩ := H
    go_enter Try.func66, Try.ntmps66
    go_wp2_with (first | ((with_reducible refine gate_callee (f := 55) rfl ?_); refine goesL_ (some 6) rfl rfl Try.func55 (by kernel_rfl) rfl #[.pointer (some ⟨g, 0, none⟩), .int .i64 12] rfl (by (try simp only [List.map_toArray, List.map_cons, List.map_nil]); first | done | rfl | (simp only [List.length_drop, List.length_take]; rfl)) ?_; (with_reducible refine (spec_l1Cur_pick.calls g s0_0 s0_1 s0_2 12 t172 t173 t174 w0 _ ?side1 ?side2 A3.out).mono ?_); (case side1 => repeat (first | (with_reducible first | exact HI0.out | apply IsS49.alloc | apply IsS49.drewN | apply IsS49.drew | apply IsS49.set_1 | apply IsS49.set_2) | exact HI0.out)); (case side2 => repeat (first | (with_reducible first | exact HB.out | apply below_alloc | apply pw_below_drewN | apply below_drew1 | refine below_set ?_ (IsS49.ge HI0.out)) | exact HB.out)); rintro e w6 ⟨rfl, hi, hb, hk⟩; refine ⟨_, rfl, ?_⟩; have n0_ := Aside0.mk (KeepBut.trans (by repeat (first | (with_reducible first | exact HK.out | apply KeepBut.set_ | apply keep_drewN | apply keep_drew | apply keep_alloc) | exact HK.out)) hk (.inl rfl)); have n1_ := Aside0.mk (hb); have n2_ := Aside0.mk (hi); clear HK; clear HB; clear HI0; have HK := n0_; have HB := n1_; have HI0 := n2_; clear n0_ n1_ n2_; (try clear hb); (try clear hb2); (try clear hk); (try clear hi)) | ((with_reducible refine gate_dst (N := 13) rfl ?_); refine Kd.R_lit (Kd.int .i64) _ 3 ?hg (N := 13) ?hd (xs := ([(-1), a1, wrap64 (a1 + 1), 4611686018427387904] : List Int)) (inner := [.int .i64 (-1), .int .i64 a1, .int .i64 (wrap64 (a1 + 1)), .int .i64 4611686018427387904]) (ok := fun _ => True) (okp := fun _ => True) ?hr ?hp (fun _ hk => hk) trivial (Below.refl _ _) (Nat.le_refl _) (by simp) ?_; (case hd => rfl); (case hg => rfl); (case hr => first | (go_simp; done) | (go_simp; rfl)); (case hp => exact (Reps.one (show Kd.M (Kd.int .i64) _ _ _ (-1) [.int .i64 (-1)] from rfl) (Reps.one (show Kd.M (Kd.int .i64) _ _ _ a1 [.int .i64 a1] from rfl) (Reps.one (show Kd.M (Kd.int .i64) _ _ _ (wrap64 (a1 + 1)) [.int .i64 (wrap64 (a1 + 1))] from rfl) (Reps.one (show Kd.M (Kd.int .i64) _ _ _ 4611686018427387904 [.int .i64 4611686018427387904] from rfl) (Reps.none _ _)))))); intro v176 w7 ho8 hb hg_ hnew_; clear hg_ hnew_; (first | rw [← Ny175.out] at ho8 | (simp only [Int.reduceToNat] at ho8; rw [← Ny175.out] at ho8)); have n0_ := Aside0.mk (Kd.R_lower ho8 (keep_size (w := w) (g := g) (row := none) (by repeat (first | (with_reducible first | exact HK.out | apply KeepBut.set_ | apply keep_drewN | apply keep_drew | apply keep_alloc) | exact HK.out)))); have n1_ := Aside0.mk (IsS49.below (by repeat (first | (with_reducible first | exact HI0.out | apply IsS49.alloc | apply IsS49.drewN | apply IsS49.drew | apply IsS49.set_1 | apply IsS49.set_2) | exact HI0.out)) hb); have n2_ := Aside0.mk (KeepBut.trans (by repeat (first | (with_reducible first | exact HK.out | apply KeepBut.set_ | apply keep_drewN | apply keep_drew | apply keep_alloc) | exact HK.out)) (KeepBut.of_below hb g none) (.inl rfl)); have n3_ := Aside0.mk (below_step (by repeat (first | (with_reducible first | exact HB.out | apply below_alloc | apply pw_below_drewN | apply below_drew1 | refine below_set ?_ (IsS49.ge HI0.out)) | exact HB.out)) hb); clear HI0; clear HK; clear HB; have HO177 := n0_; have HI0 := n1_; have HK := n2_; have HB := n3_; clear n0_ n1_ n2_ n3_; clear hb ho8; obtain ⟨Ao9, co9, eo9⟩ := Kd.R_slice HO177.out; subst eo9) | ((with_reducible refine gate_callee (f := 56) rfl ?_); refine goesL_ (some 14) rfl rfl Try.func56 (by kernel_rfl) rfl #[.pointer (some ⟨g, 0, none⟩), .slice Ao9 y175.length co9] rfl (by (try simp only [List.map_toArray, List.map_cons, List.map_nil]); first | done | rfl | (simp only [List.length_drop, List.length_take]; rfl)) ?_; (with_reducible refine (spec_l1Cur_among.calls g s0_0 t173 t174 _ _ y175 t178 t179 t180 w0 _ ?side1 ?side2 ?side3 ?side4 ?side5 A5.out).mono ?_); (case side1 => repeat (first | (with_reducible first | exact HI0.out | apply IsS49.alloc | apply IsS49.drewN | apply IsS49.drew | apply IsS49.set_1 | apply IsS49.set_2) | exact HI0.out)); (case side2 => repeat (first | (with_reducible first | exact HB.out | apply below_alloc | apply pw_below_drewN | apply below_drew1 | refine below_set ?_ (IsS49.ge HI0.out)) | exact HB.out)); (case side3 => repeat (first | exact (Kd.R_reads' HO177.out).2.2 | (with_reducible refine Kd.C_alloc ?_ _) | (with_reducible refine Kd.C_drewN ?_ _) | (with_reducible refine Kd.C_drew ?_))); (case side4 => exact (Kd.R_reads' HO177.out).2.1); (case side5 => exact far_slice (IsS49.own_ne HI0.out HO177.out (by decide))); rintro e w10 ⟨rfl, hi, hb, hk⟩; refine ⟨_, rfl, ?_⟩; have n0_ := Aside0.mk (Kd.R_mono (Kd.R_keep (IsS49.apart (show IsS49 w0 _ g s0_0 t173 t174 from by repeat (first | (with_reducible first | exact HI0.out | apply IsS49.alloc | apply IsS49.drewN | apply IsS49.drew | apply IsS49.set_1 | apply IsS49.set_2) | exact HI0.out)) (by (with_reducible repeat (first | apply Kd.R_alloc | apply Kd.R_drewN | apply Kd.R_drew)); exact HO177.out) (by decide)) hk (fun _ h => h.2)) (fun _ h => h.1)); have n1_ := Aside0.mk (KeepBut.trans (by repeat (first | (with_reducible first | exact HK.out | apply KeepBut.set_ | apply keep_drewN | apply keep_drew | apply keep_alloc) | exact HK.out)) hk (.inl rfl)); have n2_ := Aside0.mk (hb); have n3_ := Aside0.mk (hi); clear HO177; clear HK; clear HB; clear HI0; have HO177 := n0_; have HK := n1_; have HB := n2_; have HI0 := n3_; clear n0_ n1_ n2_ n3_; (try clear hb); (try clear hb2); (try clear hk); (try clear hi)))
    go_ret
    exact ⟨by first | rfl | (simp [errW_none, errW_some] <;> rfl) | (simp [*, errW_none, errW_some] <;> rfl), by repeat (first | (with_reducible first | exact HI0.out | apply IsS49.alloc | apply IsS49.drewN | apply IsS49.drew | apply IsS49.set_1 | apply IsS49.set_2) | exact HI0.out), by repeat (first | (with_reducible first | exact HB.out | apply below_alloc | apply pw_below_drewN | apply below_drew1 | refine below_set ?_ (IsS49.ge HI0.out)) | exact HB.out), by repeat (first | (with_reducible first | exact HK.out | apply KeepBut.set_ | apply keep_drewN | apply keep_drew | apply keep_alloc) | exact HK.out)⟩
  · rw [if_neg c4] at H
    have c4b0 : (t172 == 0) = false := beq_eq_false_iff_ne.mpr c4
    have c4b1 : (t172 != 0) = true := bne_iff_ne.mpr c4
    by_cases c11 : t172 = 1
    · rw [if_pos c11] at H
      have c11b0 : (t172 == 1) = true := beq_iff_eq.mpr c11
      have c11b1 : (t172 != 1) = false := bne_eq_false_iff_eq.mpr c11
      clear c11
      simp only [Option.some.injEq, Prod.mk.injEq] at H
      obtain ⟨rfl, rfl, rfl⟩ := H
      go_enter Try.func66, Try.ntmps66
      go_wp2_with (first | ((with_reducible refine gate_callee (f := 55) rfl ?_); refine goesL_ (some 6) rfl rfl Try.func55 (by kernel_rfl) rfl #[.pointer (some ⟨g, 0, none⟩), .int .i64 12] rfl (by (try simp only [List.map_toArray, List.map_cons, List.map_nil]); first | done | rfl | (simp only [List.length_drop, List.length_take]; rfl)) ?_; (with_reducible refine (spec_l1Cur_pick.calls g s0_0 s0_1 s0_2 12 t172 t173 t174 w0 _ ?side1 ?side2 A3.out).mono ?_); (case side1 => repeat (first | (with_reducible first | exact HI0.out | apply IsS49.alloc | apply IsS49.drewN | apply IsS49.drew | apply IsS49.set_1 | apply IsS49.set_2) | exact HI0.out)); (case side2 => repeat (first | (with_reducible first | exact HB.out | apply below_alloc | apply pw_below_drewN | apply below_drew1 | refine below_set ?_ (IsS49.ge HI0.out)) | exact HB.out)); rintro e w12 ⟨rfl, hi, hb, hk⟩; refine ⟨_, rfl, ?_⟩; have n0_ := Aside0.mk (KeepBut.trans (by repeat (first | (with_reducible first | exact HK.out | apply KeepBut.set_ | apply keep_drewN | apply keep_drew | apply keep_alloc) | exact HK.out)) hk (.inl rfl)); have n1_ := Aside0.mk (hb); have n2_ := Aside0.mk (hi); clear HK; clear HB; clear HI0; have HK := n0_; have HB := n1_; have HI0 := n2_; clear n0_ n1_ n2_; (try clear hb); (try clear hb2); (try clear hk); (try clear hi)))
      go_ret
      exact ⟨by first | rfl | (simp [errW_none, errW_some] <;> rfl) | (simp [*, errW_none, errW_some] <;> rfl), by repeat (first | (with_reducible first | exact HI0.out | apply IsS49.alloc | apply IsS49.drewN | apply IsS49.drew | apply IsS49.set_1 | apply IsS49.set_2) | exact HI0.out), by repeat (first | (with_reducible first | exact HB.out | apply below_alloc | apply pw_below_drewN | apply below_drew1 | refine below_set ?_ (IsS49.ge HI0.out)) | exact HB.out), by repeat (first | (with_reducible first | exact HK.out | apply KeepBut.set_ | apply keep_drewN | apply keep_drew | apply keep_alloc) | exact HK.out)⟩
    · rw [if_neg c11] at H
      have c11b0 : (t172 == 1) = false := beq_eq_false_iff_ne.mpr c11
      have c11b1 : (t172 != 1) = true := bne_iff_ne.mpr c11
      by_cases c13 : t172 = 2
      · rw [if_pos c13] at H
        have c13b0 : (t172 == 2) = true := beq_iff_eq.mpr c13
        have c13b1 : (t172 != 2) = false := bne_eq_false_iff_eq.mpr c13
        clear c13
        simp only [Option.some.injEq, Prod.mk.injEq] at H
        obtain ⟨rfl, rfl, rfl⟩ := H
        go_enter Try.func66, Try.ntmps66
        go_wp2_with (first | ((with_reducible refine gate_callee (f := 55) rfl ?_); refine goesL_ (some 6) rfl rfl Try.func55 (by kernel_rfl) rfl #[.pointer (some ⟨g, 0, none⟩), .int .i64 12] rfl (by (try simp only [List.map_toArray, List.map_cons, List.map_nil]); first | done | rfl | (simp only [List.length_drop, List.length_take]; rfl)) ?_; (with_reducible refine (spec_l1Cur_pick.calls g s0_0 s0_1 s0_2 12 t172 t173 t174 w0 _ ?side1 ?side2 A3.out).mono ?_); (case side1 => repeat (first | (with_reducible first | exact HI0.out | apply IsS49.alloc | apply IsS49.drewN | apply IsS49.drew | apply IsS49.set_1 | apply IsS49.set_2) | exact HI0.out)); (case side2 => repeat (first | (with_reducible first | exact HB.out | apply below_alloc | apply pw_below_drewN | apply below_drew1 | refine below_set ?_ (IsS49.ge HI0.out)) | exact HB.out)); rintro e w14 ⟨rfl, hi, hb, hk⟩; refine ⟨_, rfl, ?_⟩; have n0_ := Aside0.mk (KeepBut.trans (by repeat (first | (with_reducible first | exact HK.out | apply KeepBut.set_ | apply keep_drewN | apply keep_drew | apply keep_alloc) | exact HK.out)) hk (.inl rfl)); have n1_ := Aside0.mk (hb); have n2_ := Aside0.mk (hi); clear HK; clear HB; clear HI0; have HK := n0_; have HB := n1_; have HI0 := n2_; clear n0_ n1_ n2_; (try clear hb); (try clear hb2); (try clear hk); (try clear hi)))
        go_ret
        exact ⟨by first | rfl | (simp [errW_none, errW_some] <;> rfl) | (simp [*, errW_none, errW_some] <;> rfl), by repeat (first | (with_reducible first | exact HI0.out | apply IsS49.alloc | apply IsS49.drewN | apply IsS49.drew | apply IsS49.set_1 | apply IsS49.set_2) | exact HI0.out), by repeat (first | (with_reducible first | exact HB.out | apply below_alloc | apply pw_below_drewN | apply below_drew1 | refine below_set ?_ (IsS49.ge HI0.out)) | exact HB.out), by repeat (first | (with_reducible first | exact HK.out | apply KeepBut.set_ | apply keep_drewN | apply keep_drew | apply keep_alloc) | exact HK.out)⟩
      · rw [if_neg c13] at H
        have c13b0 : (t172 == 2) = false := beq_eq_false_iff_ne.mpr c13
        have c13b1 : (t172 != 2) = true := bne_iff_ne.mpr c13
        by_cases c15 : a1 < 2
        · rw [if_pos c15] at H
          have c15b0 : decide (a1 < 2) = true := decide_eq_true c15
          clear c15
          simp only [Option.some.injEq, Prod.mk.injEq] at H
          obtain ⟨rfl, rfl, rfl⟩ := H
          go_enter Try.func66, Try.ntmps66
          go_wp2_with (first | ((with_reducible refine gate_callee (f := 55) rfl ?_); refine goesL_ (some 6) rfl rfl Try.func55 (by kernel_rfl) rfl #[.pointer (some ⟨g, 0, none⟩), .int .i64 12] rfl (by (try simp only [List.map_toArray, List.map_cons, List.map_nil]); first | done | rfl | (simp only [List.length_drop, List.length_take]; rfl)) ?_; (with_reducible refine (spec_l1Cur_pick.calls g s0_0 s0_1 s0_2 12 t172 t173 t174 w0 _ ?side1 ?side2 A3.out).mono ?_); (case side1 => repeat (first | (with_reducible first | exact HI0.out | apply IsS49.alloc | apply IsS49.drewN | apply IsS49.drew | apply IsS49.set_1 | apply IsS49.set_2) | exact HI0.out)); (case side2 => repeat (first | (with_reducible first | exact HB.out | apply below_alloc | apply pw_below_drewN | apply below_drew1 | refine below_set ?_ (IsS49.ge HI0.out)) | exact HB.out)); rintro e w16 ⟨rfl, hi, hb, hk⟩; refine ⟨_, rfl, ?_⟩; have n0_ := Aside0.mk (KeepBut.trans (by repeat (first | (with_reducible first | exact HK.out | apply KeepBut.set_ | apply keep_drewN | apply keep_drew | apply keep_alloc) | exact HK.out)) hk (.inl rfl)); have n1_ := Aside0.mk (hb); have n2_ := Aside0.mk (hi); clear HK; clear HB; clear HI0; have HK := n0_; have HB := n1_; have HI0 := n2_; clear n0_ n1_ n2_; (try clear hb); (try clear hb2); (try clear hk); (try clear hi)))
          go_ret
          exact ⟨by first | rfl | (simp [errW_none, errW_some] <;> rfl) | (simp [*, errW_none, errW_some] <;> rfl), by repeat (first | (with_reducible first | exact HI0.out | apply IsS49.alloc | apply IsS49.drewN | apply IsS49.drew | apply IsS49.set_1 | apply IsS49.set_2) | exact HI0.out), by repeat (first | (with_reducible first | exact HB.out | apply below_alloc | apply pw_below_drewN | apply below_drew1 | refine below_set ?_ (IsS49.ge HI0.out)) | exact HB.out), by repeat (first | (with_reducible first | exact HK.out | apply KeepBut.set_ | apply keep_drewN | apply keep_drew | apply keep_alloc) | exact HK.out)⟩
        · rw [if_neg c15] at H
          have c15b0 : decide (a1 < 2) = false := decide_eq_false c15
          clear c15
          replace H := Option.bind_eq_some_iff.mp H
          obtain ⟨⟨t181, t182, t183⟩, A170, H⟩ := H
          replace H : ((spec_l1Cur_pick.f s0_0 t182 t183 60000).bind fun bt184 => (if a1 = 0 then (none) else (some (Int.tmod (wrap64 ((wrap64 (t181 * 60000)) + bt184.1)) a1, bt184.2.1, bt184.2.2)))) = some (r1, r2, r3) := H
          have A17 := Aside0.mk A170
          clear A170
          replace H := Option.bind_eq_some_iff.mp H
          obtain ⟨⟨t184, t185, t186⟩, A180, H⟩ := H
          replace H : (if a1 = 0 then (none) else (some (Int.tmod (wrap64 ((wrap64 (t181 * 60000)) + t184)) a1, t185, t186))) = some (r1, r2, r3) := H
          have A18 := Aside0.mk A180
          clear A180
          by_cases c19 : a1 = 0
          · rw [if_pos c19] at H
            exact absurd H (by simp)
          · rw [if_neg c19] at H
            have c19b0 : (a1 == 0) = false := beq_eq_false_iff_ne.mpr c19
            have c19b1 : (a1 != 0) = true := bne_iff_ne.mpr c19
            simp only [Option.some.injEq, Prod.mk.injEq] at H
            obtain ⟨rfl, rfl, rfl⟩ := H
            go_enter Try.func66, Try.ntmps66
            go_wp2_with (first | ((with_reducible refine gate_callee (f := 55) rfl ?_); refine goesL_ (some 6) rfl rfl Try.func55 (by kernel_rfl) rfl #[.pointer (some ⟨g, 0, none⟩), .int .i64 12] rfl (by (try simp only [List.map_toArray, List.map_cons, List.map_nil]); first | done | rfl | (simp only [List.length_drop, List.length_take]; rfl)) ?_; (with_reducible refine (spec_l1Cur_pick.calls g s0_0 s0_1 s0_2 12 t172 t173 t174 w0 _ ?side1 ?side2 A3.out).mono ?_); (case side1 => repeat (first | (with_reducible first | exact HI0.out | apply IsS49.alloc | apply IsS49.drewN | apply IsS49.drew | apply IsS49.set_1 | apply IsS49.set_2) | exact HI0.out)); (case side2 => repeat (first | (with_reducible first | exact HB.out | apply below_alloc | apply pw_below_drewN | apply below_drew1 | refine below_set ?_ (IsS49.ge HI0.out)) | exact HB.out)); rintro e w20 ⟨rfl, hi, hb, hk⟩; refine ⟨_, rfl, ?_⟩; have n0_ := Aside0.mk (KeepBut.trans (by repeat (first | (with_reducible first | exact HK.out | apply KeepBut.set_ | apply keep_drewN | apply keep_drew | apply keep_alloc) | exact HK.out)) hk (.inl rfl)); have n1_ := Aside0.mk (hb); have n2_ := Aside0.mk (hi); clear HK; clear HB; clear HI0; have HK := n0_; have HB := n1_; have HI0 := n2_; clear n0_ n1_ n2_; (try clear hb); (try clear hb2); (try clear hk); (try clear hi)) | ((with_reducible refine gate_callee (f := 55) rfl ?_); refine goesL_ (some 24) rfl rfl Try.func55 (by kernel_rfl) rfl #[.pointer (some ⟨g, 0, none⟩), .int .i64 60000] rfl (by (try simp only [List.map_toArray, List.map_cons, List.map_nil]); first | done | rfl | (simp only [List.length_drop, List.length_take]; rfl)) ?_; (with_reducible refine (spec_l1Cur_pick.calls g s0_0 t173 t174 60000 t181 t182 t183 w0 _ ?side1 ?side2 A17.out).mono ?_); (case side1 => repeat (first | (with_reducible first | exact HI0.out | apply IsS49.alloc | apply IsS49.drewN | apply IsS49.drew | apply IsS49.set_1 | apply IsS49.set_2) | exact HI0.out)); (case side2 => repeat (first | (with_reducible first | exact HB.out | apply below_alloc | apply pw_below_drewN | apply below_drew1 | refine below_set ?_ (IsS49.ge HI0.out)) | exact HB.out)); rintro e w21 ⟨rfl, hi, hb, hk⟩; refine ⟨_, rfl, ?_⟩; have n0_ := Aside0.mk (KeepBut.trans (by repeat (first | (with_reducible first | exact HK.out | apply KeepBut.set_ | apply keep_drewN | apply keep_drew | apply keep_alloc) | exact HK.out)) hk (.inl rfl)); have n1_ := Aside0.mk (hb); have n2_ := Aside0.mk (hi); clear HK; clear HB; clear HI0; have HK := n0_; have HB := n1_; have HI0 := n2_; clear n0_ n1_ n2_; (try clear hb); (try clear hb2); (try clear hk); (try clear hi)) | ((with_reducible refine gate_callee (f := 55) rfl ?_); refine goesL_ (some 27) rfl rfl Try.func55 (by kernel_rfl) rfl #[.pointer (some ⟨g, 0, none⟩), .int .i64 60000] rfl (by (try simp only [List.map_toArray, List.map_cons, List.map_nil]); first | done | rfl | (simp only [List.length_drop, List.length_take]; rfl)) ?_; (with_reducible refine (spec_l1Cur_pick.calls g s0_0 t182 t183 60000 t184 t185 t186 w0 _ ?side1 ?side2 A18.out).mono ?_); (case side1 => repeat (first | (with_reducible first | exact HI0.out | apply IsS49.alloc | apply IsS49.drewN | apply IsS49.drew | apply IsS49.set_1 | apply IsS49.set_2) | exact HI0.out)); (case side2 => repeat (first | (with_reducible first | exact HB.out | apply below_alloc | apply pw_below_drewN | apply below_drew1 | refine below_set ?_ (IsS49.ge HI0.out)) | exact HB.out)); rintro e w22 ⟨rfl, hi, hb, hk⟩; refine ⟨_, rfl, ?_⟩; have n0_ := Aside0.mk (KeepBut.trans (by repeat (first | (with_reducible first | exact HK.out | apply KeepBut.set_ | apply keep_drewN | apply keep_drew | apply keep_alloc) | exact HK.out)) hk (.inl rfl)); have n1_ := Aside0.mk (hb); have n2_ := Aside0.mk (hi); clear HK; clear HB; clear HI0; have HK := n0_; have HB := n1_; have HI0 := n2_; clear n0_ n1_ n2_; (try clear hb); (try clear hb2); (try clear hk); (try clear hi)))
            go_ret
            exact ⟨by first | rfl | (simp [errW_none, errW_some] <;> rfl) | (simp [*, errW_none, errW_some] <;> rfl), by repeat (first | (with_reducible first | exact HI0.out | apply IsS49.alloc | apply IsS49.drewN | apply IsS49.drew | apply IsS49.set_1 | apply IsS49.set_2) | exact HI0.out), by repeat (first | (with_reducible first | exact HB.out | apply below_alloc | apply pw_below_drewN | apply below_drew1 | refine below_set ?_ (IsS49.ge HI0.out)) | exact HB.out), by repeat (first | (with_reducible first | exact HK.out | apply KeepBut.set_ | apply keep_drewN | apply keep_drew | apply keep_alloc) | exact HK.out)⟩

/-! ### spec_l1Most: function 67 -/
def spec_l1Most.f (a0 : Int) (a1 : Int) : Option (Int) := if a0 > a1 then (some a0) else (some a1)
set_option maxHeartbeats 8000000 in
set_option maxRecDepth 100000 in
theorem spec_l1Most.calls (a0 : Int) (a1 : Int) (r : Int) (w : World) (h : spec_l1Most.f a0 a1 = some r) :
    Calls Try.prog 67 #[.int .i64 a0, .int .i64 a1] w fun e w' => e = .returned (.int .i64 r) ∧ Drawn0 w w' := by
  have H : (if a0 > a1 then (some a0) else (some a1)) = some r := h
  clear h
  by_cases c3 : a0 > a1
  · rw [if_pos c3] at H
    have c3b0 : decide (a1 < a0) = true := decide_eq_true c3
    clear c3
    obtain rfl := Option.some.inj H
    go_enter Try.func67, Try.ntmps67
    go_wp2
    go_ret
    exact ⟨by first | rfl | (simp; done) | (simp [*]; done), by repeat (first | exact Drawn0.refl _ | apply Drawn0.step)⟩
  · rw [if_neg c3] at H
    have c3b0 : decide (a1 < a0) = false := decide_eq_false c3
    clear c3
    obtain rfl := Option.some.inj H
    go_enter Try.func67, Try.ntmps67
    go_wp2
    go_ret
    exact ⟨by first | rfl | (simp; done) | (simp [*]; done), by repeat (first | exact Drawn0.refl _ | apply Drawn0.step)⟩

/-! ### spec_DrawPermutationAt: function 44 -/
def spec_DrawPermutationAt.f (k : Nat) (l0 : List Int) : Option (Int × Int) := (spec_l1Cur_items.f l0 0 0).bind fun bt188 => ((spec_l1Least.f bt188.1 12).bind fun t191 => ((spec_l1Most.f 0 t191).bind fun t192 => ((spec_raFactorial.f k t192).bind fun t193 => ((spec_l1Cur_rank.f l0 bt188.2.1 bt188.2.2 t193).bind fun bt194 => (some (bt188.1, bt194.1))))))
theorem spec_DrawPermutationAt.mono : ∀ a0 k, LeO (spec_DrawPermutationAt.f k a0) (spec_DrawPermutationAt.f (k + 1) a0) := by
  intro a0 k
  unfold spec_DrawPermutationAt.f
  repeat' first
      | (with_reducible exact spec_raFactorial.mono _ _)
      | (with_reducible exact LeO.refl _)
      | (with_reducible exact LeO.none _)
      | (with_reducible refine LeO.ite ?_ ?_)
      | (with_reducible refine LeO.bind ?_ (fun _ => ?_))
      | exact spec_raFactorial.mono _ _
      | exact LeO.none _
      | refine LeO.ite ?_ ?_
      | refine LeO.bind ?_ (fun _ => ?_)
set_option maxHeartbeats 8000000 in
set_option maxRecDepth 100000 in
theorem spec_DrawPermutationAt.calls (k : Nat) (A0 : Option Addr) (c0 : Nat) (l0 : List Int) (r1 : Int) (r2 : Int) (w : World) (hr0 : Kd.C (Kd.int .u8) w A0 l0.length l0) (hc0 : l0.length ≤ c0) (h : spec_DrawPermutationAt.f k l0 = some (r1, r2)) :
    Calls Try.prog 44 #[.slice A0 l0.length c0] w fun e w' => e = .returned (.tuple #[.int .i64 r1, .int .i64 r2]) ∧ Below w.heap.size w w' := by
  have hu49 := Try.underlying49
  have HR0 := Aside0.mk hr0
  have HC0 := Aside0.mk hc0
  clear hr0 hc0
  have HB := Aside0.mk (Below.refl w.heap.size w)
  have H : ((spec_l1Cur_items.f l0 0 0).bind fun bt188 => ((spec_l1Least.f bt188.1 12).bind fun t191 => ((spec_l1Most.f 0 t191).bind fun t192 => ((spec_raFactorial.f k t192).bind fun t193 => ((spec_l1Cur_rank.f l0 bt188.2.1 bt188.2.2 t193).bind fun bt194 => (some (bt188.1, bt194.1))))))) = some (r1, r2) := h
  clear h
  replace H := Option.bind_eq_some_iff.mp H
  obtain ⟨⟨t188, t189, t190⟩, A20, H⟩ := H
  replace H : ((spec_l1Least.f t188 12).bind fun t191 => ((spec_l1Most.f 0 t191).bind fun t192 => ((spec_raFactorial.f k t192).bind fun t193 => ((spec_l1Cur_rank.f l0 t189 t190 t193).bind fun bt194 => (some (t188, bt194.1)))))) = some (r1, r2) := H
  have A2 := Aside0.mk A20
  clear A20
  replace H := Option.bind_eq_some_iff.mp H
  obtain ⟨t191, A30, H⟩ := H
  replace H : ((spec_l1Most.f 0 t191).bind fun t192 => ((spec_raFactorial.f k t192).bind fun t193 => ((spec_l1Cur_rank.f l0 t189 t190 t193).bind fun bt194 => (some (t188, bt194.1))))) = some (r1, r2) := H
  have A3 := Aside0.mk A30
  clear A30
  replace H := Option.bind_eq_some_iff.mp H
  obtain ⟨t192, A40, H⟩ := H
  replace H : ((spec_raFactorial.f k t192).bind fun t193 => ((spec_l1Cur_rank.f l0 t189 t190 t193).bind fun bt194 => (some (t188, bt194.1)))) = some (r1, r2) := H
  have A4 := Aside0.mk A40
  clear A40
  replace H := Option.bind_eq_some_iff.mp H
  obtain ⟨t193, A50, H⟩ := H
  replace H : ((spec_l1Cur_rank.f l0 t189 t190 t193).bind fun bt194 => (some (t188, bt194.1))) = some (r1, r2) := H
  have A5 := Aside0.mk A50
  clear A50
  replace H := Option.bind_eq_some_iff.mp H
  obtain ⟨⟨t194, t195, t196⟩, A60, H⟩ := H
  replace H : (some (t188, t194)) = some (r1, r2) := H
  have A6 := Aside0.mk A60
  clear A60
  simp only [Option.some.injEq, Prod.mk.injEq] at H
  obtain ⟨rfl, rfl⟩ := H
  go_enter Try.func44, Try.ntmps44
  go_wp2_with (first | ((with_reducible refine gate_dst (N := 8) rfl ?_); refine box_event ?hg (N := 8) ?hd (cs := #[.slice A0 l0.length c0, .int .i64 0, .int .u64 0]) (t := 49) ?hr ?_; (case hd => rfl); (case hg => rfl); (case hr => first | (go_simp; done) | (go_simp; rfl)); intro gb187 hg w7 hbox hb; have n0_ := Aside0.mk (below_step (by repeat (first | (with_reducible first | exact HB.out | apply below_alloc | apply pw_below_drewN | apply below_drew1) | exact HB.out)) hb); have n1_ := Aside0.mk ((show IsS49 w w7 gb187 l0 0 0 from ⟨_, _, hbox, (by rw [hg]; exact (below_size (by repeat (first | (with_reducible first | exact HB.out | apply below_alloc | apply pw_below_drewN | apply below_drew1) | exact HB.out))) : w.heap.size ≤ gb187), HR0.out⟩)); clear HB; have HB := n0_; have HI187 := n1_; clear n0_ n1_; clear hb hbox hg) | ((with_reducible refine gate_callee (f := 28) rfl ?_); refine goesL_ (some 10) rfl rfl Try.func28 (by kernel_rfl) rfl #[.pointer (some ⟨gb187, 0, none⟩)] rfl (by (try simp only [List.map_toArray, List.map_cons, List.map_nil]); first | done | rfl | (simp only [List.length_drop, List.length_take]; rfl)) ?_; (with_reducible refine (spec_l1Cur_items.calls gb187 l0 0 0 t188 t189 t190 w _ ?side1 ?side2 A2.out).mono ?_); (case side1 => repeat (first | (with_reducible first | exact HI187.out | apply IsS49.alloc | apply IsS49.drewN | apply IsS49.drew | apply IsS49.set_1 | apply IsS49.set_2) | exact HI187.out)); (case side2 => repeat (first | (with_reducible first | exact HB.out | apply below_alloc | apply pw_below_drewN | apply below_drew1 | refine below_set ?_ (IsS49.ge HI187.out)) | exact HB.out)); rintro e w8 ⟨rfl, hi, hb, hk⟩; refine ⟨_, rfl, ?_⟩; have n0_ := Aside0.mk (hb); have n1_ := Aside0.mk (hi); clear HB; clear HI187; have HB := n0_; have HI187 := n1_; clear n0_ n1_; (try clear hb); (try clear hb2); (try clear hk); (try clear hi)) | ((with_reducible refine gate_callee (f := 54) rfl ?_); refine goesL_ (some 14) rfl rfl Try.func54 (by kernel_rfl) rfl #[.int .i64 t188, .int .i64 12] rfl (by (try simp only [List.map_toArray, List.map_cons, List.map_nil]); first | done | rfl | (simp only [List.length_drop, List.length_take]; rfl)) ?_; (with_reducible refine (spec_l1Least.calls t188 12 t191 _ A3.out).mono ?_); rintro e w' ⟨rfl, ⟨nd, rfl⟩⟩; refine ⟨_, rfl, ?_⟩) | ((with_reducible refine gate_callee (f := 67) rfl ?_); refine goesL_ (some 15) rfl rfl Try.func67 (by kernel_rfl) rfl #[.int .i64 0, .int .i64 t191] rfl (by (try simp only [List.map_toArray, List.map_cons, List.map_nil]); first | done | rfl | (simp only [List.length_drop, List.length_take]; rfl)) ?_; (with_reducible refine (spec_l1Most.calls 0 t191 t192 _ A4.out).mono ?_); rintro e w' ⟨rfl, ⟨nd, rfl⟩⟩; refine ⟨_, rfl, ?_⟩) | ((with_reducible refine gate_callee (f := 48) rfl ?_); refine goesL_ (some 16) rfl rfl Try.func48 (by kernel_rfl) rfl #[.int .i64 t192] rfl (by (try simp only [List.map_toArray, List.map_cons, List.map_nil]); first | done | rfl | (simp only [List.length_drop, List.length_take]; rfl)) ?_; (with_reducible refine (spec_raFactorial.calls k t192 t193 _ A5.out).mono ?_); rintro e w' ⟨rfl, ⟨nd, rfl⟩⟩; refine ⟨_, rfl, ?_⟩) | ((with_reducible refine gate_callee (f := 66) rfl ?_); refine goesL_ (some 17) rfl rfl Try.func66 (by kernel_rfl) rfl #[.pointer (some ⟨gb187, 0, none⟩), .int .i64 t193] rfl (by (try simp only [List.map_toArray, List.map_cons, List.map_nil]); first | done | rfl | (simp only [List.length_drop, List.length_take]; rfl)) ?_; (with_reducible refine (spec_l1Cur_rank.calls gb187 l0 t189 t190 t193 t194 t195 t196 w _ ?side1 ?side2 A6.out).mono ?_); (case side1 => repeat (first | (with_reducible first | exact HI187.out | apply IsS49.alloc | apply IsS49.drewN | apply IsS49.drew | apply IsS49.set_1 | apply IsS49.set_2) | exact HI187.out)); (case side2 => repeat (first | (with_reducible first | exact HB.out | apply below_alloc | apply pw_below_drewN | apply below_drew1 | refine below_set ?_ (IsS49.ge HI187.out)) | exact HB.out)); rintro e w9 ⟨rfl, hi, hb, hk⟩; refine ⟨_, rfl, ?_⟩; have n0_ := Aside0.mk (hb); have n1_ := Aside0.mk (hi); clear HB; clear HI187; have HB := n0_; have HI187 := n1_; clear n0_ n1_; (try clear hb); (try clear hb2); (try clear hk); (try clear hi)))
  go_ret2
  exact ⟨by first | rfl | (simp [errW_none, errW_some] <;> rfl) | (simp [*, errW_none, errW_some] <;> rfl), by repeat (first | (with_reducible first | exact HB.out | apply below_alloc | apply pw_below_drewN | apply below_drew1 | refine below_set ?_ (IsS49.ge HI187.out)) | exact HB.out)⟩

/-! ### spec_DrawTrotterAt: function 19 -/
def spec_DrawTrotterAt.f (k : Nat) (l0 : List Int) : Option (Int × Int) := (spec_DrawPermutationAt.f k l0).bind fun bt197 => (some (bt197.1, bt197.2))
theorem spec_DrawTrotterAt.mono : ∀ a0 k, LeO (spec_DrawTrotterAt.f k a0) (spec_DrawTrotterAt.f (k + 1) a0) := by
  intro a0 k
  unfold spec_DrawTrotterAt.f
  repeat' first
      | (with_reducible exact spec_DrawPermutationAt.mono _ _)
      | (with_reducible exact LeO.refl _)
      | (with_reducible exact LeO.none _)
      | (with_reducible refine LeO.ite ?_ ?_)
      | (with_reducible refine LeO.bind ?_ (fun _ => ?_))
      | exact spec_DrawPermutationAt.mono _ _
      | exact LeO.none _
      | refine LeO.ite ?_ ?_
      | refine LeO.bind ?_ (fun _ => ?_)
set_option maxHeartbeats 8000000 in
set_option maxRecDepth 100000 in
theorem spec_DrawTrotterAt.calls (k : Nat) (A0 : Option Addr) (c0 : Nat) (l0 : List Int) (r1 : Int) (r2 : Int) (w : World) (hr0 : Kd.C (Kd.int .u8) w A0 l0.length l0) (hc0 : l0.length ≤ c0) (h : spec_DrawTrotterAt.f k l0 = some (r1, r2)) :
    Calls Try.prog 19 #[.slice A0 l0.length c0] w fun e w' => e = .returned (.tuple #[.int .i64 r1, .int .i64 r2]) ∧ Below w.heap.size w w' := by
  have HR0 := Aside0.mk hr0
  have HC0 := Aside0.mk hc0
  clear hr0 hc0
  have HB := Aside0.mk (Below.refl w.heap.size w)
  have H : ((spec_DrawPermutationAt.f k l0).bind fun bt197 => (some (bt197.1, bt197.2))) = some (r1, r2) := h
  clear h
  replace H := Option.bind_eq_some_iff.mp H
  obtain ⟨⟨t197, t198⟩, A20, H⟩ := H
  replace H : (some (t197, t198)) = some (r1, r2) := H
  have A2 := Aside0.mk A20
  clear A20
  simp only [Option.some.injEq, Prod.mk.injEq] at H
  obtain ⟨rfl, rfl⟩ := H
  go_enter Try.func19, Try.ntmps19
  go_wp2_with (first | ((with_reducible refine gate_callee (f := 44) rfl ?_); refine goesL_ (some 5) rfl rfl Try.func44 (by kernel_rfl) rfl #[.slice A0 l0.length c0] rfl (by (try simp only [List.map_toArray, List.map_cons, List.map_nil]); first | done | rfl | (simp only [List.length_drop, List.length_take]; rfl)) ?_; (with_reducible refine (spec_DrawPermutationAt.calls k _ _ l0 t197 t198 _ ?side1 ?side2 A2.out).mono ?_); (case side1 => repeat (first | exact HR0.out | (with_reducible refine Kd.C_alloc ?_ _) | (with_reducible refine Kd.C_drewN ?_ _) | (with_reducible refine Kd.C_drew ?_))); (case side2 => exact HC0.out); rintro e w3 ⟨rfl, hb⟩; refine ⟨_, rfl, ?_⟩; have n0_ := Aside0.mk (below_step (by repeat (first | (with_reducible first | exact HB.out | apply below_alloc | apply pw_below_drewN | apply below_drew1) | exact HB.out)) hb); clear HB; have HB := n0_; clear n0_; (try clear hb); (try clear hb2); (try clear hk); (try clear hi)))
  go_ret2
  exact ⟨by first | rfl | (simp [errW_none, errW_some] <;> rfl) | (simp [*, errW_none, errW_some] <;> rfl), by repeat (first | (with_reducible first | exact HB.out | apply below_alloc | apply pw_below_drewN | apply below_drew1) | exact HB.out)⟩

/-! ### impl_factorial: function 45 -/
def impl_factorial.l0 : Nat → Int → Int → Int → Option (Int)
  | 0, _, _, _ => none
  | k + 1, x0, x3, x4 => if x4 ≤ x0 then (impl_factorial.l0 k x0 (wrap64 (x3 * x4)) (wrap64 (x4 + 1))) else (some x3)
def impl_factorial.f (k : Nat) (a0 : Int) : Option (Int) := impl_factorial.l0 k a0 1 2
theorem impl_factorial.mono_l : ∀ k, (∀ y0 y1 y2, LeO (impl_factorial.l0 k y0 y1 y2) (impl_factorial.l0 (k + 1) y0 y1 y2))
  | 0 => fun _ _ _ r h => by simp [impl_factorial.l0] at h
  | k + 1 => by
    have ih0 := impl_factorial.mono_l k
    · intro y0 y1 y2
      unfold impl_factorial.l0
      repeat' first
      | (with_reducible exact ih0 _ _ _)
      | (with_reducible exact LeO.refl _)
      | (with_reducible exact LeO.none _)
      | (with_reducible refine LeO.ite ?_ ?_)
      | (with_reducible refine LeO.bind ?_ (fun _ => ?_))
      | exact ih0 _ _ _
      | exact LeO.none _
      | refine LeO.ite ?_ ?_
      | refine LeO.bind ?_ (fun _ => ?_)
theorem impl_factorial.mono : ∀ a0 k, LeO (impl_factorial.f k a0) (impl_factorial.f (k + 1) a0) := by
  intro a0 k
  have ih0 := impl_factorial.mono_l k
  unfold impl_factorial.f
  repeat' first
      | (with_reducible exact ih0 _ _ _)
      | (with_reducible exact LeO.refl _)
      | (with_reducible exact LeO.none _)
      | (with_reducible refine LeO.ite ?_ ?_)
      | (with_reducible refine LeO.bind ?_ (fun _ => ?_))
      | exact ih0 _ _ _
      | exact LeO.none _
      | refine LeO.ite ?_ ?_
      | refine LeO.bind ?_ (fun _ => ?_)
set_option maxHeartbeats 8000000 in
set_option maxRecDepth 100000 in
theorem impl_factorial.calls (k : Nat) (a0 : Int) (r : Int) (w : World) (h : impl_factorial.f k a0 = some r) :
    Calls Try.prog 45 #[.int .i64 a0] w fun e w' => e = .returned (.int .i64 r) ∧ Drawn0 w w' := by
  have H : (impl_factorial.l0 k a0 1 2) = some r := h
  clear h
  have H' := Aside0.mk H
  clear H
  go_enter Try.func45, Try.ntmps45
  go_wp2
  go_loopg [3, 4] k (fun kq v3 v4 w' => ∃ (x3_1 : Int) (x4_1 : Int), v3 = .int .i64 x3_1 ∧ v4 = .int .i64 x4_1 ∧ Aside0 (impl_factorial.l0 kq a0 x3_1 x4_1 = some r) ∧ Aside0 (kq ≤ k) ∧ Drawn0 w w')
  case atStart => exact ⟨(1), (2), (by first | rfl | (simp; done) | (simp [*]; done)), (by first | rfl | (simp; done) | (simp [*]; done)), H', ⟨Nat.le_refl _⟩, by repeat (first | exact Drawn0.refl _ | apply Drawn0.step)⟩
  case round =>
    clear H'
    obtain ⟨x3_1, x4_1, rfl, rfl, HA, HK1, ⟨m1, rfl⟩⟩ := hrel
    cases gk with
    | zero => exact absurd HA.out (by simp [impl_factorial.l0])
    | succ k1 =>
      have H := HA.out
      clear HA
      simp only [impl_factorial.l0] at H
      by_cases c2 : x4_1 ≤ a0
      · rw [if_pos c2] at H
        have c2b0 : decide (x4_1 ≤ a0) = true := decide_eq_true c2
        clear c2
        have H' := Aside0.mk H
        clear H
        go_wp2
        go_roundg k1
        case measure => have := HK1.out; omega
        case rel => exact ⟨(wrap64 (x3_1 * x4_1)), (wrap64 (x4_1 + 1)), (by first | rfl | (simp; done) | (simp [*]; done)), (by first | rfl | (simp; done) | (simp [*]; done)), H', ⟨by have := HK1.out; omega⟩, by repeat (first | exact Drawn0.refl _ | apply Drawn0.step)⟩
      · rw [if_neg c2] at H
        have c2b0 : decide (x4_1 ≤ a0) = false := decide_eq_false c2
        clear c2
        obtain rfl := Option.some.inj H
        go_wp2
        go_ret
        exact ⟨by first | rfl | (simp; done) | (simp [*]; done), by repeat (first | exact Drawn0.refl _ | apply Drawn0.step)⟩

-- NOT PRINTED: function 78 (slices_overlaps_int)

-- NOT PRINTED: function 83 (slices_rotateLeft_int)

-- NOT PRINTED: function 79 (slices_rotateRight_int)

/-! ### slices_Insert_int_int: function 68 -/
/-- slices.Insert at whole numbers, one value, into a row of the call's own. -/
def slices_Insert_int_int.f (l : List Int) (i x : Int) : Option (List Int) := if 0 ≤ i then (if i ≤ (l.length : Int) then (if l.length < 4398046511104 then some (l.insertIdx i.toNat x) else none) else none) else none
open Go.Shelf in
shelf_lay Lays2.n21 Nm2 21 at Try as Try.laysIns
theorem slices_Insert_int_int.own_of {w : World} {base g e n cap : Nat} {f : Nat → Value} {xs : List Value} (h : w.rowIs g e cap f) (hb : base ≤ g) (hn : n ≤ cap) (hm : cap ≤ maxLen) (hx : xs.length = n)
    (hf : ∀ j, j < n → xs[j]? = some (f j)) : w.ownsRow base e 1 (.slice (some ⟨g, 0, none⟩) n cap) n xs := by
  obtain ⟨c, hc, hs, hi⟩ := h
  refine ⟨by simpa using hx, .inr ⟨g, cap, c, rfl, hb, hc, hn, hm, by simpa using hs, ?_⟩⟩
  apply List.ext_getElem?
  intro j
  rw [List.getElem?_take, Array.getElem?_toList]
  by_cases hj : j < n
  · rw [if_pos (by omega), hi j (by omega), hf j hj]
  · rw [if_neg (by omega), List.getElem?_eq_none (by omega)]
theorem slices_Insert_int_int.of_own {w : World} {base g e n cap : Nat} {xs : List Value} (h : w.ownsRow base e 1 (.slice (some ⟨g, 0, none⟩) n cap) n xs) :
    base ≤ g ∧ g < w.heap.size ∧ n ≤ cap ∧ cap ≤ maxLen ∧ ∃ c : Array Value, w.heap[g]? = some (.cells c e (0, 0)) ∧ c.size = cap ∧ ∀ j, j < n → xs[j]? = c[j]? := by
  rcases h.2 with ⟨e0, _⟩ | ⟨g', cap', cur, e0, hb, hg, hn, hm, hs, ht⟩
  · cases e0
  · injection e0 with e1 _ e3
    injection e1 with e1
    injection e1 with e1
    subst e1; subst e3
    refine ⟨hb, own_lt h g rfl, hn, hm, cur, hg, by simpa using hs, fun j hj => ?_⟩
    rw [← ht, List.getElem?_take, if_pos (by omega), Array.getElem?_toList]
theorem slices_Insert_int_int.row {w : World} {g e : Nat} {c : Array Value} (h : w.heap[g]? = some (.cells c e (0, 0))) : w.rowIs g e c.size (fun j => c[j]?.getD default) :=
  ⟨c, h, rfl, fun i hi => by simp [hi]⟩
theorem slices_Insert_int_int.alloc_row (w : World) (c : Array Value) (cap : Nat) (hs : c.size = cap) : (w.alloc (.cells c 3)).rowIs w.heap.size 3 cap (fun j => c[j]?.getD default) := by
  subst hs
  exact World.rowIs_alloc w c 3 _ (fun i hi => by simp [hi])
theorem slices_Insert_int_int.ins (l : List Int) (i : Nat) (x : Int) (hi : i ≤ l.length) (j : Nat) (hj : j < l.length + 1) :
    (encs (Value.int .i64) (l.insertIdx i x))[j]? = some (if j < i then (Value.int .i64 (l.getD j 0)) else if j = i then (Value.int .i64 x) else (Value.int .i64 (l.getD (j - 1) 0))) := by
  simp only [encs, List.getElem?_map, List.getElem?_insertIdx]
  by_cases h1 : j < i
  · simp only [if_pos h1, List.getD_eq_getElem?_getD, List.getElem?_eq_getElem (show j < l.length by omega), Option.map_some, Option.getD_some]
  · by_cases h2 : j = i
    · simp [h2, hi]
    · simp only [if_neg h1, if_neg h2, List.getD_eq_getElem?_getD, List.getElem?_eq_getElem (show j - 1 < l.length by omega), Option.map_some, Option.getD_some]
set_option maxHeartbeats 8000000 in
set_option maxRecDepth 100000 in
theorem slices_Insert_int_int.calls (l l2 : List Int) (i x : Int) (A : Option Addr) (c vb vc base b2 : Nat) (ok ok2 : Nat → Prop) (w : World) (hR : Kd.R (Kd.int .i64) 3 w base ok (.slice A l.length c) l)
    (hX : Kd.R (Kd.int .i64) 3 w b2 ok2 (.slice (some ⟨vb, 0, none⟩) 1 vc) [x]) (hne : ∀ a, A = some a → vb ≠ a.block) (h : slices_Insert_int_int.f l i x = some l2) (hbase : base ≤ w.heap.size) :
    Calls Try.prog 68 #[.slice A l.length c, .int .i64 i, .slice (some ⟨vb, 0, none⟩) 1 vc] w fun e w' => ∃ v, e = .returned v ∧ Kd.R (Kd.int .i64) 3 w' base (fun _ => True) v l2 ∧ Below base w w' := by
  unfold slices_Insert_int_int.f at h
  by_cases h0 : 0 ≤ i
  · rw [if_pos h0] at h
    by_cases h1 : i ≤ (l.length : Int)
    · rw [if_pos h1] at h
      by_cases h2 : l.length < 4398046511104
      · rw [if_pos h2] at h
        obtain rfl := Option.some.inj h
        clear h
        have ho := Kd.own_of_R hR
        have hox := Kd.own_of_R hX
        obtain ⟨hbx, hltx, hnx, hmx, cx, hhx, hsx, hix⟩ := slices_Insert_int_int.of_own hox
        obtain ⟨k, rfl⟩ : ∃ k : Nat, i = (k : Int) := ⟨i.toNat, by omega⟩
        simp only [Int.toNat_natCast] at *
        have hk : k ≤ l.length := by omega
        have hvs : ∀ (j : Nat) (u : Value), (encs (Value.int .i64) [x])[j]? = some u → w.cell? ⟨vb, 0 + j, none⟩ = some u := by
          intro j u hj
          have hj1 : j < 1 := by
            rcases Nat.lt_or_ge j 1 with h' | h'
            · exact h'
            · rw [List.getElem?_eq_none (by simpa [encs] using h')] at hj; cases hj
          simp only [World.cell?, hhx, Nat.zero_add, Option.isSome_none, Bool.false_eq_true, if_false]
          rw [← hix j hj1, hj]
        have h1v : ∀ v ∈ encs (Value.int .i64) [x], v.oneCell' = true := by
          intro v hv
          simp only [encs, List.map_cons, List.map_nil, List.mem_singleton] at hv
          subst hv; rfl
        have h1c : ∀ v ∈ encs (Value.int .i64) l, v.oneCell' = true := by
          intro v hv
          obtain ⟨z, _, rfl⟩ := List.mem_map.1 hv
          rfl
        have hcl : (encs (Value.int .i64) l).length = l.length := by simp [encs]
        have hvl : (encs (Value.int .i64) [x]).length = 1 := rfl
        have hl2 : (l.insertIdx k x).length = l.length + 1 := List.length_insertIdx_of_le_length hk x
        have hmx2 : maxLen = 9223372036854775807 := rfl
        have hgl : ∀ j, j < l.length → (encs (Value.int .i64) l)[j]? = some (Value.int .i64 (l.getD j 0)) := by
          intro j hj
          simp [encs, List.getElem?_map, List.getElem?_eq_getElem hj, List.getD_eq_getElem?_getD]
        have fin : ∀ (w' : World) (g cap : Nat) (f : Nat → Value), w'.rowIs g 3 cap f → base ≤ g → l.length + 1 ≤ cap → cap ≤ maxLen →
            (∀ j, j < l.length + 1 → f j = if j < k then (Value.int .i64 (l.getD j 0)) else if j = k then (Value.int .i64 x) else (Value.int .i64 (l.getD (j - 1) 0))) →
            Kd.R (Kd.int .i64) 3 w' base (fun _ => True) (.slice (some ⟨g, 0, none⟩) (l.length + 1) cap) (l.insertIdx k x) := by
          intro w' g cap f hr hg hn hm hf
          refine Kd.R_of_own ?_ (fun _ _ => trivial)
          rw [hl2]
          exact slices_Insert_int_int.own_of hr hg hn hm (by simp [encs, hl2]) (fun j hj => by rw [slices_Insert_int_int.ins l k x hk j hj, hf j hj])
        have hzc : ∀ q, (Builtin.zeroCells (Value.int .i64 0).cells q).size = q := by
          intro q
          have h1 : (Value.int .i64 0).cells.size = 1 := rfl
          simp [Builtin.zeroCells, h1]
        have hgrow : ∀ (wv : World) (cap : Nat), l.length + 1 ≤ cap → (wv.alloc (.cells ((encs (Value.int .i64) l ++ encs (Value.int .i64) [x]).toArray ++ Builtin.zeroCells (Value.int .i64 0).cells (cap - (l.length + 1))) 3)).rowIs wv.heap.size 3 cap
            (fun j => ((encs (Value.int .i64) l ++ encs (Value.int .i64) [x]).toArray ++ Builtin.zeroCells (Value.int .i64 0).cells (cap - (l.length + 1)))[j]?.getD default) := by
          intro wv cap hcap
          refine slices_Insert_int_int.alloc_row wv _ cap ?_
          rw [Array.size_append, hzc]; simp [encs]; omega
        have hend : ∀ (cap : Nat) (j : Nat), j < l.length + 1 → (((encs (Value.int .i64) l ++ encs (Value.int .i64) [x]).toArray ++ Builtin.zeroCells (Value.int .i64 0).cells (cap - (l.length + 1)))[j]?.getD default) =
            if j < l.length then (Value.int .i64 (l.getD j 0)) else if j = l.length then (Value.int .i64 x) else (Value.int .i64 (l.getD (j - 1) 0)) := by
          intro cap j hj
          rw [Array.getElem?_append_left (by simp [encs]; omega)]
          simp only [List.getElem?_toArray]
          by_cases h1 : j < l.length
          · rw [List.getElem?_append_left (by omega), hgl j h1, if_pos h1]; rfl
          · have : j = l.length := by omega
            subst this
            rw [List.getElem?_append_right (by omega), hcl, Nat.sub_self, if_neg h1, if_pos rfl]; rfl
        have hnew : ∀ (cap : Nat), l.length + 1 ≤ cap → (w.alloc (.cells (((encs (Value.int .i64) l).take k).toArray ++ Builtin.zeroCells (Value.int .i64 0).cells (l.length + 1 - k) ++ Builtin.zeroCells (Value.int .i64 0).cells (cap - (l.length + 1))) 3)).rowIs w.heap.size 3 cap
            (fun j => (((encs (Value.int .i64) l).take k).toArray ++ Builtin.zeroCells (Value.int .i64 0).cells (l.length + 1 - k) ++ Builtin.zeroCells (Value.int .i64 0).cells (cap - (l.length + 1)))[j]?.getD default) := by
          intro cap hcap
          refine slices_Insert_int_int.alloc_row w _ cap ?_
          rw [Array.size_append, Array.size_append, hzc, hzc]; simp [encs]; omega
        have hmid : ∀ (f0 : Nat → Value), (∀ j, j < k → f0 j = Value.int .i64 (l.getD j 0)) → ∀ j, j < l.length + 1 →
            (if k + 1 ≤ j ∧ j < k + 1 + ((encs (Value.int .i64) l).drop k).length then ((encs (Value.int .i64) l).drop k)[j - (k + 1)]?.getD default else if k ≤ j ∧ j < k + 1 then (encs (Value.int .i64) [x])[j - k]?.getD default else f0 j) =
            if j < k then (Value.int .i64 (l.getD j 0)) else if j = k then (Value.int .i64 x) else (Value.int .i64 (l.getD (j - 1) 0)) := by
          intro f0 hf0 j hj
          have hdl : ((encs (Value.int .i64) l).drop k).length = l.length - k := by rw [List.length_drop, hcl]
          by_cases h1 : j < k
          · rw [if_neg (by omega), if_neg (by omega), if_pos h1, hf0 j h1]
          · by_cases h2 : j = k
            · subst h2
              rw [if_neg (by omega), if_pos (by omega), if_neg h1, if_pos rfl, Nat.sub_self]; rfl
            · rw [if_pos (by omega), if_neg h1, if_neg h2, List.getElem?_drop, show k + (j - (k + 1)) = j - 1 by omega, hgl (j - 1) (by omega)]; rfl
        rcases A with _ | ⟨g, o, sp⟩
        · -- nil
          have hc0 : c = 0 ∧ l.length = 0 := by
            rcases ho.2 with ⟨e0, e1⟩ | ⟨_, _, _, e0, _⟩
            · injection e0 with _ e2 e3; exact ⟨e3, e1⟩
            · injection e0 with e1; cases e1
          obtain ⟨rfl, hl0⟩ := hc0
          have hk0 : k = l.length := by omega
          subst hk0
          refine (Any2.slices_Insert_int_end_grow Try.laysIns none l.length 0 vb 0 1 vc (encs (Value.int .i64) l) (encs (Value.int .i64) [x]) w (by omega) (by omega) (by omega) (by omega) hcl hvl (fun _ => hl0) (fun a ha => by cases ha) hvs h1v).mono ?_
          rintro e w' ⟨rfl, rfl⟩
          exact ⟨_, rfl, fin _ _ _ _ (hgrow _ _ (grownCap_ge _ _ _ _)) hbase (grownCap_ge _ _ _ _) (grownCap_le_maxLen _ _ _ _ (by omega)) (hend _), (below_alloc (below_drew (Below.refl _ _)) _).mono hbase⟩
        · have hA : sp = none ∧ o = 0 := by
            rcases ho.2 with ⟨e0, _⟩ | ⟨_, _, _, e0, _⟩
            · injection e0 with e1; cases e1
            · injection e0 with e1; injection e1 with e1; injection e1 with e1 e2 e3; exact ⟨e3, e2⟩
          obtain ⟨rfl, rfl⟩ := hA
          obtain ⟨hbg, hltg, hn, hm, cg, hhg, hsg, hig⟩ := slices_Insert_int_int.of_own ho
          have hnb : vb ≠ g := hne _ rfl
          have hrow : w.rowIs g 3 c (fun j => cg[j]?.getD default) := by rw [← hsg]; exact slices_Insert_int_int.row hhg
          have hcs : ∀ (j : Nat) (u : Value), (encs (Value.int .i64) l)[j]? = some u → w.cell? ⟨g, 0 + j, none⟩ = some u := by
            intro j u hj
            have hj1 : j < l.length := by
              rcases Nat.lt_or_ge j l.length with h' | h'
              · exact h'
              · rw [List.getElem?_eq_none (by omega)] at hj; cases hj
            simp only [World.cell?, hhg, Nat.zero_add, Option.isSome_none, Bool.false_eq_true, if_false]
            rw [← hig j hj1, hj]
          have hfr : ∀ j, w.frozen? ⟨g, j, none⟩ = false := by
            intro j; simp [World.frozen?, hhg]
          have hsp : ∀ j, j < c → (w.cell? ⟨g, j, none⟩).isSome = true := by
            intro j hj
            simp only [World.cell?, hhg, Option.isSome_none, Bool.false_eq_true, if_false]
            rw [Array.getElem?_eq_getElem (by omega)]; rfl
          have hcg : ∀ j, j < l.length → (cg[j]?.getD default) = Value.int .i64 (l.getD j 0) := by
            intro j hj
            rw [← hig j hj, hgl j hj]; rfl
          by_cases hroom : l.length + 1 ≤ c
          · by_cases hend2 : k = l.length
            · subst hend2
              refine (Any2.slices_Insert_int_end_room Try.laysIns g 0 l.length c vb 0 1 vc (encs (Value.int .i64) [x]) w (by omega) hroom (by omega) hvl (fun j hj => hsp _ (by omega)) (fun j _ => hfr _) hvs h1v).mono ?_
              rintro e w' ⟨rfl, rfl⟩
              refine ⟨_, rfl, fin _ _ _ _ (Go.rowIs_setCells _ _ _ _ hrow) hbg hroom hm ?_, (Go.below_setCells hbg _ _ _ (Below.refl _ _))⟩
              intro j hj
              simp only [Nat.zero_add, hvl]
              by_cases h1 : j < l.length
              · rw [if_neg (by omega), if_pos h1, hcg j h1]
              · have : j = l.length := by omega
                subst this
                rw [if_pos (by omega), if_neg (by omega), if_pos rfl, Nat.sub_self]; rfl
            · refine (Any2.slices_Insert_int_shift Try.laysIns g 0 l.length c k vb 0 1 vc (encs (Value.int .i64) l) (encs (Value.int .i64) [x]) w (by omega) (by omega) hroom (by omega) hnb hcl hvl hcs (fun j hj => hsp _ (by omega)) (fun j _ => hfr _) hvs h1c h1v
                3 3 cx.size cg.size (by simp [World.shape?, hhx]) (by simp [World.shape?, hhg]) (by omega) (by simp [World.frozen?, hhx]) (by simp [World.frozen?, hhx])).mono ?_
              rintro e w' ⟨rfl, rfl⟩
              refine ⟨_, rfl, fin _ _ _ _ (Go.rowIs_setCells _ _ _ _ (Go.rowIs_setCells _ _ _ _ hrow.drew)) hbg hroom hm ?_, (Go.below_setCells hbg _ _ _ (Go.below_setCells hbg _ _ _ (below_drew (Below.refl _ _))))⟩
              intro j hj
              simp only [Nat.zero_add, hvl]
              have hdl : ((encs (Value.int .i64) l).drop k).length = l.length - k := by rw [List.length_drop, hcl]
              have hm2 := hmid (fun j => cg[j]?.getD default) (fun j hj => hcg j (by omega)) j hj
              rw [← hm2]
              by_cases h1 : k ≤ j ∧ j < k + 1
              · rw [if_pos h1, if_neg (by omega), if_pos h1]
              · rw [if_neg h1]
                by_cases h2 : k + 1 ≤ j ∧ j < k + 1 + ((encs (Value.int .i64) l).drop k).length
                · rw [if_pos h2, if_pos h2]
                · rw [if_neg h2, if_neg h2, if_neg h1]
          · by_cases hend2 : k = l.length
            · subst hend2
              refine (Any2.slices_Insert_int_end_grow Try.laysIns (some ⟨g, 0, none⟩) l.length c vb 0 1 vc (encs (Value.int .i64) l) (encs (Value.int .i64) [x]) w (by omega) hn (by omega) (by omega) hcl hvl (fun e => by cases e) (fun a ha j v hv => by cases ha; rw [Addr.add_lit]; exact hcs j v hv) hvs h1v).mono ?_
              rintro e w' ⟨rfl, rfl⟩
              exact ⟨_, rfl, fin _ _ _ _ (hgrow _ _ (grownCap_ge _ _ _ _)) hbase (grownCap_ge _ _ _ _) (grownCap_le_maxLen _ _ _ _ (by omega)) (hend _), (below_alloc (below_drew (Below.refl _ _)) _).mono hbase⟩
            · refine (Any2.slices_Insert_int_grow Try.laysIns g 0 l.length c k vb 0 1 vc (encs (Value.int .i64) l) (encs (Value.int .i64) [x]) w (by omega) (by omega) hn (by omega) (by omega) hcl hvl hcs hvs h1c h1v).mono ?_
              rintro e w' ⟨rfl, rfl⟩
              refine ⟨_, rfl, fin _ _ _ _ (Go.rowIs_setCells _ _ _ _ (Go.rowIs_setCells _ _ _ _ (hnew _ (grownCap_ge _ _ _ _)).drew).drew) hbase (grownCap_ge _ _ _ _) (grownCap_le_maxLen _ _ _ _ (by omega)) ?_,
                (Go.below_setCells hbase _ _ _ (below_drew (Go.below_setCells hbase _ _ _ (below_drew ((below_alloc (Below.refl _ _) _).mono hbase)))))⟩
              intro j hj
              simp only [hvl]
              refine hmid (fun j => (((encs (Value.int .i64) l).take k).toArray ++ Builtin.zeroCells (Value.int .i64 0).cells (l.length + 1 - k) ++ Builtin.zeroCells (Value.int .i64 0).cells (grownCap w (l.length + 1) c (Try.laysIns_ren.t 3) - (l.length + 1)))[j]?.getD default) (fun j hj => ?_) j hj
              show (((encs (Value.int .i64) l).take k).toArray ++ Builtin.zeroCells (Value.int .i64 0).cells (l.length + 1 - k) ++ Builtin.zeroCells (Value.int .i64 0).cells (grownCap w (l.length + 1) c (Try.laysIns_ren.t 3) - (l.length + 1)))[j]?.getD default = _
              rw [Array.getElem?_append_left (by simp [hzc]; omega), Array.getElem?_append_left (by simp; omega)]
              simp only [List.getElem?_toArray]
              rw [List.getElem?_take, if_pos hj, hgl j (by omega)]; rfl
      · rw [if_neg h2] at h; cases h
    · rw [if_neg h1] at h; cases h
  · rw [if_neg h0] at h; cases h

/-! ### impl_trotterAt: function 46 -/
/-- Trotter's permutation of a rank. -/
def impl_trotterAt.f : Nat → Int → Int → Option (List Int)
  | 0, _, _ => none
  | k + 1, a0, a1 => if a0 = 0 then (some ([] : List Int)) else ((impl_trotterAt.f k (wrap64 (a0 - 1)) (wrap64 (Int.tdiv a1 a0))).bind fun l => (if (Int.tmod (wrap64 (Int.tdiv a1 a0)) 2) = 0 then slices_Insert_int_int.f l (wrap64 (wrap64 (a0 - 1) - Int.tmod a1 a0)) (wrap64 (a0 - 1)) else slices_Insert_int_int.f l (Int.tmod a1 a0) (wrap64 (a0 - 1))))
theorem impl_trotterAt.mono_l : ∀ k, (∀ y0 y1, LeO (impl_trotterAt.f k y0 y1) (impl_trotterAt.f (k + 1) y0 y1))
  | 0 => fun _ _ r h => by simp [impl_trotterAt.f] at h
  | k + 1 => by
    have ih0 := impl_trotterAt.mono_l k
    · intro y0 y1
      unfold impl_trotterAt.f
      repeat' first
      | (with_reducible exact ih0 _ _)
      | (with_reducible exact LeO.refl _)
      | (with_reducible exact LeO.none _)
      | (with_reducible refine LeO.ite ?_ ?_)
      | (with_reducible refine LeO.bind ?_ (fun _ => ?_))
theorem impl_trotterAt.mono : ∀ a0 a1 k, LeO (impl_trotterAt.f k a0 a1) (impl_trotterAt.f (k + 1) a0 a1) := by
  intro a0 a1 k
  have ih0 := impl_trotterAt.mono_l k
  exact ih0 a0 a1
set_option maxHeartbeats 8000000 in
set_option maxRecDepth 100000 in
theorem impl_trotterAt.calls (k : Nat) : ∀ (a0 : Int) (a1 : Int) (r : List Int) (w : World) (h : impl_trotterAt.f k a0 a1 = some r),
    Calls Try.prog 46 #[.int .i64 a0, .int .i64 a1] w fun e w' => ∃ v0_ : Value, e = .returned (v0_) ∧ Kd.R (Kd.int .i64) 3 w' w.heap.size (fun _ => True) v0_ r ∧ Below w.heap.size w w' := by
  induction k with
  | zero => intro a0 a1 r w h; exact absurd h (by simp [impl_trotterAt.f])
  | succ k ih =>
    intro a0 a1 r w h
    simp only [impl_trotterAt.f] at h
    by_cases c : a0 = 0
    · rw [if_pos c] at h
      have c3b0 : (a0 == 0) = true := beq_iff_eq.mpr c
      obtain rfl := Option.some.inj h
      clear h c
      go_enter Try.func46, Try.ntmps46
      go_wp2
      go_ret
      exact ⟨_, rfl, Kd.R_of_own (World.ownsRow_made w #[] 0 (Nat.le_refl _) (by decide) rfl) (fun _ _ => trivial), below_alloc (Below.refl _ _) _⟩
    · rw [if_neg c] at h
      have c3b0 : (a0 == 0) = false := beq_eq_false_iff_ne.mpr c
      obtain ⟨l, hl, h⟩ := Option.bind_eq_some_iff.mp h
      have HL := Aside0.mk hl
      clear hl
      by_cases c5 : Int.tmod (wrap64 (Int.tdiv a1 a0)) 2 = 0
      · rw [if_pos c5] at h
        have c5b0 : ((Int.tmod (wrap64 (Int.tdiv a1 a0)) 2) == 0) = true := beq_iff_eq.mpr c5
        have H := Aside0.mk h
        clear h c5
        go_enter Try.func46, Try.ntmps46
        go_wp2_with fail
        go_region
        all_goals
          go_wp2_with fail
          refine (ih _ _ l _ HL.out).mono ?_
          rintro e w1 ⟨v1, rfl, ho1, hb1⟩
          obtain ⟨A1, c1, rfl⟩ := Kd.R_slice ho1
          have HO1 := Aside0.mk (Kd.R_lower ho1 (Nat.le_refl w.heap.size))
          have HB1 := Aside0.mk (show Below w.heap.size w w1 from (below_drew (Below.refl _ _)).trans hb1)
          clear ho1 hb1
          go_wp2_with fail
          refine (slices_Insert_int_int.calls l r (wrap64 (wrap64 (a0 - 1) - Int.tmod a1 a0)) (wrap64 (a0 - 1)) A1 c1 w1.heap.size 1 w.heap.size w.heap.size (fun _ => True) (fun _ => True) _ (Kd.R_alloc HO1.out _) (Kd.R_of_own (World.ownsRow_lit w1 #[.int .i64 (wrap64 (a0 - 1))] 1 HB1.out.size (by decide) rfl) (fun _ _ => trivial)) ?_ H.out (below_alloc HB1.out _).size).mono ?_
          · intro a ha
            subst ha
            have := Kd.R_lt HO1.out a.block rfl
            omega
          · rintro e w2 ⟨v2, rfl, ho2, hb2⟩
            have HO2 := Aside0.mk ho2
            have HB2 := Aside0.mk ((below_alloc HB1.out _).trans hb2)
            clear ho2 hb2
            go_wp2
            go_ret
            exact ⟨_, rfl, HO2.out, HB2.out⟩
      · rw [if_neg c5] at h
        have c5b0 : ((Int.tmod (wrap64 (Int.tdiv a1 a0)) 2) == 0) = false := beq_eq_false_iff_ne.mpr c5
        have H := Aside0.mk h
        clear h c5
        go_enter Try.func46, Try.ntmps46
        go_wp2_with fail
        go_region
        all_goals
          go_wp2_with fail
          refine (ih _ _ l _ HL.out).mono ?_
          rintro e w1 ⟨v1, rfl, ho1, hb1⟩
          obtain ⟨A1, c1, rfl⟩ := Kd.R_slice ho1
          have HO1 := Aside0.mk (Kd.R_lower ho1 (Nat.le_refl w.heap.size))
          have HB1 := Aside0.mk (show Below w.heap.size w w1 from (below_drew (Below.refl _ _)).trans hb1)
          clear ho1 hb1
          go_wp2_with fail
          refine (slices_Insert_int_int.calls l r (Int.tmod a1 a0) (wrap64 (a0 - 1)) A1 c1 w1.heap.size 1 w.heap.size w.heap.size (fun _ => True) (fun _ => True) _ (Kd.R_alloc HO1.out _) (Kd.R_of_own (World.ownsRow_lit w1 #[.int .i64 (wrap64 (a0 - 1))] 1 HB1.out.size (by decide) rfl) (fun _ _ => trivial)) ?_ H.out (below_alloc HB1.out _).size).mono ?_
          · intro a ha
            subst ha
            have := Kd.R_lt HO1.out a.block rfl
            omega
          · rintro e w2 ⟨v2, rfl, ho2, hb2⟩
            have HO2 := Aside0.mk ho2
            have HB2 := Aside0.mk ((below_alloc HB1.out _).trans hb2)
            clear ho2 hb2
            go_wp2
            go_ret
            exact ⟨_, rfl, HO2.out, HB2.out⟩

/-! ### impl_TrotterAt: function 20 -/
def impl_TrotterAt.f (k : Nat) (a0 : Int) (a1 : Int) : Option (List Int × Bool) := (impl_within.f a0 0 12).bind fun t199 => (if t199 = true then ((impl_factorial.f k a0).bind fun t200 => ((impl_within.f a1 0 (wrap64 (t200 - 1))).bind fun t201 => (if t201 = true then ((impl_trotterAt.f k a0 a1).bind fun t202 => (some (t202, true))) else (some (([] : List Int), false))))) else (some (([] : List Int), false)))
theorem impl_TrotterAt.mono : ∀ a0 a1 k, LeO (impl_TrotterAt.f k a0 a1) (impl_TrotterAt.f (k + 1) a0 a1) := by
  intro a0 a1 k
  unfold impl_TrotterAt.f
  repeat' first
      | (with_reducible exact impl_factorial.mono _ _)
      | (with_reducible exact impl_trotterAt.mono _ _ _)
      | (with_reducible exact LeO.refl _)
      | (with_reducible exact LeO.none _)
      | (with_reducible refine LeO.ite ?_ ?_)
      | (with_reducible refine LeO.bind ?_ (fun _ => ?_))
      | exact impl_factorial.mono _ _
      | exact impl_trotterAt.mono _ _ _
      | exact LeO.none _
      | refine LeO.ite ?_ ?_
      | refine LeO.bind ?_ (fun _ => ?_)
set_option maxHeartbeats 8000000 in
set_option maxRecDepth 100000 in
theorem impl_TrotterAt.calls (k : Nat) (a0 : Int) (a1 : Int) (r1 : List Int) (r2 : Bool) (w : World) (h : impl_TrotterAt.f k a0 a1 = some (r1, r2)) :
    Calls Try.prog 20 #[.int .i64 a0, .int .i64 a1] w fun e w' => ∃ v0_ : Value, e = .returned (.tuple #[v0_, .bool r2]) ∧ Kd.R (Kd.int .i64) 3 w' w.heap.size (fun _ => True) v0_ r1 ∧ Below w.heap.size w w' := by
  have HB := Aside0.mk (Below.refl w.heap.size w)
  have H : ((impl_within.f a0 0 12).bind fun t199 => (if t199 = true then ((impl_factorial.f k a0).bind fun t200 => ((impl_within.f a1 0 (wrap64 (t200 - 1))).bind fun t201 => (if t201 = true then ((impl_trotterAt.f k a0 a1).bind fun t202 => (some (t202, true))) else (some (([] : List Int), false))))) else (some (([] : List Int), false)))) = some (r1, r2) := h
  clear h
  replace H := Option.bind_eq_some_iff.mp H
  obtain ⟨t199, A30, H⟩ := H
  replace H : (if t199 = true then ((impl_factorial.f k a0).bind fun t200 => ((impl_within.f a1 0 (wrap64 (t200 - 1))).bind fun t201 => (if t201 = true then ((impl_trotterAt.f k a0 a1).bind fun t202 => (some (t202, true))) else (some (([] : List Int), false))))) else (some (([] : List Int), false))) = some (r1, r2) := H
  have A3 := Aside0.mk A30
  clear A30
  by_cases c4 : t199 = true
  · subst c4
    have H1 : ((impl_factorial.f k a0).bind fun t200 => ((impl_within.f a1 0 (wrap64 (t200 - 1))).bind fun t201 => (if t201 = true then ((impl_trotterAt.f k a0 a1).bind fun t202 => (some (t202, true))) else (some (([] : List Int), false))))) = some (r1, r2) := by rw [if_pos rfl] at H; exact H
    clear H
    have H := H1
    clear H1
    replace H := Option.bind_eq_some_iff.mp H
    obtain ⟨t200, A50, H⟩ := H
    replace H : ((impl_within.f a1 0 (wrap64 (t200 - 1))).bind fun t201 => (if t201 = true then ((impl_trotterAt.f k a0 a1).bind fun t202 => (some (t202, true))) else (some (([] : List Int), false)))) = some (r1, r2) := H
    have A5 := Aside0.mk A50
    clear A50
    replace H := Option.bind_eq_some_iff.mp H
    obtain ⟨t201, A60, H⟩ := H
    replace H : (if t201 = true then ((impl_trotterAt.f k a0 a1).bind fun t202 => (some (t202, true))) else (some (([] : List Int), false))) = some (r1, r2) := H
    have A6 := Aside0.mk A60
    clear A60
    by_cases c7 : t201 = true
    · subst c7
      have H1 : ((impl_trotterAt.f k a0 a1).bind fun t202 => (some (t202, true))) = some (r1, r2) := by rw [if_pos rfl] at H; exact H
      clear H
      have H := H1
      clear H1
      replace H := Option.bind_eq_some_iff.mp H
      obtain ⟨t202, A80, H⟩ := H
      replace H : (some (t202, true)) = some (r1, r2) := H
      have A8 := Aside0.mk A80
      clear A80
      simp only [Option.some.injEq, Prod.mk.injEq] at H
      obtain ⟨rfl, rfl⟩ := H
      go_enter Try.func20, Try.ntmps20
      go_wp2_with (first | ((with_reducible refine gate_callee (f := 38) rfl ?_); refine goesL_ (some 7) rfl rfl Try.func38 (by kernel_rfl) rfl #[.int .i64 a0, .int .i64 0, .int .i64 12] rfl (by (try simp only [List.map_toArray, List.map_cons, List.map_nil]); first | done | rfl | (simp only [List.length_drop, List.length_take]; rfl)) ?_; (with_reducible refine (impl_within.calls a0 0 12 true _ A3.out).mono ?_); rintro e w' ⟨rfl, ⟨nd, rfl⟩⟩; refine ⟨_, rfl, ?_⟩) | (go_at_call 45; (with_reducible refine (impl_factorial.calls k a0 t200 _ A5.out).mono ?_); rintro e w' ⟨rfl, ⟨nd, rfl⟩⟩) | (go_at_call 38; (with_reducible refine (impl_within.calls a1 0 (wrap64 (t200 - 1)) true _ A6.out).mono ?_); rintro e w' ⟨rfl, ⟨nd, rfl⟩⟩) | ((with_reducible refine gate_callee (f := 46) rfl ?_); refine goesL_ (some 19) rfl rfl Try.func46 (by kernel_rfl) rfl #[.int .i64 a0, .int .i64 a1] rfl (by (try simp only [List.map_toArray, List.map_cons, List.map_nil]); first | done | rfl | (simp only [List.length_drop, List.length_take]; rfl)) ?_; (with_reducible refine (impl_trotterAt.calls k a0 a1 t202 _ A8.out).mono ?_); rintro e w9 ⟨v203, rfl, ho0, hb⟩; refine ⟨_, rfl, ?_⟩; have n0_ := Aside0.mk (Kd.R_lower ho0 (below_size (by repeat (first | (with_reducible first | exact HB.out | apply below_alloc | apply pw_below_drewN | apply below_drew1) | exact HB.out)))); have n1_ := Aside0.mk (below_step (by repeat (first | (with_reducible first | exact HB.out | apply below_alloc | apply pw_below_drewN | apply below_drew1) | exact HB.out)) hb); clear HB; have HO204 := n0_; have HB := n1_; clear n0_ n1_; (try clear hb); (try clear hb2); (try clear hk); (try clear hi); (try clear ho0)))
      go_ret2
      exact ⟨_, by first | rfl | (simp [errW_none, errW_some] <;> rfl) | (simp [*, errW_none, errW_some] <;> rfl), by (with_reducible repeat (first | apply Kd.R_alloc | apply Kd.R_drewN | apply Kd.R_drew)); exact HO204.out, by repeat (first | (with_reducible first | exact HB.out | apply below_alloc | apply pw_below_drewN | apply below_drew1) | exact HB.out)⟩
    · replace c7 := Bool.eq_false_iff.mpr c7
      subst c7
      have H1 : (some (([] : List Int), false)) = some (r1, r2) := by rw [if_neg (show ¬ (false = true) by decide)] at H; exact H
      clear H
      have H := H1
      clear H1
      simp only [Option.some.injEq, Prod.mk.injEq] at H
      obtain ⟨rfl, rfl⟩ := H
      go_enter Try.func20, Try.ntmps20
      go_wp2_with (first | ((with_reducible refine gate_callee (f := 38) rfl ?_); refine goesL_ (some 7) rfl rfl Try.func38 (by kernel_rfl) rfl #[.int .i64 a0, .int .i64 0, .int .i64 12] rfl (by (try simp only [List.map_toArray, List.map_cons, List.map_nil]); first | done | rfl | (simp only [List.length_drop, List.length_take]; rfl)) ?_; (with_reducible refine (impl_within.calls a0 0 12 true _ A3.out).mono ?_); rintro e w' ⟨rfl, ⟨nd, rfl⟩⟩; refine ⟨_, rfl, ?_⟩) | (go_at_call 45; (with_reducible refine (impl_factorial.calls k a0 t200 _ A5.out).mono ?_); rintro e w' ⟨rfl, ⟨nd, rfl⟩⟩) | (go_at_call 38; (with_reducible refine (impl_within.calls a1 0 (wrap64 (t200 - 1)) false _ A6.out).mono ?_); rintro e w' ⟨rfl, ⟨nd, rfl⟩⟩))
      go_ret2
      exact ⟨_, by first | rfl | (simp [errW_none, errW_some] <;> rfl) | (simp [*, errW_none, errW_some] <;> rfl), by first | exact Kd.R_nil _ _ _ _ _ | exact Kd.N_nil _ _ _ _ _ | exact Kd.V_nil _ _ _ _ _ | exact Kd.Q_nil _ _ _ _ _ | exact Kd.S_nil _ _ _ _ _, by repeat (first | (with_reducible first | exact HB.out | apply below_alloc | apply pw_below_drewN | apply below_drew1) | exact HB.out)⟩
  · replace c4 := Bool.eq_false_iff.mpr c4
    subst c4
    have H1 : (some (([] : List Int), false)) = some (r1, r2) := by rw [if_neg (show ¬ (false = true) by decide)] at H; exact H
    clear H
    have H := H1
    clear H1
    simp only [Option.some.injEq, Prod.mk.injEq] at H
    obtain ⟨rfl, rfl⟩ := H
    go_enter Try.func20, Try.ntmps20
    go_wp2_with (first | ((with_reducible refine gate_callee (f := 38) rfl ?_); refine goesL_ (some 7) rfl rfl Try.func38 (by kernel_rfl) rfl #[.int .i64 a0, .int .i64 0, .int .i64 12] rfl (by (try simp only [List.map_toArray, List.map_cons, List.map_nil]); first | done | rfl | (simp only [List.length_drop, List.length_take]; rfl)) ?_; (with_reducible refine (impl_within.calls a0 0 12 false _ A3.out).mono ?_); rintro e w' ⟨rfl, ⟨nd, rfl⟩⟩; refine ⟨_, rfl, ?_⟩))
    go_ret2
    exact ⟨_, by first | rfl | (simp [errW_none, errW_some] <;> rfl) | (simp [*, errW_none, errW_some] <;> rfl), by first | exact Kd.R_nil _ _ _ _ _ | exact Kd.N_nil _ _ _ _ _ | exact Kd.V_nil _ _ _ _ _ | exact Kd.Q_nil _ _ _ _ _ | exact Kd.S_nil _ _ _ _ _, by repeat (first | (with_reducible first | exact HB.out | apply below_alloc | apply pw_below_drewN | apply below_drew1) | exact HB.out)⟩

/-! ### spec_l1In: function 47 -/
def spec_l1In.f (a0 : Int) (a1 : Int) (a2 : Int) : Option (Bool) := if a0 ≥ a1 then (some (decide (a0 ≤ a2))) else (some false)
set_option maxHeartbeats 8000000 in
set_option maxRecDepth 100000 in
theorem spec_l1In.calls (a0 : Int) (a1 : Int) (a2 : Int) (r : Bool) (w : World) (h : spec_l1In.f a0 a1 a2 = some r) :
    Calls Try.prog 47 #[.int .i64 a0, .int .i64 a1, .int .i64 a2] w fun e w' => e = .returned (.bool r) ∧ Drawn0 w w' := by
  have H : (if a0 ≥ a1 then (some (decide (a0 ≤ a2))) else (some false)) = some r := h
  clear h
  by_cases c4 : a0 ≥ a1
  · rw [if_pos c4] at H
    have c4b0 : decide (a1 ≤ a0) = true := decide_eq_true c4
    clear c4
    obtain rfl := Option.some.inj H
    go_enter Try.func47, Try.ntmps47
    go_wp2
    go_ret
    exact ⟨by first | rfl | (simp; done) | (simp [*]; done), by repeat (first | exact Drawn0.refl _ | apply Drawn0.step)⟩
  · rw [if_neg c4] at H
    have c4b0 : decide (a1 ≤ a0) = false := decide_eq_false c4
    clear c4
    obtain rfl := Option.some.inj H
    go_enter Try.func47, Try.ntmps47
    go_wp2
    go_ret
    exact ⟨by first | rfl | (simp; done) | (simp [*]; done), by repeat (first | exact Drawn0.refl _ | apply Drawn0.step)⟩

/-! ### spec_raItems: function 43 -/
def spec_raItems.f (a0 : Int) : Option (Bool) := (spec_l1In.f a0 0 12).bind fun t205 => (some t205)
set_option maxHeartbeats 8000000 in
set_option maxRecDepth 100000 in
theorem spec_raItems.calls (a0 : Int) (r : Bool) (w : World) (h : spec_raItems.f a0 = some r) :
    Calls Try.prog 43 #[.int .i64 a0] w fun e w' => e = .returned (.bool r) ∧ Drawn0 w w' := by
  have H : ((spec_l1In.f a0 0 12).bind fun t205 => (some t205)) = some r := h
  clear h
  replace H := Option.bind_eq_some_iff.mp H
  obtain ⟨t205, A20, H⟩ := H
  replace H : (some t205) = some r := H
  have A2 := Aside0.mk A20
  clear A20
  obtain rfl := Option.some.inj H
  go_enter Try.func43, Try.ntmps43
  go_wp2_with (first | ((with_reducible refine gate_callee (f := 47) rfl ?_); refine goesL_ (some 4) rfl rfl Try.func47 (by kernel_rfl) rfl #[.int .i64 a0, .int .i64 0, .int .i64 12] rfl (by (try simp only [List.map_toArray, List.map_cons, List.map_nil]); first | done | rfl | (simp only [List.length_drop, List.length_take]; rfl)) ?_; (with_reducible refine (spec_l1In.calls a0 0 12 t205 _ A2.out).mono ?_); rintro e w' ⟨rfl, ⟨nd, rfl⟩⟩; refine ⟨_, rfl, ?_⟩))
  go_ret
  exact ⟨by first | rfl | (simp; done) | (simp [*]; done), by repeat (first | exact Drawn0.refl _ | apply Drawn0.step)⟩

/-! ### spec_l1Own: function 63 -/
def spec_l1Own.f (l0 : List Int) : Option (List Int) := (some (([] : List Int) : List Int)).bind fun y206 => (if y206.length + l0.length < 17592186044416 then (some (y206 ++ l0)) else (none))
set_option maxHeartbeats 8000000 in
set_option maxRecDepth 100000 in
theorem spec_l1Own.calls (A0 : Option Addr) (c0 : Nat) (l0 : List Int) (r : List Int) (w : World) (hr0 : Kd.C (Kd.int .i64) w A0 l0.length l0) (hc0 : l0.length ≤ c0) (h : spec_l1Own.f l0 = some r) :
    Calls Try.prog 63 #[.slice A0 l0.length c0] w fun e w' => ∃ v0_ : Value, e = .returned (v0_) ∧ Kd.R (Kd.int .i64) 3 w' w.heap.size (fun _ => True) v0_ r ∧ Below w.heap.size w w' := by
  have HR0 := Aside0.mk hr0
  have HC0 := Aside0.mk hc0
  clear hr0 hc0
  have HB := Aside0.mk (Below.refl w.heap.size w)
  have H : ((some (([] : List Int) : List Int)).bind fun y206 => (if y206.length + l0.length < 17592186044416 then (some (y206 ++ l0)) else (none))) = some r := h
  clear h
  obtain ⟨y206, hy206⟩ : ∃ y_ : List Int, y_ = (([] : List Int)) := ⟨_, rfl⟩
  replace H : (if y206.length + l0.length < 17592186044416 then (some (y206 ++ l0)) else (none)) = some r := by first | (rw [hy206]; with_reducible exact H) | (have H2_ := (Option.bind_some _ _).symm.trans H; rw [hy206]; with_reducible exact H2_) | (have H2_ := (Option.bind_some _ _).symm.trans H; with_reducible exact H2_) | with_reducible exact H | (rw [hy206]; exact H) | exact H
  have Ny206 := Aside0.mk hy206
  clear hy206
  by_cases c2 : y206.length + l0.length < 17592186044416
  · rw [if_pos c2] at H
    have LMc2 := Aside0.mk c2
    clear c2
    obtain ⟨y209, hy209⟩ : ∃ y_ : List Int, y_ = (y206 ++ l0) := ⟨_, rfl⟩
    replace H : (some y209) = some r := by first | (rw [hy209]; with_reducible exact H) | (have H2_ := (Option.bind_some _ _).symm.trans H; rw [hy209]; with_reducible exact H2_) | (have H2_ := (Option.bind_some _ _).symm.trans H; with_reducible exact H2_) | with_reducible exact H | (rw [hy209]; exact H) | exact H
    have Ny209 := Aside0.mk hy209
    clear hy209
    obtain rfl := Option.some.inj H
    go_enter Try.func63, Try.ntmps63
    go_wp2_with (first | ((with_reducible refine gate_dst (N := 3) rfl ?_); refine Kd.R_lit (Kd.int .i64) _ 3 ?hg (N := 3) ?hd (xs := ([] : List Int)) (inner := []) (ok := fun _ => True) (okp := fun _ => True) ?hr ?hp (fun _ hk => hk) trivial (Below.refl _ _) (Nat.le_refl _) (by simp) ?_; (case hd => rfl); (case hg => rfl); (case hr => first | (go_simp; done) | (go_simp; rfl)); (case hp => exact (Reps.none _ _)); intro v207 w3 ho4 hb hg_ hnew_; clear hg_ hnew_; (first | rw [← Ny206.out] at ho4 | (simp only [Int.reduceToNat] at ho4; rw [← Ny206.out] at ho4)); have n0_ := Aside0.mk (Kd.R_lower ho4 (below_size (by repeat (first | (with_reducible first | exact HB.out | apply below_alloc | apply pw_below_drewN | apply below_drew1) | exact HB.out)))); have n1_ := Aside0.mk (below_step (by repeat (first | (with_reducible first | exact HB.out | apply below_alloc | apply pw_below_drewN | apply below_drew1) | exact HB.out)) hb); clear HB; have HO208 := n0_; have HB := n1_; clear n0_ n1_; clear hb ho4) | ((with_reducible refine gate_builtin (b := .append) (xs := #[.tmp 3, .tmp 4]) rfl ?_); at_builtin; refine Kd.R_append_rows (Kd.int .i64) (w0 := w) w.heap.size rfl (.tmp 3) (.tmp 4) 24 3 (.int .i64 0) 8 rfl Try.underlying24 info3 rfl (by decide) (by omega) v207 y206 l0 _ _ _ (fun _ => True) (fun _ => False) rfl rfl ?aO ?aR (fun _ _ h => h) (fun _ h => h.elim) ?aF ?aB ?aS ?aL ?_; (case aR => repeat (first | exact (Kd.C_below HR0.out HB.out) | (with_reducible refine Kd.C_alloc ?_ _) | (with_reducible refine Kd.C_drewN ?_ _) | (with_reducible refine Kd.C_drew ?_))); (case aB => exact (by repeat (first | (with_reducible first | exact HB.out | apply below_alloc | apply pw_below_drewN | apply below_drew1) | exact HB.out))); (case aF => exact (fun _ _ => trivial)); (case aO => exact (by (with_reducible repeat (first | apply Kd.R_alloc | apply Kd.R_drewN | apply Kd.R_drew)); exact HO208.out)); (case aS => exact (below_size (by repeat (first | (with_reducible first | exact HB.out | apply below_alloc | apply pw_below_drewN | apply below_drew1) | exact HB.out)))); (case aL => have := LMc2.out; omega); intro v210 w5 ho hb hg hat; rw [← Ny209.out] at ho; have n0_ := Aside0.mk (hb); have n1_ := Aside0.mk (ho); clear HB; clear HO208; have HB := n0_; have HO211 := n1_; clear n0_ n1_; clear ho hb hg hat))
    go_ret
    exact ⟨_, by first | rfl | (simp [errW_none, errW_some] <;> rfl) | (simp [*, errW_none, errW_some] <;> rfl), by (with_reducible repeat (first | apply Kd.R_alloc | apply Kd.R_drewN | apply Kd.R_drew)); exact HO211.out, by repeat (first | (with_reducible first | exact HB.out | apply below_alloc | apply pw_below_drewN | apply below_drew1) | exact HB.out)⟩
  · rw [if_neg c2] at H
    exact absurd H (by simp)

end Go.Proofs.Ytcpdgfmljhfbmaa.MFnTrotter
