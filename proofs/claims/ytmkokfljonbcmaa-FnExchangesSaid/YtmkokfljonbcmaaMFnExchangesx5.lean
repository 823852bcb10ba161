import Derived.Test.YtmkokfljonbcmaaMFnExchangesx0
import Derived.Test.YtmkokfljonbcmaaMFnExchangesx1
import Derived.Test.YtmkokfljonbcmaaMFnExchangesx2
import Derived.Test.YtmkokfljonbcmaaMFnExchangesx3
import Derived.Test.YtmkokfljonbcmaaMFnExchangesx4
namespace Go.Proofs.Ytmkokfljonbcmaa.MFnExchanges
open Go.RowKit Go.Proofs.YtmkokfljonbcmaaW.PrintWords Go.Proofs.YtmkokfljonbcmaaW.PrintLast Go.Proofs.YtmkokfljonbcmaaW.PrintMore
attribute [local go_sem] max2_int min2_int max_two min_two max_three min_three max_four min_four   
set_option linter.unusedVariables false
set_option linter.unusedSimpArgs false
def spec_l1Own.f (l0 : List Int) : Option (List Int) := (some (([] : List Int) : List Int)).bind fun y262 => (if y262.length + l0.length < 17592186044416 then (some (y262 ++ l0)) else (none))
set_option maxHeartbeats 8000000 in
set_option maxRecDepth 100000 in
theorem spec_l1Own.calls (A0 : Option Addr) (c0 : Nat) (l0 : List Int) (r : List Int) (w : World) (hr0 : Kd.C (Kd.int .i64) w A0 l0.length l0) (hc0 : l0.length ≤ c0) (h : spec_l1Own.f l0 = some r) :
  Calls Try.prog 79 #[.slice A0 l0.length c0] w fun e w' => ∃ v0_ : Value, e = .returned (v0_) ∧ Kd.R (Kd.int .i64) 3 w' w.heap.size (fun _ => True) v0_ r ∧ Below w.heap.size w w' := by
 have HR0 := Aside0.mk hr0
 have HC0 := Aside0.mk hc0
 clear hr0 hc0
 have HB := Aside0.mk (Below.refl w.heap.size w)
 have H : ((some (([] : List Int) : List Int)).bind fun y262 => (if y262.length + l0.length < 17592186044416 then (some (y262 ++ l0)) else (none))) = some r := h
 clear h
 obtain ⟨y262, hy262⟩ : ∃ y_ : List Int, y_ = (([] : List Int)) := ⟨_, rfl⟩
 replace H : (if y262.length + l0.length < 17592186044416 then (some (y262 ++ l0)) else (none)) = some r := by first | (rw [hy262]; with_reducible exact H) | (have H2_ := (Option.bind_some _ _).symm.trans H; rw [hy262]; with_reducible exact H2_) | (have H2_ := (Option.bind_some _ _).symm.trans H; with_reducible exact H2_) | with_reducible exact H | (rw [hy262]; exact H) | exact H
 have Ny262 := Aside0.mk hy262
 clear hy262
 by_cases c2 : y262.length + l0.length < 17592186044416
 ·rw [if_pos c2] at H
  have LMc2 := Aside0.mk c2
  clear c2
  obtain ⟨y265, hy265⟩ : ∃ y_ : List Int, y_ = (y262 ++ l0) := ⟨_, rfl⟩
  replace H : (some y265) = some r := by first | (rw [hy265]; with_reducible exact H) | (have H2_ := (Option.bind_some _ _).symm.trans H; rw [hy265]; with_reducible exact H2_) | (have H2_ := (Option.bind_some _ _).symm.trans H; with_reducible exact H2_) | with_reducible exact H | (rw [hy265]; exact H) | exact H
  have Ny265 := Aside0.mk hy265
  clear hy265
  obtain rfl := Option.some.inj H
  go_enter Try.func79, Try.ntmps79
  go_wp2_with (first | ((with_reducible refine gate_dst (N := 3) rfl ?_); refine Kd.R_lit (Kd.int .i64) _ 3 ?hg (N := 3) ?hd (xs := ([] : List Int)) (inner := []) (ok := fun _ => True) (okp := fun _ => True) ?hr ?hp (fun _ hk => hk) trivial (Below.refl _ _) (Nat.le_refl _) (by simp) ?_; (case hd => rfl); (case hg => rfl); (case hr => first | (go_simp; done) | (go_simp; rfl)); (case hp => exact (Reps.none _ _)); intro v263 w3 ho4 hb hg_ hnew_; clear hg_ hnew_; (first | rw [← Ny262.out] at ho4 | (simp only [Int.reduceToNat] at ho4; rw [← Ny262.out] at ho4)); have n0_ := Aside0.mk (Kd.R_lower ho4 (below_size (by repeat (first | (with_reducible first | exact HB.out | apply below_alloc | apply pw_below_drewN | apply below_drew1) | exact HB.out)))); have n1_ := Aside0.mk (below_step (by repeat (first | (with_reducible first | exact HB.out | apply below_alloc | apply pw_below_drewN | apply below_drew1) | exact HB.out)) hb); clear HB; have HO264 := n0_; have HB := n1_; clear n0_ n1_; clear hb ho4) | ((with_reducible refine gate_builtin (b := .append) (xs := #[.tmp 3, .tmp 4]) rfl ?_); at_builtin; refine Kd.R_append_rows (Kd.int .i64) (w0 := w) w.heap.size rfl (.tmp 3) (.tmp 4) 38 3 (.int .i64 0) 8 rfl Try.underlying38 info3 rfl (by decide) (by omega) v263 y262 l0 _ _ _ (fun _ => True) (fun _ => False) rfl rfl ?aO ?aR (fun _ _ h => h) (fun _ h => h.elim) ?aF ?aB ?aS ?aL ?_; (case aR => repeat (first | exact (Kd.C_below HR0.out HB.out) | (with_reducible refine Kd.C_alloc ?_ _) | (with_reducible refine Kd.C_drewN ?_ _) | (with_reducible refine Kd.C_drew ?_))); (case aB => exact (by repeat (first | (with_reducible first | exact HB.out | apply below_alloc | apply pw_below_drewN | apply below_drew1) | exact HB.out))); (case aF => exact (fun _ _ => trivial)); (case aO => exact (by (with_reducible repeat (first | apply Kd.R_alloc | apply Kd.R_drewN | apply Kd.R_drew)); exact HO264.out)); (case aS => exact (below_size (by repeat (first | (with_reducible first | exact HB.out | apply below_alloc | apply pw_below_drewN | apply below_drew1) | exact HB.out)))); (case aL => have := LMc2.out; omega); intro v266 w5 ho hb hg hat; rw [← Ny265.out] at ho; have n0_ := Aside0.mk (hb); have n1_ := Aside0.mk (ho); clear HB; clear HO264; have HB := n0_; have HO267 := n1_; clear n0_ n1_; clear ho hb hg hat))
  go_ret
  exact ⟨_, by first | rfl | (simp [errW_none, errW_some] <;> rfl) | (simp [*, errW_none, errW_some] <;> rfl), by (with_reducible repeat (first | apply Kd.R_alloc | apply Kd.R_drewN | apply Kd.R_drew)); exact HO267.out, by repeat (first | (with_reducible first | exact HB.out | apply below_alloc | apply pw_below_drewN | apply below_drew1) | exact HB.out)⟩
 ·rw [if_neg c2] at H
  exact absurd H (by simp)
def spec_raWithout.f (l0 : List Int) (a1 : Int) : Option (List Int) := if 0 ≤ a1 then (if a1 ≤ (l0.length : Int) then ((spec_l1Own.f (l0.take (a1 : Int).toNat)).bind fun t269 => (if 0 ≤ (wrap64 (a1 + 1)) then (if (wrap64 (a1 + 1)) ≤ (l0.length : Int) then (if t269.length + (l0.drop ((wrap64 (a1 + 1)) : Int).toNat).length < 17592186044416 then (some (t269 ++ (l0.drop ((wrap64 (a1 + 1)) : Int).toNat))) else (none)) else (none)) else (none))) else (none)) else (none)
def spec_raWithout.T1 : Bool × List (List Nat × List Nat) := (true, [([], []), ([], []), ([0, 1], [0, 1]), ([2], [2]), ([], []), ([], []), ([5], [5]), ([4, 6], [4, 6]), ([3, 7, 3], [3, 7]), ([8, 8, 0, 1, 2, 3, 4, 5, 6, 7, 8], [8])])
def spec_raWithout.B1 : List Nat := [0, 0, 3, 7, 0, 0, 32, 112, 255, 511]
theorem spec_raWithout.tab1 : rtab .any (opsOf Try.f59 1) = spec_raWithout.T1 := by kernel_rfl
theorem spec_raWithout.bits1 : waitsOk spec_raWithout.T1.2 spec_raWithout.B1 = true := by kernel_rfl
set_option maxHeartbeats 8000000 in
set_option maxRecDepth 100000 in
theorem spec_raWithout.calls (A0 : Option Addr) (c0 : Nat) (l0 : List Int) (a1 : Int) (r : List Int) (w : World) (hr0 : Kd.C (Kd.int .i64) w A0 l0.length l0) (hc0 : l0.length ≤ c0) (h : spec_raWithout.f l0 a1 = some r) :
  Calls Try.prog 59 #[.slice A0 l0.length c0, .int .i64 a1] w fun e w' => ∃ v0_ : Value, e = .returned (v0_) ∧ Kd.R (Kd.int .i64) 3 w' w.heap.size (fun _ => True) v0_ r ∧ Below w.heap.size w w' := by
 have HR0 := Aside0.mk hr0
 have HC0 := Aside0.mk hc0
 clear hr0 hc0
 have HB := Aside0.mk (Below.refl w.heap.size w)
 have H : (if 0 ≤ a1 then (if a1 ≤ (l0.length : Int) then ((spec_l1Own.f (l0.take (a1 : Int).toNat)).bind fun t269 => (if 0 ≤ (wrap64 (a1 + 1)) then (if (wrap64 (a1 + 1)) ≤ (l0.length : Int) then (if t269.length + (l0.drop ((wrap64 (a1 + 1)) : Int).toNat).length < 17592186044416 then (some (t269 ++ (l0.drop ((wrap64 (a1 + 1)) : Int).toNat))) else (none)) else (none)) else (none))) else (none)) else (none)) = some r := h
 clear h
 by_cases c3 : 0 ≤ a1
 ·rw [if_pos c3] at H
  have c3b0 := eq_true c3
  have c3b1 : decide (0 ≤ a1) = true := decide_eq_true c3
  clear c3
  by_cases c4 : a1 ≤ (l0.length : Int)
  ·rw [if_pos c4] at H
   have c4b0 := eq_true c4
   have c4b1 : decide (a1 ≤ (l0.length : Int)) = true := decide_eq_true c4
   have HLEc4 := Aside0.mk c4
   clear c4
   replace H := Option.bind_eq_some_iff.mp H
   obtain ⟨t269, A50, H⟩ := H
   replace H : (if 0 ≤ (wrap64 (a1 + 1)) then (if (wrap64 (a1 + 1)) ≤ (l0.length : Int) then (if t269.length + (l0.drop ((wrap64 (a1 + 1)) : Int).toNat).length < 17592186044416 then (some (t269 ++ (l0.drop ((wrap64 (a1 + 1)) : Int).toNat))) else (none)) else (none)) else (none)) = some r := H
   have A5 := Aside0.mk A50
   clear A50
   obtain ⟨ji6, hji6⟩ : ∃ j_ : Int, (wrap64 (a1 + 1)) = j_ := ⟨_, rfl⟩
   replace H : (if 0 ≤ (ji6) then (if (ji6) ≤ (l0.length : Int) then (if t269.length + (l0.drop ((ji6) : Int).toNat).length < 17592186044416 then (some (t269 ++ (l0.drop ((ji6) : Int).toNat))) else (none)) else (none)) else (none)) = some r := by first | (rw [hji6] at H; exact H) | (simp only [hji6] at H ⊢; exact H)
   (try rw [hji6] at A5)
   have hji6w : (IntKind.i64.wrap (a1 + 1)) = ji6 := (i64_w _).trans hji6
   by_cases c7 : 0 ≤ (ji6)
   ·rw [if_pos c7] at H
    have c7b0 := eq_true c7
    have c7b1 : decide (0 ≤ (ji6)) = true := decide_eq_true c7
    clear c7
    by_cases c8 : (ji6) ≤ (l0.length : Int)
    ·rw [if_pos c8] at H
     have c8b0 := eq_true c8
     have c8b1 : decide ((ji6) ≤ (l0.length : Int)) = true := decide_eq_true c8
     clear c8
     by_cases c9 : t269.length + (l0.drop ((ji6) : Int).toNat).length < 17592186044416
     ·rw [if_pos c9] at H
      have LMc9 := Aside0.mk c9
      clear c9
      obtain ⟨y273, hy273⟩ : ∃ y_ : List Int, y_ = (t269 ++ (l0.drop ((ji6) : Int).toNat)) := ⟨_, rfl⟩
      replace H : (some y273) = some r := by first | (rw [hy273]; with_reducible exact H) | (have H2_ := (Option.bind_some _ _).symm.trans H; rw [hy273]; with_reducible exact H2_) | (have H2_ := (Option.bind_some _ _).symm.trans H; with_reducible exact H2_) | with_reducible exact H | (rw [hy273]; exact H) | exact H
      have Ny273 := Aside0.mk hy273
      clear hy273
      obtain rfl := Option.some.inj H
      go_enter Try.func59, Try.ntmps59
      try go_wp2
      have n0_ := Aside0.mk (below_drew1 HB.out)
      clear HB
      have HB := n0_
      clear n0_
      obtain ⟨i011, hi011, _, hsz11, _⟩ := info_parts info3
      obtain ⟨hcut11, hA11, hC11⟩ := print_take_of (P := Try.prog) (Value.int .i64) 0 38 3 .i64 Try.underlying38 hi011 hsz11 A0 c0 l0 a1 (of_decide_eq_true (by first | (with_reducible assumption) | assumption)) (of_decide_eq_true (by first | (with_reducible assumption) | assumption)) HC0.out
      have HR268 := Aside0.mk (Kd.C_of_reads (h1 := fun _ => rfl) (hA11 _ (Kd.reads_of_C HR0.out)))
      have HC268 := Aside0.mk hC11
      clear hA11 hC11 hi011 hsz11
      obtain ⟨i012, hi012, _, hsz12, _⟩ := info_parts info3
      obtain ⟨A12, hcut12, hA12, hC12⟩ := print_drop_of (P := Try.prog) (Value.int .i64) 0 38 3 .i64 Try.underlying38 hi012 hsz12 A0 c0 l0 (ji6) (of_decide_eq_true (by first | (with_reducible assumption) | assumption)) (of_decide_eq_true (by first | (with_reducible assumption) | assumption)) HC0.out
      have HR272 := Aside0.mk (Kd.C_of_reads (h1 := fun _ => rfl) (hA12 _ (Kd.reads_of_C HR0.out)))
      have HC272 := Aside0.mk hC12
      clear hA12 hC12 hi012 hsz12
      refine start_ (n := 10) (S := fun w' => True) (ds := []) #[false, false, false, false, false, false, false, false, false, false] (by kernel_rfl) rfl rfl trivial (fun hHeld => ?_); refine with_tabW spec_raWithout.tab1 spec_raWithout.bits1 (fun HT_ HW_ => ?_)
      generalize w.drew = w10 at HB HR268 HR272 hHeld ⊢
      refine pure_ (i := 0) (N := some 5) (v := ?_) (a' := ?_) #[true, false, false, false, false, false, false, false, false, false] rfl rfl (any_of HT_.out (by kernel_rfl)) (fun _ _ _ h => h) (Or.inl ⟨by rfl, ?_⟩) ?_ ?_
      rotate_left
      ·intro w'
       go_simp
       with_reducible rfl
      rotate_left
      ·simp only [Act.put, List.setIfInBounds_toArray, List.set_cons_zero, List.set_cons_succ, i64_w, i32_w]
       rfl
      refine pure_ (i := 1) (N := some 6) (v := ?_) (a' := ?_) #[true, true, false, false, false, false, false, false, false, false] rfl rfl (any_of HT_.out (by kernel_rfl)) (fun _ _ _ h => h) (Or.inl ⟨by rfl, ?_⟩) ?_ ?_
      rotate_left
      ·intro w'
       go_simp
       with_reducible rfl
      rotate_left
      ·simp only [Act.put, List.setIfInBounds_toArray, List.set_cons_zero, List.set_cons_succ, i64_w, i32_w]
       rfl
      refine pure_ (i := 2) (N := some 7) (v := ?_) (a' := ?_) #[true, true, true, false, false, false, false, false, false, false] rfl rfl (any_of HT_.out (by kernel_rfl)) (fun _ _ _ h => h) (Or.inl ⟨by rfl, ?_⟩) ?_ ?_
      rotate_left
      ·intro w'
       go_simp
       with_reducible rfl
      rotate_left
      ·simp only [Act.put, List.setIfInBounds_toArray, List.set_cons_zero, List.set_cons_succ, i64_w, i32_w]
       rfl
      refine pure_ (i := 4) (N := some 9) (v := ?_) (a' := ?_) #[true, true, true, false, true, false, false, false, false, false] rfl rfl (any_of HT_.out (by kernel_rfl)) (fun _ _ _ h => h) (Or.inl ⟨by rfl, ?_⟩) ?_ ?_
      rotate_left
      ·intro w'
       go_simp
       with_reducible rfl
      rotate_left
      ·simp only [Act.put, List.setIfInBounds_toArray, List.set_cons_zero, List.set_cons_succ, i64_w, i32_w]
       rfl
      refine pure_ (i := 5) (N := some 10) (v := ?_) (a' := ?_) #[true, true, true, false, true, true, false, false, false, false] rfl rfl (any_of HT_.out (by kernel_rfl)) (fun _ _ _ h => h) (Or.inl ⟨by rfl, ?_⟩) ?_ ?_
      rotate_left
      ·intro w'
       go_simp
       with_reducible rfl
      rotate_left
      ·simp only [Act.put, List.setIfInBounds_toArray, List.set_cons_zero, List.set_cons_succ, i64_w, i32_w]
       rfl
      refine pure_ (i := 6) (N := some 11) (v := ?_) (a' := ?_) #[true, true, true, false, true, true, true, false, false, false] rfl rfl (any_of HT_.out (by kernel_rfl)) (fun _ _ _ h => h) (Or.inl ⟨by rfl, ?_⟩) ?_ ?_
      rotate_left
      ·intro w'
       go_simp
       with_reducible rfl
      rotate_left
      ·simp only [Act.put, List.setIfInBounds_toArray, List.set_cons_zero, List.set_cons_succ, i64_w, i32_w]
       rfl
      refine pure_ (i := 7) (N := some 12) (v := ?_) (a' := ?_) #[true, true, true, false, true, true, true, true, false, false] rfl rfl (any_of HT_.out (by kernel_rfl)) (fun _ _ _ h => h) (Or.inl ⟨by rfl, ?_⟩) ?_ ?_
      rotate_left
      ·intro w'
       go_simp
       with_reducible rfl
      rotate_left
      ·simp only [Act.put, List.setIfInBounds_toArray, List.set_cons_zero, List.set_cons_succ, i64_w, i32_w]
       rfl
      refine one_ (i := 3) (N := some 8) #[true, true, true, true, true, true, true, true, false, false] rfl rfl (one_of HT_.out (by kernel_rfl)) (by decide) (fun K hK => ?_)
      refine goes_ Try.func79 (by kernel_rfl) rfl #[.slice A0 (l0.take (a1 : Int).toNat).length c0] (by rfl) rfl rfl (by (try simp only [List.map_toArray, List.map_cons, List.map_nil]); first | done | (rw [show (l0.take (a1 : Int).toNat).length = a1.toNat from (by rw [List.length_take]; have h_ : (a1 : Int) ≤ (l0.length : Int) := of_decide_eq_true (by first | (with_reducible assumption) | assumption); omega)] <;> rfl) | rfl | (simp only [List.length_drop, List.length_take]; rfl)) ?_
      with_reducible refine (spec_l1Own.calls _ _ (l0.take (a1 : Int).toNat) t269 _ ?side1 ?side2 A5.out).mono ?_
      (case side1 => repeat (first | exact (Kd.C_below HR268.out HB.out) | (with_reducible refine Kd.C_alloc ?_ _) | (with_reducible refine Kd.C_drewN ?_ _) | (with_reducible refine Kd.C_drew ?_)))
      (case side2 => exact HC268.out)
      rintro e w13 ⟨v270, rfl, ho0, hb⟩
      refine ⟨_, rfl, ?_⟩
      have n0_ := Aside0.mk (Kd.R_lower ho0 (below_size (by repeat (first | (with_reducible first | exact HB.out | apply below_alloc | apply pw_below_drewN | apply below_drew1) | exact HB.out))))
      have n1_ := Aside0.mk (below_step (by repeat (first | (with_reducible first | exact HB.out | apply below_alloc | apply pw_below_drewN | apply below_drew1) | exact HB.out)) hb)
      clear HB
      have HO271 := n0_
      have HB := n1_
      clear n0_ n1_
      (try clear hb)
      (try clear hb2)
      (try clear hk)
      (try clear hi)
      (try clear ho0)
      refine hK.out _ _ trivial (fun hHeld => ?_)
      clear hK K
      refine norm_ (a' := ?_) ?_ ?_
      rotate_left
      ·show Act.put _ (some 8) _ = _
       simp only [Act.put, List.setIfInBounds_toArray, List.set_cons_zero, List.set_cons_succ, i64_w, i32_w]
       rfl
      refine one_ (i := 8) (N := some 13) #[true, true, true, true, true, true, true, true, true, false] rfl rfl (one_of HT_.out (by kernel_rfl)) (by decide) (fun K hK => ?_)
      refine Kd.R_append_rows_step (Kd.int .i64) (w0 := w) w.heap.size (by rfl) (.tmp 8) (.tmp 12) 38 3 (.int .i64 0) 8 rfl Try.underlying38 info3 rfl (by decide) (by omega) v270 t269 (l0.drop ((ji6) : Int).toNat) _ _ _ (fun _ => True) (fun _ => False) rfl rfl ?aO ?aR (fun _ _ h => h) (fun _ h => h.elim) ?aF ?aB ?aS ?aL ?_
      (case aR => first | (refine Eq.mp (congrArg (fun m_ => ReadsRow _ _ _ _ m_ _) (show (l0.drop ((ji6) : Int).toNat).length = (l0.length - (ji6).toNat) from List.length_drop)) ?_; repeat (first | exact (Kd.C_below HR272.out HB.out) | (with_reducible refine Kd.C_alloc ?_ _) | (with_reducible refine Kd.C_drewN ?_ _) | (with_reducible refine Kd.C_drew ?_)); done) | (repeat (first | exact (Kd.C_below HR272.out HB.out) | (with_reducible refine Kd.C_alloc ?_ _) | (with_reducible refine Kd.C_drewN ?_ _) | (with_reducible refine Kd.C_drew ?_))))
      (case aB => exact (by repeat (first | (with_reducible first | exact HB.out | apply below_alloc | apply pw_below_drewN | apply below_drew1) | exact HB.out)))
      (case aF => exact (fun _ _ => trivial))
      (case aO => exact (by (with_reducible repeat (first | apply Kd.R_alloc | apply Kd.R_drewN | apply Kd.R_drew)); exact HO271.out))
      (case aS => exact (below_size (by repeat (first | (with_reducible first | exact HB.out | apply below_alloc | apply pw_below_drewN | apply below_drew1) | exact HB.out))))
      (case aL => have := LMc9.out; have hlx_ := (show (l0.drop ((ji6) : Int).toNat).length = (l0.length - (ji6).toNat) from List.length_drop); omega)
      intro v274 w14 ho hb hg hat
      rw [← Ny273.out] at ho
      have n0_ := Aside0.mk (hb)
      have n1_ := Aside0.mk (ho)
      clear HB
      clear HO271
      have HB := n0_
      have HO275 := n1_
      clear n0_ n1_
      clear ho hb hg hat
      refine hK.out _ _ trivial (fun hHeld => ?_)
      clear hK K
      refine norm_ (a' := ?_) ?_ ?_
      rotate_left
      ·show Act.put _ (some 13) _ = _
       simp only [Act.put, List.setIfInBounds_toArray, List.set_cons_zero, List.set_cons_succ, i64_w, i32_w]
       rfl
      refine pure_ (i := 9) (N := some 4) (v := ?_) (a' := ?_) #[true, true, true, true, true, true, true, true, true, true] rfl rfl (any_of HT_.out (by kernel_rfl)) (fun _ _ _ h => h) (Or.inl ⟨by rfl, ?_⟩) ?_ ?_
      rotate_left
      ·intro w'
       go_simp
       with_reducible rfl
      rotate_left
      ·simp only [Act.put, List.setIfInBounds_toArray, List.set_cons_zero, List.set_cons_succ, i64_w, i32_w]
       rfl
      refine done_ (done_of HT_.out (by kernel_rfl)) ?_
      try go_wp2
      go_ret
      exact ⟨_, by first | rfl | (simp [errW_none, errW_some] <;> rfl) | (simp only [← hji6]; first | rfl | (simp [errW_none, errW_some] <;> rfl)) | (simp [*, errW_none, errW_some] <;> rfl), by (with_reducible repeat (first | apply Kd.R_alloc | apply Kd.R_drewN | apply Kd.R_drew)); exact HO275.out, by repeat (first | (with_reducible first | exact HB.out | apply below_alloc | apply pw_below_drewN | apply below_drew1) | exact HB.out)⟩
     ·rw [if_neg c9] at H
      exact absurd H (by simp)
    ·rw [if_neg c8] at H
     exact absurd H (by simp)
   ·rw [if_neg c7] at H
    exact absurd H (by simp)
  ·rw [if_neg c4] at H
   exact absurd H (by simp)
 ·rw [if_neg c3] at H
  exact absurd H (by simp)
def spec_DrawExchangeOf.two (k : Nat) (l0 : List Int) (n s1 s2 : Int) : Option (Int × List Int × List Int) := (spec_l1Cur_combination.f k l0 s1 s2 n).bind fun a => ((spec_l1Cur_combination.f k l0 a.2.1 a.2.2 n).bind fun b => some (n, a.1, b.1))
def spec_DrawExchangeOf.far (k : Nat) (l0 : List Int) (n kk s1 s2 : Int) (a : List Int) : Option (Int × List Int × List Int) := (spec_raUpTo.f k n).bind fun u => ((spec_chMissing.f k u a).bind fun rest => ((spec_l1Cur_pick.f l0 s1 s2 kk).bind fun q => ((spec_raWithout.f a q.1).bind fun aw => ((spec_l1Cur_pick.f l0 q.2.1 q.2.2 (rest.length : Int)).bind fun z => (if 0 ≤ z.1 ∧ z.1 < (rest.length : Int) then ((spec_l1Put.f k aw (rd rest z.1)).bind fun b => some (n, a, b)) else none)))))
def spec_DrawExchangeOf.near (k : Nat) (l0 : List Int) (n kk s1 s2 : Int) : Option (Int × List Int × List Int) := (spec_raAll.f k n kk 0).bind fun all => ((spec_l1Cur_pick.f l0 s1 s2 (all.length : Int)).bind fun p => (if 0 ≤ p.1 ∧ p.1 < (all.length : Int) then (if kk = 0 then some (n, rd_L2 all p.1, rd_L2 all p.1) else (if kk = n then some (n, rd_L2 all p.1, rd_L2 all p.1) else spec_DrawExchangeOf.far k l0 n kk p.2.1 p.2.2 (rd_L2 all p.1))) else none))
def spec_DrawExchangeOf.f (k : Nat) (l0 : List Int) : Option (Int × List Int × List Int) := (spec_l1Cur_size3.f l0 0 0 7).bind fun bt => ((spec_chSize.f bt.1 bt.2.1).bind fun t => (if t = true then ((spec_l1Cur_one.f l0 bt.2.2.1 bt.2.2.2 3).bind fun bo => (if bo.1 = true then spec_DrawExchangeOf.two k l0 bt.1 bo.2.1 bo.2.2 else spec_DrawExchangeOf.near k l0 bt.1 bt.2.1 bo.2.1 bo.2.2)) else spec_DrawExchangeOf.two k l0 bt.1 bt.2.2.1 bt.2.2.2))
theorem spec_DrawExchangeOf.mono : ∀ a0 k, LeO (spec_DrawExchangeOf.f k a0) (spec_DrawExchangeOf.f (k + 1) a0) := by
 intro a0 k
 have h2 : ∀ n s1 s2, LeO (spec_DrawExchangeOf.two k a0 n s1 s2) (spec_DrawExchangeOf.two (k + 1) a0 n s1 s2) := fun n s1 s2 => by
  unfold spec_DrawExchangeOf.two
  exact LeO.bind (spec_l1Cur_combination.mono _ _ _ _ _) (fun _ => LeO.bind (spec_l1Cur_combination.mono _ _ _ _ _) (fun _ => LeO.refl _))
 have h3 : ∀ n kk s1 s2 a, LeO (spec_DrawExchangeOf.far k a0 n kk s1 s2 a) (spec_DrawExchangeOf.far (k + 1) a0 n kk s1 s2 a) := fun n kk s1 s2 a => by
  unfold spec_DrawExchangeOf.far
  exact LeO.bind (spec_raUpTo.mono _ _) (fun _ => LeO.bind (spec_chMissing.mono _ _ _) (fun _ => LeO.bind (LeO.refl _) (fun _ => LeO.bind (LeO.refl _) (fun _ => LeO.bind (LeO.refl _) (fun _ => LeO.ite (LeO.bind (spec_l1Put.mono _ _ _) (fun _ => LeO.refl _)) (LeO.refl _))))))
 have h4 : ∀ n kk s1 s2, LeO (spec_DrawExchangeOf.near k a0 n kk s1 s2) (spec_DrawExchangeOf.near (k + 1) a0 n kk s1 s2) := fun n kk s1 s2 => by
  unfold spec_DrawExchangeOf.near
  exact LeO.bind (spec_raAll.mono _ _ _ _) (fun _ => LeO.bind (LeO.refl _) (fun _ => LeO.ite (LeO.ite (LeO.refl _) (LeO.ite (LeO.refl _) (h3 _ _ _ _ _))) (LeO.refl _)))
 unfold spec_DrawExchangeOf.f
 exact LeO.bind (LeO.refl _) (fun _ => LeO.bind (LeO.refl _) (fun _ => LeO.ite (LeO.bind (LeO.refl _) (fun _ => LeO.ite (h2 _ _ _) (h4 _ _ _ _))) (h2 _ _ _)))
theorem spec_DrawExchangeOf.elem {w : World} {b : Nat} {ok : Nat → Prop} {A : Option Addr} {n c : Nat} {X : List (List Int)} (h : Kd.V (Kd.slice 3 (Kd.int .i64)) 38 w b ok (.slice A n c) X) (i : Int) (h0 : 0 ≤ i) (h1 : i < (X.length : Int)) :
  ∃ ad A1 c1, A = some ad ∧ w.cell? (ad.add i.toNat) = some (.slice A1 (rd_L2 X i).length c1) ∧ Kd.V (Kd.int .i64) 3 w b ok (.slice A1 (rd_L2 X i).length c1) (rd_L2 X i) := by
 obtain ⟨hn, hc, hC⟩ := Kd.V_reads' h
 obtain ⟨ad, A1, c1, rfl, hx, hl, hi⟩ := at_L2 hC i h0 h1
 obtain ⟨ce, hce, hMe, hcc⟩ := Kd.V_get h [] i h0 (by omega)
 obtain ⟨ua, uc, rfl, ul, ge⟩ := Kd.FK_slice_open hMe
 have hv := hcc 0 _ rfl
 rw [Nat.add_zero, show ((Kd.slice 3 (Kd.int .i64))).sz = 1 from rfl, Nat.mul_one] at hv
 replace hv := Option.some.inj (hv.symm.trans hx)
 injection hv with hva hvn hvc
 rw [hva] at ge
 rw [hvc] at ul
 exact ⟨ad, A1, c1, rfl, hx, Kd.V_mk ul ge⟩
set_option maxHeartbeats 8000000 in
set_option maxRecDepth 100000 in
theorem spec_DrawExchangeOf.calls (k : Nat) (A0 : Option Addr) (c0 : Nat) (l0 : List Int) (r1 : Int) (r2 r3 : List Int) (w : World) (hr0 : Kd.C (Kd.int .u8) w A0 l0.length l0) (hc0 : l0.length ≤ c0) (h : spec_DrawExchangeOf.f k l0 = some (r1, r2, r3)) :
  Calls Try.prog 19 #[.slice A0 l0.length c0] w fun e w' => ∃ (v1_ v2_ : Value), e = .returned (.tuple #[.int .i64 r1, v1_, v2_]) ∧ Kd.V (Kd.int .i64) 3 w' w.heap.size (fun k_ => (w.heap.size ≤ k_)) v1_ r2 ∧ Kd.V (Kd.int .i64) 3 w' w.heap.size (fun k_ => (w.heap.size ≤ k_)) v2_ r3 ∧ Below w.heap.size w w' := by
 have hu := Try.underlying63
 have HR := Aside0.mk hr0
 have HC := Aside0.mk hc0
 have HB := Aside0.mk (Below.refl w.heap.size w)
 unfold spec_DrawExchangeOf.f at h
 obtain ⟨⟨n, kk, s1, s2⟩, h1, h⟩ := Option.bind_eq_some_iff.mp h
 obtain ⟨t, h2, h⟩ := Option.bind_eq_some_iff.mp h
 have H1 := Aside0.mk h1
 have H2 := Aside0.mk h2
 have H := Aside0.mk h
 clear h1 h2 h hr0 hc0
 cases t
 ·have h := H.out
  simp only [Bool.false_eq_true, if_false] at h
  unfold spec_DrawExchangeOf.two at h
  obtain ⟨⟨a, s3, s4⟩, h3, h⟩ := Option.bind_eq_some_iff.mp h
  obtain ⟨⟨b, s5, s6⟩, h4, h⟩ := Option.bind_eq_some_iff.mp h
  simp only [Option.some.injEq, Prod.mk.injEq] at h
  obtain ⟨rfl, rfl, rfl⟩ := h
  have H3 := Aside0.mk h3
  have H4 := Aside0.mk h4
  clear h3 h4 H
  go_enter Try.func19, Try.ntmps19
  go_wp2_with (first | ((with_reducible refine gate_dst (N := 14) rfl ?_); refine box_event ?hg (N := 14) ?hd (cs := #[.slice A0 l0.length c0, .int .i64 0, .int .u64 0]) (t := 63) ?hr ?_; (case hd => rfl); (case hg => rfl); (case hr => first | (go_simp; done) | (go_simp; rfl)); intro gx hgx w2 hbox hb2; have HI := Aside0.mk (show IsS63 w w2 gx l0 0 0 from ⟨A0, c0, hbox, by have := HB.out.size; omega, HR.out⟩); have HB2 := Aside0.mk (show Below w.heap.size w w2 from HB.out.trans (hb2.mono HB.out.size)); clear HB; have HB := HB2; clear HB2 hb2 hbox hgx))
  refine (spec_l1Cur_size3.calls gx l0 0 0 7 n kk s1 s2 w _ HI.out HB.out H1.out).mono ?_
  rintro e w3 ⟨rfl, hI3, hb3, _⟩
  have HB3 := Aside0.mk hb3
  have HI3 := Aside0.mk hI3
  clear hb3 hI3 HI HB
  go_wp2_with fail
  refine (spec_chSize.calls n kk false _ H2.out).mono ?_
  rintro e w4 ⟨rfl, hd⟩
  have HB4 := Aside0.mk (HB3.out.trans ((Drawn0.below hd).mono HB3.out.size))
  have HI4 := Aside0.mk (HI3.out.below (Drawn0.below hd))
  clear hd HI3 HB3
  go_wp2_with fail
  refine (spec_l1Cur_combination.calls k gx l0 s1 s2 n a s3 s4 w _ HI4.out HB4.out H3.out).mono ?_
  rintro e w20 ⟨v20, rfl, ho20, hI20, hb20, hk20⟩
  have HV20 := Aside0.mk (Kd.V_mono (Kd.R_V (base' := w.heap.size) (Kd.R_bound ho20)) (ok' := fun k_ => w4.heap.size ≤ k_) (fun k_ hk => by first | exact hk.2.1 | exact hk.1.2))
  have HI20 := Aside0.mk hI20
  have HB20 := Aside0.mk hb20
  clear ho20 hI20 hb20 hk20
  go_wp2_with fail
  refine (spec_l1Cur_combination.calls k gx l0 s3 s4 n b s5 s6 w _ HI20.out HB20.out H4.out).mono ?_
  rintro e w21 ⟨v21, rfl, ho21, hI21, hb21, hk21⟩
  have HV21 := Aside0.mk (Kd.V_mono (Kd.R_V (base' := w.heap.size) (Kd.R_bound ho21)) (ok' := fun k_ => w20.heap.size ≤ k_) (fun k_ hk => by first | exact hk.2.1 | exact hk.1.2))
  have HV22 := Aside0.mk (Kd.V_keep HV20.out hk21 (fun k_ hk => HI4.out.fresh k_ hk))
  have HB21 := Aside0.mk hb21
  clear ho21 hI21 hb21 hk21
  go_wp2
  go_ret3
  exact ⟨_, _, rfl, Kd.V_mono HV22.out (fun k_ hk => Nat.le_trans HB4.out.size hk), Kd.V_mono HV21.out (fun k_ hk => Nat.le_trans HB20.out.size hk), HB21.out⟩
 ·have h := H.out
  simp only [if_true] at h
  obtain ⟨⟨o, s3, s4⟩, h3, h⟩ := Option.bind_eq_some_iff.mp h
  have H3 := Aside0.mk h3
  have H5 := Aside0.mk h
  clear h3 h H
  cases o
  ·have h := H5.out
   simp only [Bool.false_eq_true, if_false] at h
   unfold spec_DrawExchangeOf.near at h
   obtain ⟨all, h4, h⟩ := Option.bind_eq_some_iff.mp h
   obtain ⟨⟨p, s5, s6⟩, h5, h⟩ := Option.bind_eq_some_iff.mp h
   by_cases hp : 0 ≤ p ∧ p < (all.length : Int)
   rotate_left
   ·simp only [hp, if_false] at h; cases h
   simp only [hp, and_self, if_true] at h
   have H4 := Aside0.mk h4
   have H6 := Aside0.mk h5
   have H7 := Aside0.mk h
   have P0 := eq_true hp.1
   have P1 := eq_true hp.2
   have P0' : decide (0 ≤ p) = true := decide_eq_true hp.1
   have P1' : decide (p < (all.length : Int)) = true := decide_eq_true hp.2
   clear h4 h5 h H5
   go_enter Try.func19, Try.ntmps19
   go_wp2_with (first | ((with_reducible refine gate_dst (N := 14) rfl ?_); refine box_event ?hg (N := 14) ?hd (cs := #[.slice A0 l0.length c0, .int .i64 0, .int .u64 0]) (t := 63) ?hr ?_; (case hd => rfl); (case hg => rfl); (case hr => first | (go_simp; done) | (go_simp; rfl)); intro gx hgx w2 hbox hb2; have HI := Aside0.mk (show IsS63 w w2 gx l0 0 0 from ⟨A0, c0, hbox, by have := HB.out.size; omega, HR.out⟩); have HB2 := Aside0.mk (show Below w.heap.size w w2 from HB.out.trans (hb2.mono HB.out.size)); clear HB; have HB := HB2; clear HB2 hb2 hbox hgx))
   refine (spec_l1Cur_size3.calls gx l0 0 0 7 n kk s1 s2 w _ HI.out HB.out H1.out).mono ?_
   rintro e w3 ⟨rfl, hI3, hb3, _⟩
   have HB3 := Aside0.mk hb3
   have HI3 := Aside0.mk hI3
   clear hb3 hI3 HI HB
   go_wp2_with fail
   refine (spec_chSize.calls n kk true _ H2.out).mono ?_
   rintro e w4 ⟨rfl, hd⟩
   have HB4 := Aside0.mk (HB3.out.trans ((Drawn0.below hd).mono HB3.out.size))
   have HI4 := Aside0.mk (HI3.out.below (Drawn0.below hd))
   clear hd HI3 HB3
   go_wp2_with fail
   refine (spec_l1Cur_one.calls gx l0 s1 s2 3 false s3 s4 w _ HI4.out HB4.out H3.out).mono ?_
   rintro e w5 ⟨rfl, hI5, hb5, _⟩
   have HB5 := Aside0.mk hb5
   have HI5 := Aside0.mk hI5
   clear hb5 hI5 HI4 HB4
   go_wp2_with fail
   refine (spec_raAll.calls k n kk 0 all _ H4.out).mono ?_
   rintro e w6 ⟨v6, rfl, ho6, hb6⟩
   have HL := Aside0.mk (HB5.out.size)
   have HS := Aside0.mk (Kd.V_mono (Kd.S_V (base' := w.heap.size) (Kd.S_bound ho6)) (ok' := fun k_ => w5.heap.size ≤ k_) (fun k_ hk => by first | exact hk.2.1 | exact hk.1.2 | exact hk.2.2))
   have HI6 := Aside0.mk (HI5.out.below hb6)
   have HB6 := Aside0.mk (HB5.out.trans (hb6.mono HB5.out.size))
   have HL56 := Aside0.mk (show w5.heap.size ≤ w6.heap.size from hb6.size)
   clear ho6 hb6 HB5
   obtain ⟨A6, c6, rfl⟩ := Kd.V_slice HS.out
   go_wp2_with fail
   refine (spec_l1Cur_pick.calls gx l0 s3 s4 (all.length : Int) p s5 s6 w _ HI6.out HB6.out H6.out).mono ?_
   rintro e w7 ⟨rfl, hI7, hb7, hk7⟩
   have HI7 := Aside0.mk hI7
   have HB7 := Aside0.mk hb7
   have HS7 := Aside0.mk (Kd.V_keep HS.out hk7 (fun k_ hk => HI5.out.fresh k_ hk))
   have HL57 := Aside0.mk (show w5.heap.size ≤ w7.heap.size from Nat.le_trans HL56.out (keep_size hk7))
   clear hI7 hb7 hk7 HI6 HB6 HS
   obtain ⟨ad, A8, c8, rfl, hx8, hV8⟩ := spec_DrawExchangeOf.elem HS7.out p hp.1 hp.2
   have HV := Aside0.mk hV8
   clear hV8
   have h := H7.out
   clear H7
   by_cases k0 : kk = 0
   ·simp only [k0, if_true] at h
    simp only [Option.some.injEq, Prod.mk.injEq] at h
    obtain ⟨rfl, rfl, rfl⟩ := h
    have k0b : (kk == 0) = true := beq_iff_eq.mpr k0
    clear k0
    go_wp2_with fail
    go_ret3
    exact ⟨_, _, rfl, Kd.V_mono HV.out (fun k_ hk => Nat.le_trans HL.out hk), Kd.V_mono HV.out (fun k_ hk => Nat.le_trans HL.out hk), HB7.out⟩
   rw [if_neg k0] at h
   have k0b : (kk == 0) = false := beq_eq_false_iff_ne.mpr k0
   by_cases k1 : kk = n
   ·rw [if_pos k1] at h
    simp only [Option.some.injEq, Prod.mk.injEq] at h
    obtain ⟨rfl, rfl, rfl⟩ := h
    have k1b : (kk == n) = true := beq_iff_eq.mpr k1
    clear k1 k0
    go_wp2_with fail
    go_ret3
    exact ⟨_, _, rfl, Kd.V_mono HV.out (fun k_ hk => Nat.le_trans HL.out hk), Kd.V_mono HV.out (fun k_ hk => Nat.le_trans HL.out hk), HB7.out⟩
   rw [if_neg k1] at h
   have k1b : (kk == n) = false := beq_eq_false_iff_ne.mpr k1
   clear k0 k1
   unfold spec_DrawExchangeOf.far at h
   generalize rd_L2 all p = a at *
   obtain ⟨u, h8, h⟩ := Option.bind_eq_some_iff.mp h
   obtain ⟨rest, h9, h⟩ := Option.bind_eq_some_iff.mp h
   obtain ⟨⟨q, s7, s8⟩, h10, h⟩ := Option.bind_eq_some_iff.mp h
   obtain ⟨aw, h11, h⟩ := Option.bind_eq_some_iff.mp h
   obtain ⟨⟨z, s9, s10⟩, h12, h⟩ := Option.bind_eq_some_iff.mp h
   by_cases hz : 0 ≤ z ∧ z < (rest.length : Int)
   rotate_left
   ·simp only [hz, if_false] at h; cases h
   simp only [hz, and_self, if_true] at h
   obtain ⟨b, h13, h⟩ := Option.bind_eq_some_iff.mp h
   simp only [Option.some.injEq, Prod.mk.injEq] at h
   obtain ⟨rfl, rfl, rfl⟩ := h
   have H8 := Aside0.mk h8
   have H9 := Aside0.mk h9
   have H10 := Aside0.mk h10
   have H11 := Aside0.mk h11
   have H12 := Aside0.mk h12
   have H13 := Aside0.mk h13
   clear h8 h9 h10 h11 h12 h13
   go_wp2_with fail
   refine (spec_raUpTo.calls k n u _ H8.out).mono ?_
   rintro e w9 ⟨v9, rfl, ho9, hb9⟩
   obtain ⟨A9, c9, rfl⟩ := Kd.R_slice ho9
   have HO9 := Aside0.mk (Kd.R_reads' ho9)
   have HV9 := Aside0.mk (Kd.V_below HV.out hb9)
   have HI9 := Aside0.mk (HI7.out.below hb9)
   have HB9 := Aside0.mk (HB7.out.trans (hb9.mono HB7.out.size))
   have HL9 := Aside0.mk (show w5.heap.size ≤ w9.heap.size from Nat.le_trans HL57.out hb9.size)
   clear ho9 hb9 HI7 HB7 HV
   go_wp2_with fail
   refine (spec_chMissing.calls k A9 c9 u A8 c8 a rest _ HO9.out.2.2 HO9.out.2.1 (Kd.V_reads' HV9.out).2.2 (Kd.V_reads' HV9.out).2.1 H9.out).mono ?_
   rintro e w10 ⟨v10, rfl, ho10, hb10⟩
   have HO10 := Aside0.mk (Kd.V_mono (Kd.R_V (base' := w.heap.size) (Kd.R_bound ho10)) (ok' := fun k_ => w5.heap.size ≤ k_) (fun k_ hk => by have h5 : w5.heap.size ≤ w9.heap.size := HL9.out; first | exact Nat.le_trans h5 hk.2.1 | exact Nat.le_trans h5 hk.1.2))
   have HV10 := Aside0.mk (Kd.V_below HV9.out hb10)
   have HI10 := Aside0.mk (HI9.out.below hb10)
   have HB10 := Aside0.mk (HB9.out.trans (hb10.mono HB9.out.size))
   clear ho10 hb10 HI9 HB9 HV9 HO9
   obtain ⟨A10, c10, rfl⟩ := Kd.V_slice HO10.out
   go_wp2_with fail
   refine (spec_l1Cur_pick.calls gx l0 s5 s6 kk q s7 s8 w _ HI10.out HB10.out H10.out).mono ?_
   rintro e w11 ⟨rfl, hI11, hb11, hk11⟩
   have HI11 := Aside0.mk hI11
   have HB11 := Aside0.mk hb11
   have HV11 := Aside0.mk (Kd.V_keep HV10.out hk11 (fun k_ hk => HI5.out.fresh k_ hk))
   have HO11 := Aside0.mk (Kd.V_keep HO10.out hk11 (fun k_ hk => HI5.out.fresh k_ hk))
   clear hI11 hb11 hk11 HI10 HB10 HV10 HO10
   go_wp2_with fail
   refine (spec_raWithout.calls A8 c8 a q aw _ (Kd.V_reads' HV11.out).2.2 (Kd.V_reads' HV11.out).2.1 H11.out).mono ?_
   rintro e w12 ⟨v12, rfl, ho12, hb12⟩
   have HW := Aside0.mk (Kd.R_lower (Kd.R_mono (Kd.R_bound ho12) (ok' := fun k_ => w11.heap.size ≤ k_) (fun k_ hk => by first | exact hk.2.1 | exact hk.1.2)) HB11.out.size)
   have HV12 := Aside0.mk (Kd.V_old HV11.out hb12)
   have HO12 := Aside0.mk (Kd.V_below HO11.out hb12)
   have HI12 := Aside0.mk (HI11.out.below hb12)
   have HB12 := Aside0.mk (HB11.out.trans (hb12.mono HB11.out.size))
   have HLW := Aside0.mk HB11.out.size
   have HF := Aside0.mk (fun k_ (hk : w11.heap.size ≤ k_) => HI11.out.fresh k_ hk)
   clear ho12 hb12 HI11 HB11 HV11 HO11
   go_wp2_with fail
   refine (spec_l1Cur_pick.calls gx l0 s7 s8 (rest.length : Int) z s9 s10 w _ HI12.out HB12.out H12.out).mono ?_
   rintro e w13 ⟨rfl, hI13, hb13, hk13⟩
   have HB13 := Aside0.mk hb13
   have HV13 := Aside0.mk (Kd.V_keep HV12.out hk13 (fun k_ hk => HI5.out.fresh k_ hk.1))
   have HO13 := Aside0.mk (Kd.V_keep HO12.out hk13 (fun k_ hk => HI5.out.fresh k_ hk))
   have HW13 := Aside0.mk (Kd.R_keep HW.out hk13 (fun k_ hk => HF.out k_ hk))
   clear hI13 hb13 hk13 HI12 HB12 HV12 HO12 HW
   obtain ⟨ad14, rfl, hx14⟩ := Kd.at_int (Kd.V_reads' HO13.out).2.2 z hz.1 hz.2
   have Z0 := eq_true hz.1
   have Z1 := eq_true hz.2
   have Z0' : decide (0 ≤ z) = true := decide_eq_true hz.1
   have Z1' : decide (z < (rest.length : Int)) = true := decide_eq_true hz.2
   go_wp2_with fail
   refine (spec_l1Put.calls k (fun k_ => w11.heap.size ≤ k_) v12 aw (rd rest z) b w _ HB13.out HW13.out H13.out).mono ?_
   rintro e w15 ⟨v15, rfl, ho15, hb15, hk15⟩
   have HB15 := Aside0.mk hb15
   have HV15 := Aside0.mk (Kd.V_kept HV13.out hk15 (fun k_ hk hn => by have h1_ := hk.2; have h2_ : w11.heap.size ≤ k_ := hn; omega))
   have HX15 := Aside0.mk (Kd.V_mono (Kd.R_V (base' := w.heap.size) ho15) (ok' := fun k_ => w.heap.size ≤ k_) (fun k_ hk => hk.elim (fun h_ => Nat.le_trans HLW.out h_) (fun h_ => Nat.le_trans HB13.out.size h_)))
   clear ho15 hb15 hk15 HV13 HO13 HW13 HB13
   go_wp2_with fail
   go_ret3
   exact ⟨_, _, rfl, Kd.V_mono HV15.out (fun k_ hk => Nat.le_trans HL.out hk.1), HX15.out, HB15.out⟩
  ·have h := H5.out
   simp only [if_true] at h
   unfold spec_DrawExchangeOf.two at h
   obtain ⟨⟨a, s5, s6⟩, h3, h⟩ := Option.bind_eq_some_iff.mp h
   obtain ⟨⟨b, s7, s8⟩, h4, h⟩ := Option.bind_eq_some_iff.mp h
   simp only [Option.some.injEq, Prod.mk.injEq] at h
   obtain ⟨rfl, rfl, rfl⟩ := h
   have H6 := Aside0.mk h3
   have H4 := Aside0.mk h4
   clear h3 h4 H5
   go_enter Try.func19, Try.ntmps19
   go_wp2_with (first | ((with_reducible refine gate_dst (N := 14) rfl ?_); refine box_event ?hg (N := 14) ?hd (cs := #[.slice A0 l0.length c0, .int .i64 0, .int .u64 0]) (t := 63) ?hr ?_; (case hd => rfl); (case hg => rfl); (case hr => first | (go_simp; done) | (go_simp; rfl)); intro gx hgx w2 hbox hb2; have HI := Aside0.mk (show IsS63 w w2 gx l0 0 0 from ⟨A0, c0, hbox, by have := HB.out.size; omega, HR.out⟩); have HB2 := Aside0.mk (show Below w.heap.size w w2 from HB.out.trans (hb2.mono HB.out.size)); clear HB; have HB := HB2; clear HB2 hb2 hbox hgx))
   refine (spec_l1Cur_size3.calls gx l0 0 0 7 n kk s1 s2 w _ HI.out HB.out H1.out).mono ?_
   rintro e w3 ⟨rfl, hI3, hb3, _⟩
   have HB3 := Aside0.mk hb3
   have HI3 := Aside0.mk hI3
   clear hb3 hI3 HI HB
   go_wp2_with fail
   refine (spec_chSize.calls n kk true _ H2.out).mono ?_
   rintro e w4 ⟨rfl, hd⟩
   have HB4 := Aside0.mk (HB3.out.trans ((Drawn0.below hd).mono HB3.out.size))
   have HI4 := Aside0.mk (HI3.out.below (Drawn0.below hd))
   clear hd HI3 HB3
   go_wp2_with fail
   refine (spec_l1Cur_one.calls gx l0 s1 s2 3 true s3 s4 w _ HI4.out HB4.out H3.out).mono ?_
   rintro e w5 ⟨rfl, hI5, hb5, _⟩
   have HB5 := Aside0.mk hb5
   have HI5 := Aside0.mk hI5
   clear hb5 hI5 HI4 HB4
   go_wp2_with fail
   refine (spec_l1Cur_combination.calls k gx l0 s3 s4 n a s5 s6 w _ HI5.out HB5.out H6.out).mono ?_
   rintro e w20 ⟨v20, rfl, ho20, hI20, hb20, hk20⟩
   have HV20 := Aside0.mk (Kd.V_mono (Kd.R_V (base' := w.heap.size) (Kd.R_bound ho20)) (ok' := fun k_ => w5.heap.size ≤ k_) (fun k_ hk => by first | exact hk.2.1 | exact hk.1.2))
   have HI20 := Aside0.mk hI20
   have HB20 := Aside0.mk hb20
   clear ho20 hI20 hb20 hk20
   go_wp2_with fail
   refine (spec_l1Cur_combination.calls k gx l0 s5 s6 n b s7 s8 w _ HI20.out HB20.out H4.out).mono ?_
   rintro e w21 ⟨v21, rfl, ho21, hI21, hb21, hk21⟩
   have HV21 := Aside0.mk (Kd.V_mono (Kd.R_V (base' := w.heap.size) (Kd.R_bound ho21)) (ok' := fun k_ => w20.heap.size ≤ k_) (fun k_ hk => by first | exact hk.2.1 | exact hk.1.2))
   have HV22 := Aside0.mk (Kd.V_keep HV20.out hk21 (fun k_ hk => HI5.out.fresh k_ hk))
   have HB21 := Aside0.mk hb21
   clear ho21 hI21 hb21 hk21
   go_wp2
   go_ret3
   exact ⟨_, _, rfl, Kd.V_mono HV22.out (fun k_ hk => Nat.le_trans HB5.out.size hk), Kd.V_mono HV21.out (fun k_ hk => Nat.le_trans HB20.out.size hk), HB21.out⟩
def impl_ExchangeOf.f (k : Nat) (a0 : Int) (l1 : List Int) (l2 : List Int) : Option (Int × Int × Bool) := (impl_IsCombination.f k a0 l1).bind fun t276 => (if t276 = true then ((impl_IsCombination.f k a0 l2).bind fun t277 => (if t277 = true then (if (l1.length : Int) = (l2.length : Int) then ((impl_exchange.f k l1 l2).bind fun bt278 => (some (bt278.1, bt278.2.1, bt278.2.2))) else (some (0, 0, false))) else (some (0, 0, false)))) else (some (0, 0, false)))
theorem impl_ExchangeOf.mono : ∀ a0 a1 a2 k, LeO (impl_ExchangeOf.f k a0 a1 a2) (impl_ExchangeOf.f (k + 1) a0 a1 a2) := by
 intro a0 a1 a2 k
 unfold impl_ExchangeOf.f
 repeat' first
   | (with_reducible exact impl_IsCombination.mono _ _ _)
   | (with_reducible exact impl_exchange.mono _ _ _)
   | (with_reducible exact LeO.refl _)
   | (with_reducible exact LeO.none _)
   | (with_reducible refine LeO.ite ?_ ?_)
   | (with_reducible refine LeO.bind ?_ (fun _ => ?_))
   | exact impl_IsCombination.mono _ _ _
   | exact impl_exchange.mono _ _ _
   | exact LeO.none _
   | refine LeO.ite ?_ ?_
   | refine LeO.bind ?_ (fun _ => ?_)
set_option maxHeartbeats 8000000 in
set_option maxRecDepth 100000 in
theorem impl_ExchangeOf.calls (k : Nat) (a0 : Int) (A1 : Option Addr) (c1 : Nat) (l1 : List Int) (A2 : Option Addr) (c2 : Nat) (l2 : List Int) (r1 : Int) (r2 : Int) (r3 : Bool) (w : World) (hr1 : Kd.C (Kd.int .i64) w A1 l1.length l1) (hc1 : l1.length ≤ c1) (hr2 : Kd.C (Kd.int .i64) w A2 l2.length l2) (hc2 : l2.length ≤ c2) (h : impl_ExchangeOf.f k a0 l1 l2 = some (r1, r2, r3)) :
  Calls Try.prog 20 #[.int .i64 a0, .slice A1 l1.length c1, .slice A2 l2.length c2] w fun e w' => e = .returned (.tuple #[.int .i64 r1, .int .i64 r2, .bool r3]) ∧ Below w.heap.size w w' := by
 have HR1 := Aside0.mk hr1
 have HC1 := Aside0.mk hc1
 clear hr1 hc1
 have HR2 := Aside0.mk hr2
 have HC2 := Aside0.mk hc2
 clear hr2 hc2
 have HB := Aside0.mk (Below.refl w.heap.size w)
 have H : ((impl_IsCombination.f k a0 l1).bind fun t276 => (if t276 = true then ((impl_IsCombination.f k a0 l2).bind fun t277 => (if t277 = true then (if (l1.length : Int) = (l2.length : Int) then ((impl_exchange.f k l1 l2).bind fun bt278 => (some (bt278.1, bt278.2.1, bt278.2.2))) else (some (0, 0, false))) else (some (0, 0, false)))) else (some (0, 0, false)))) = some (r1, r2, r3) := h
 clear h
 replace H := Option.bind_eq_some_iff.mp H
 obtain ⟨t276, A40, H⟩ := H
 replace H : (if t276 = true then ((impl_IsCombination.f k a0 l2).bind fun t277 => (if t277 = true then (if (l1.length : Int) = (l2.length : Int) then ((impl_exchange.f k l1 l2).bind fun bt278 => (some (bt278.1, bt278.2.1, bt278.2.2))) else (some (0, 0, false))) else (some (0, 0, false)))) else (some (0, 0, false))) = some (r1, r2, r3) := H
 have A4 := Aside0.mk A40
 clear A40
 by_cases c5 : t276 = true
 ·subst c5
  have H1 : ((impl_IsCombination.f k a0 l2).bind fun t277 => (if t277 = true then (if (l1.length : Int) = (l2.length : Int) then ((impl_exchange.f k l1 l2).bind fun bt278 => (some (bt278.1, bt278.2.1, bt278.2.2))) else (some (0, 0, false))) else (some (0, 0, false)))) = some (r1, r2, r3) := by rw [if_pos rfl] at H; exact H
  clear H
  have H := H1
  clear H1
  replace H := Option.bind_eq_some_iff.mp H
  obtain ⟨t277, A60, H⟩ := H
  replace H : (if t277 = true then (if (l1.length : Int) = (l2.length : Int) then ((impl_exchange.f k l1 l2).bind fun bt278 => (some (bt278.1, bt278.2.1, bt278.2.2))) else (some (0, 0, false))) else (some (0, 0, false))) = some (r1, r2, r3) := H
  have A6 := Aside0.mk A60
  clear A60
  by_cases c7 : t277 = true
  ·subst c7
   have H1 : (if (l1.length : Int) = (l2.length : Int) then ((impl_exchange.f k l1 l2).bind fun bt278 => (some (bt278.1, bt278.2.1, bt278.2.2))) else (some (0, 0, false))) = some (r1, r2, r3) := by rw [if_pos rfl] at H; exact H
   clear H
   have H := H1
   clear H1
   by_cases c8 : (l1.length : Int) = (l2.length : Int)
   ·rw [if_pos c8] at H
    have c8b0 : ((l1.length : Int) == (l2.length : Int)) = true := beq_iff_eq.mpr c8
    have c8b1 : ((l1.length : Int) != (l2.length : Int)) = false := bne_eq_false_iff_eq.mpr c8
    have c8b2 : (l1.length == l2.length) = true := by first | simpa using c8 | (simp at c8 ⊢; omega)
    clear c8
    replace H := Option.bind_eq_some_iff.mp H
    obtain ⟨⟨t278, t279, t280⟩, A90, H⟩ := H
    replace H : (some (t278, t279, t280)) = some (r1, r2, r3) := H
    have A9 := Aside0.mk A90
    clear A90
    simp only [Option.some.injEq, Prod.mk.injEq] at H
    obtain ⟨rfl, rfl, rfl⟩ := H
    go_enter Try.func20, Try.ntmps20
    go_wp2_with (first | ((with_reducible refine gate_callee (f := 60) rfl ?_); refine goesL_ (some 11) rfl rfl Try.func60 (by kernel_rfl) rfl #[.int .i64 a0, .slice A1 l1.length c1] rfl (by (try simp only [List.map_toArray, List.map_cons, List.map_nil]); first | done | rfl | (simp only [List.length_drop, List.length_take]; rfl)) ?_; (with_reducible refine (impl_IsCombination.calls k a0 _ _ l1 true _ ?side1 ?side2 A4.out).mono ?_); (case side1 => repeat (first | exact HR1.out | (with_reducible refine Kd.C_alloc ?_ _) | (with_reducible refine Kd.C_drewN ?_ _) | (with_reducible refine Kd.C_drew ?_))); (case side2 => exact HC1.out); rintro e w' ⟨rfl, ⟨nd, rfl⟩⟩; refine ⟨_, rfl, ?_⟩) | (go_at_call 60; (with_reducible refine (impl_IsCombination.calls k a0 _ _ l2 true _ ?side1 ?side2 A6.out).mono ?_); (case side1 => repeat (first | exact HR2.out | (with_reducible refine Kd.C_alloc ?_ _) | (with_reducible refine Kd.C_drewN ?_ _) | (with_reducible refine Kd.C_drew ?_))); (case side2 => exact HC2.out); rintro e w' ⟨rfl, ⟨nd, rfl⟩⟩) | ((with_reducible refine gate_callee (f := 39) rfl ?_); refine goesL_ (some 28) rfl rfl Try.func39 (by kernel_rfl) rfl #[.slice A1 l1.length c1, .slice A2 l2.length c2] rfl (by (try simp only [List.map_toArray, List.map_cons, List.map_nil]); first | done | rfl | (simp only [List.length_drop, List.length_take]; rfl)) ?_; (with_reducible refine (impl_exchange.calls k _ _ l1 _ _ l2 t278 t279 t280 _ ?side1 ?side2 ?side3 ?side4 A9.out).mono ?_); (case side1 => repeat (first | exact HR1.out | (with_reducible refine Kd.C_alloc ?_ _) | (with_reducible refine Kd.C_drewN ?_ _) | (with_reducible refine Kd.C_drew ?_))); (case side2 => exact HC1.out); (case side3 => repeat (first | exact HR2.out | (with_reducible refine Kd.C_alloc ?_ _) | (with_reducible refine Kd.C_drewN ?_ _) | (with_reducible refine Kd.C_drew ?_))); (case side4 => exact HC2.out); rintro e w10 ⟨rfl, hb⟩; refine ⟨_, rfl, ?_⟩; have n0_ := Aside0.mk (below_step (by repeat (first | (with_reducible first | exact HB.out | apply below_alloc | apply pw_below_drewN | apply below_drew1) | exact HB.out)) hb); clear HB; have HB := n0_; clear n0_; (try clear hb); (try clear hb2); (try clear hk); (try clear hi)))
    go_ret3
    exact ⟨by first | rfl | (simp [errW_none, errW_some] <;> rfl) | (simp [*, errW_none, errW_some] <;> rfl), by repeat (first | (with_reducible first | exact HB.out | apply below_alloc | apply pw_below_drewN | apply below_drew1) | exact HB.out)⟩
   ·rw [if_neg c8] at H
    have c8b0 : ((l1.length : Int) == (l2.length : Int)) = false := beq_eq_false_iff_ne.mpr c8
    have c8b1 : ((l1.length : Int) != (l2.length : Int)) = true := bne_iff_ne.mpr c8
    have c8b2 : (l1.length == l2.length) = false := by first | simpa using c8 | (simp at c8 ⊢; omega)
    simp only [Option.some.injEq, Prod.mk.injEq] at H
    obtain ⟨rfl, rfl, rfl⟩ := H
    go_enter Try.func20, Try.ntmps20
    go_wp2_with (first | ((with_reducible refine gate_callee (f := 60) rfl ?_); refine goesL_ (some 11) rfl rfl Try.func60 (by kernel_rfl) rfl #[.int .i64 a0, .slice A1 l1.length c1] rfl (by (try simp only [List.map_toArray, List.map_cons, List.map_nil]); first | done | rfl | (simp only [List.length_drop, List.length_take]; rfl)) ?_; (with_reducible refine (impl_IsCombination.calls k a0 _ _ l1 true _ ?side1 ?side2 A4.out).mono ?_); (case side1 => repeat (first | exact HR1.out | (with_reducible refine Kd.C_alloc ?_ _) | (with_reducible refine Kd.C_drewN ?_ _) | (with_reducible refine Kd.C_drew ?_))); (case side2 => exact HC1.out); rintro e w' ⟨rfl, ⟨nd, rfl⟩⟩; refine ⟨_, rfl, ?_⟩) | (go_at_call 60; (with_reducible refine (impl_IsCombination.calls k a0 _ _ l2 true _ ?side1 ?side2 A6.out).mono ?_); (case side1 => repeat (first | exact HR2.out | (with_reducible refine Kd.C_alloc ?_ _) | (with_reducible refine Kd.C_drewN ?_ _) | (with_reducible refine Kd.C_drew ?_))); (case side2 => exact HC2.out); rintro e w' ⟨rfl, ⟨nd, rfl⟩⟩))
    go_ret3
    exact ⟨by first | rfl | (simp [errW_none, errW_some] <;> rfl) | (simp [*, errW_none, errW_some] <;> rfl), by repeat (first | (with_reducible first | exact HB.out | apply below_alloc | apply pw_below_drewN | apply below_drew1) | exact HB.out)⟩
  ·replace c7 := Bool.eq_false_iff.mpr c7
   subst c7
   have H1 : (some (0, 0, false)) = some (r1, r2, r3) := by rw [if_neg (show ¬ (false = true) by decide)] at H; exact H
   clear H
   have H := H1
   clear H1
   simp only [Option.some.injEq, Prod.mk.injEq] at H
   obtain ⟨rfl, rfl, rfl⟩ := H
   go_enter Try.func20, Try.ntmps20
   go_wp2_with (first | ((with_reducible refine gate_callee (f := 60) rfl ?_); refine goesL_ (some 11) rfl rfl Try.func60 (by kernel_rfl) rfl #[.int .i64 a0, .slice A1 l1.length c1] rfl (by (try simp only [List.map_toArray, List.map_cons, List.map_nil]); first | done | rfl | (simp only [List.length_drop, List.length_take]; rfl)) ?_; (with_reducible refine (impl_IsCombination.calls k a0 _ _ l1 true _ ?side1 ?side2 A4.out).mono ?_); (case side1 => repeat (first | exact HR1.out | (with_reducible refine Kd.C_alloc ?_ _) | (with_reducible refine Kd.C_drewN ?_ _) | (with_reducible refine Kd.C_drew ?_))); (case side2 => exact HC1.out); rintro e w' ⟨rfl, ⟨nd, rfl⟩⟩; refine ⟨_, rfl, ?_⟩) | (go_at_call 60; (with_reducible refine (impl_IsCombination.calls k a0 _ _ l2 false _ ?side1 ?side2 A6.out).mono ?_); (case side1 => repeat (first | exact HR2.out | (with_reducible refine Kd.C_alloc ?_ _) | (with_reducible refine Kd.C_drewN ?_ _) | (with_reducible refine Kd.C_drew ?_))); (case side2 => exact HC2.out); rintro e w' ⟨rfl, ⟨nd, rfl⟩⟩))
   go_ret3
   exact ⟨by first | rfl | (simp [errW_none, errW_some] <;> rfl) | (simp [*, errW_none, errW_some] <;> rfl), by repeat (first | (with_reducible first | exact HB.out | apply below_alloc | apply pw_below_drewN | apply below_drew1) | exact HB.out)⟩
 ·replace c5 := Bool.eq_false_iff.mpr c5
  subst c5
  have H1 : (some (0, 0, false)) = some (r1, r2, r3) := by rw [if_neg (show ¬ (false = true) by decide)] at H; exact H
  clear H
  have H := H1
  clear H1
  simp only [Option.some.injEq, Prod.mk.injEq] at H
  obtain ⟨rfl, rfl, rfl⟩ := H
  go_enter Try.func20, Try.ntmps20
  go_wp2_with (first | ((with_reducible refine gate_callee (f := 60) rfl ?_); refine goesL_ (some 11) rfl rfl Try.func60 (by kernel_rfl) rfl #[.int .i64 a0, .slice A1 l1.length c1] rfl (by (try simp only [List.map_toArray, List.map_cons, List.map_nil]); first | done | rfl | (simp only [List.length_drop, List.length_take]; rfl)) ?_; (with_reducible refine (impl_IsCombination.calls k a0 _ _ l1 false _ ?side1 ?side2 A4.out).mono ?_); (case side1 => repeat (first | exact HR1.out | (with_reducible refine Kd.C_alloc ?_ _) | (with_reducible refine Kd.C_drewN ?_ _) | (with_reducible refine Kd.C_drew ?_))); (case side2 => exact HC1.out); rintro e w' ⟨rfl, ⟨nd, rfl⟩⟩; refine ⟨_, rfl, ?_⟩))
  go_ret3
  exact ⟨by first | rfl | (simp [errW_none, errW_some] <;> rfl) | (simp [*, errW_none, errW_some] <;> rfl), by repeat (first | (with_reducible first | exact HB.out | apply below_alloc | apply pw_below_drewN | apply below_drew1) | exact HB.out)⟩
def spec_l1Rising.l0 : Nat → List Int → Int → Int → List Int → Int → Int → Option (Bool)
 | 0, _, _, _, _, _, _ => none
 | k + 1, x0, x1, x2, x9, x10, x11 => if x11 < x10 then (if 0 ≤ x11 then (if x11 < (x9.length : Int) then ((spec_l1In.f (rd x9 x11) x1 x2).bind fun t282 => (if t282 = true then (if x11 > 0 then (if 0 ≤ (wrap64 (x11 - 1)) then (if (wrap64 (x11 - 1)) < (x0.length : Int) then (if (rd x0 (wrap64 (x11 - 1))) ≥ (rd x9 x11) then (some false) else (spec_l1Rising.l0 k x0 x1 x2 x9 x10 (wrap64 (x11 + 1)))) else (none)) else (none)) else (spec_l1Rising.l0 k x0 x1 x2 x9 x10 (wrap64 (x11 + 1)))) else (some false))) else (none)) else (none)) else (some true)
def spec_l1Rising.f (k : Nat) (l0 : List Int) (a1 : Int) (a2 : Int) : Option (Bool) := spec_l1Rising.l0 k l0 a1 a2 l0 (l0.length : Int) 0
theorem spec_l1Rising.mono_l : ∀ k, (∀ y0 y1 y2 y3 y4 y5, LeO (spec_l1Rising.l0 k y0 y1 y2 y3 y4 y5) (spec_l1Rising.l0 (k + 1) y0 y1 y2 y3 y4 y5))
 | 0 => fun _ _ _ _ _ _ r h => by simp [spec_l1Rising.l0] at h
 | k + 1 => by
  have ih0 := spec_l1Rising.mono_l k
  ·intro y0 y1 y2 y3 y4 y5
   unfold spec_l1Rising.l0
   repeat' first
   | (with_reducible exact ih0 _ _ _ _ _ _)
   | (with_reducible exact LeO.refl _)
   | (with_reducible exact LeO.none _)
   | (with_reducible refine LeO.ite ?_ ?_)
   | (with_reducible refine LeO.bind ?_ (fun _ => ?_))
   | exact ih0 _ _ _ _ _ _
   | exact LeO.none _
   | refine LeO.ite ?_ ?_
   | refine LeO.bind ?_ (fun _ => ?_)
theorem spec_l1Rising.mono : ∀ a0 a1 a2 k, LeO (spec_l1Rising.f k a0 a1 a2) (spec_l1Rising.f (k + 1) a0 a1 a2) := by
 intro a0 a1 a2 k
 have ih0 := spec_l1Rising.mono_l k
 unfold spec_l1Rising.f
 repeat' first
   | (with_reducible exact ih0 _ _ _ _ _ _)
   | (with_reducible exact LeO.refl _)
   | (with_reducible exact LeO.none _)
   | (with_reducible refine LeO.ite ?_ ?_)
   | (with_reducible refine LeO.bind ?_ (fun _ => ?_))
   | exact ih0 _ _ _ _ _ _
   | exact LeO.none _
   | refine LeO.ite ?_ ?_
   | refine LeO.bind ?_ (fun _ => ?_)
set_option maxHeartbeats 8000000 in
set_option maxRecDepth 100000 in
theorem spec_l1Rising.calls (k : Nat) (A0 : Option Addr) (c0 : Nat) (l0 : List Int) (a1 : Int) (a2 : Int) (r : Bool) (w : World) (hr0 : Kd.C (Kd.int .i64) w A0 l0.length l0) (hc0 : l0.length ≤ c0) (h : spec_l1Rising.f k l0 a1 a2 = some r) :
  Calls Try.prog 82 #[.slice A0 l0.length c0, .int .i64 a1, .int .i64 a2] w fun e w' => e = .returned (.bool r) ∧ Drawn0 w w' := by
 have HR0 := Aside0.mk hr0
 have HC0 := Aside0.mk hc0
 clear hr0 hc0
 have H : (spec_l1Rising.l0 k l0 a1 a2 l0 (l0.length : Int) 0) = some r := h
 clear h
 have H' := Aside0.mk H
 clear H
 go_enter Try.func82, Try.ntmps82
 go_wp2
 go_loopg [11] k (fun kq v11 w' => ∃ (x11_1 : Int), v11 = .int .i64 x11_1 ∧ Aside0 (spec_l1Rising.l0 kq l0 a1 a2 l0 (l0.length : Int) x11_1 = some r) ∧ Aside0 (kq ≤ k) ∧ Drawn0 w w')
 case atStart => exact ⟨(0), (by first | rfl | (simp; done) | (simp [*]; done)), H', ⟨Nat.le_refl _⟩, by repeat (first | exact Drawn0.refl _ | apply Drawn0.step)⟩
 case round =>
  clear H'
  try clear p2
  obtain ⟨x11_1, rfl, HA, HK1, ⟨m1, rfl⟩⟩ := hrel
  cases gk with
  | zero => exact absurd HA.out (by simp [spec_l1Rising.l0])
  | succ k1 =>
   have H := HA.out
   clear HA
   simp only [spec_l1Rising.l0] at H
   by_cases c4 : x11_1 < (l0.length : Int)
   ·rw [if_pos c4] at H
    have c4b0 : decide (x11_1 < (l0.length : Int)) = true := decide_eq_true c4
    clear c4
    by_cases c5 : 0 ≤ x11_1
    ·rw [if_pos c5] at H
     have c5b0 : decide (0 ≤ x11_1) = true := decide_eq_true c5
     clear c5
     by_cases c6 : x11_1 < (l0.length : Int)
     ·rw [if_pos c6] at H
      have c6b0 : decide (x11_1 < (l0.length : Int)) = true := decide_eq_true c6
      clear c6
      replace H := Option.bind_eq_some_iff.mp H
      obtain ⟨t282, A70, H⟩ := H
      replace H : (if t282 = true then (if x11_1 > 0 then (if 0 ≤ (wrap64 (x11_1 - 1)) then (if (wrap64 (x11_1 - 1)) < (l0.length : Int) then (if (rd l0 (wrap64 (x11_1 - 1))) ≥ (rd l0 x11_1) then (some false) else (spec_l1Rising.l0 k1 l0 a1 a2 l0 (l0.length : Int) (wrap64 (x11_1 + 1)))) else (none)) else (none)) else (spec_l1Rising.l0 k1 l0 a1 a2 l0 (l0.length : Int) (wrap64 (x11_1 + 1)))) else (some false)) = some r := H
      have A7 := Aside0.mk A70
      clear A70
      by_cases c8 : t282 = true
      ·subst c8
       have H1 : (if x11_1 > 0 then (if 0 ≤ (wrap64 (x11_1 - 1)) then (if (wrap64 (x11_1 - 1)) < (l0.length : Int) then (if (rd l0 (wrap64 (x11_1 - 1))) ≥ (rd l0 x11_1) then (some false) else (spec_l1Rising.l0 k1 l0 a1 a2 l0 (l0.length : Int) (wrap64 (x11_1 + 1)))) else (none)) else (none)) else (spec_l1Rising.l0 k1 l0 a1 a2 l0 (l0.length : Int) (wrap64 (x11_1 + 1)))) = some r := by rw [if_pos rfl] at H; exact H
       clear H
       have H := H1
       clear H1
       by_cases c9 : x11_1 > 0
       ·rw [if_pos c9] at H
        have c9b0 : decide (0 < x11_1) = true := decide_eq_true c9
        clear c9
        obtain ⟨ji10, hji10⟩ : ∃ j_ : Int, (wrap64 (x11_1 - 1)) = j_ := ⟨_, rfl⟩
        replace H : (if 0 ≤ (ji10) then (if (ji10) < (l0.length : Int) then (if (rd l0 (ji10)) ≥ (rd l0 x11_1) then (some false) else (spec_l1Rising.l0 k1 l0 a1 a2 l0 (l0.length : Int) (wrap64 (x11_1 + 1)))) else (none)) else (none)) = some r := by first | (rw [hji10] at H; exact H) | (simp only [hji10] at H ⊢; exact H)
        (try rw [hji10] at A7)
        have hji10w : (IntKind.i64.wrap (x11_1 - 1)) = ji10 := (i64_w _).trans hji10
        by_cases c11 : 0 ≤ (ji10)
        ·rw [if_pos c11] at H
         have c11b0 : decide (0 ≤ (ji10)) = true := decide_eq_true c11
         clear c11
         by_cases c12 : (ji10) < (l0.length : Int)
         ·rw [if_pos c12] at H
          have c12b0 : decide ((ji10) < (l0.length : Int)) = true := decide_eq_true c12
          clear c12
          by_cases c13 : (rd l0 (ji10)) ≥ (rd l0 x11_1)
          ·rw [if_pos c13] at H
           have c13b0 : decide ((rd l0 x11_1) ≤ (rd l0 (ji10))) = true := decide_eq_true c13
           clear c13
           obtain rfl := Option.some.inj H
           have p281 : 0 ≤ (x11_1 : Int) := of_decide_eq_true (by first | (with_reducible assumption) | assumption)
           have q281 : x11_1 < (l0.length : Int) := of_decide_eq_true (by first | (with_reducible assumption) | assumption)
           obtain ⟨ad281, e281, hx281_0⟩ := Kd.at_int HR0.out x11_1 p281 q281
           cases e281
           replace p281 := eq_true p281
           replace q281 := eq_true q281
           go_wp2_with (first | ((with_reducible refine gate_callee (f := 31) rfl ?_); refine goesL_ (some 19) rfl rfl Try.func31 (by kernel_rfl) rfl #[.int .i64 (rd l0 x11_1), .int .i64 a1, .int .i64 a2] rfl (by (try simp only [List.map_toArray, List.map_cons, List.map_nil]); first | done | rfl | (simp only [List.length_drop, List.length_take]; rfl)) ?_; (with_reducible refine (spec_l1In.calls (rd l0 x11_1) a1 a2 true _ A7.out).mono ?_); rintro e w' ⟨rfl, ⟨nd, rfl⟩⟩; refine ⟨_, rfl, ?_⟩; have p283 : 0 ≤ ((ji10) : Int) := of_decide_eq_true (by first | (with_reducible assumption) | assumption); have q283 : (ji10) < (l0.length : Int) := of_decide_eq_true (by first | (with_reducible assumption) | assumption); obtain ⟨ad283, e283, hx283_0⟩ := Kd.at_int HR0.out (ji10) p283 q283; obtain rfl : ad281 = ad283 := (by injection e283); replace p283 := eq_true p283; replace q283 := eq_true q283))
           go_ret
           exact ⟨by first | rfl | (simp; done) | (simp only [← hji10] <;> (first | rfl | simp)) | (simp [*]; done), by repeat (first | exact Drawn0.refl _ | apply Drawn0.step)⟩
          ·rw [if_neg c13] at H
           have c13b0 : decide ((rd l0 x11_1) ≤ (rd l0 (ji10))) = false := decide_eq_false c13
           clear c13
           have H' := Aside0.mk H
           clear H
           have p281 : 0 ≤ (x11_1 : Int) := of_decide_eq_true (by first | (with_reducible assumption) | assumption)
           have q281 : x11_1 < (l0.length : Int) := of_decide_eq_true (by first | (with_reducible assumption) | assumption)
           obtain ⟨ad281, e281, hx281_0⟩ := Kd.at_int HR0.out x11_1 p281 q281
           cases e281
           replace p281 := eq_true p281
           replace q281 := eq_true q281
           go_wp2_with (first | ((with_reducible refine gate_callee (f := 31) rfl ?_); refine goesL_ (some 19) rfl rfl Try.func31 (by kernel_rfl) rfl #[.int .i64 (rd l0 x11_1), .int .i64 a1, .int .i64 a2] rfl (by (try simp only [List.map_toArray, List.map_cons, List.map_nil]); first | done | rfl | (simp only [List.length_drop, List.length_take]; rfl)) ?_; (with_reducible refine (spec_l1In.calls (rd l0 x11_1) a1 a2 true _ A7.out).mono ?_); rintro e w' ⟨rfl, ⟨nd, rfl⟩⟩; refine ⟨_, rfl, ?_⟩; have p283 : 0 ≤ ((ji10) : Int) := of_decide_eq_true (by first | (with_reducible assumption) | assumption); have q283 : (ji10) < (l0.length : Int) := of_decide_eq_true (by first | (with_reducible assumption) | assumption); obtain ⟨ad283, e283, hx283_0⟩ := Kd.at_int HR0.out (ji10) p283 q283; obtain rfl : ad281 = ad283 := (by injection e283); replace p283 := eq_true p283; replace q283 := eq_true q283))
           go_roundg k1
           case measure => have := HK1.out; omega
           case rel => exact ⟨(wrap64 (x11_1 + 1)), (by first | rfl | (simp; done) | (simp [*]; done)), H', ⟨by have := HK1.out; omega⟩, by repeat (first | exact Drawn0.refl _ | apply Drawn0.step)⟩
         ·rw [if_neg c12] at H
          exact absurd H (by simp)
        ·rw [if_neg c11] at H
         exact absurd H (by simp)
       ·rw [if_neg c9] at H
        have c9b0 : decide (0 < x11_1) = false := decide_eq_false c9
        clear c9
        have H' := Aside0.mk H
        clear H
        have p281 : 0 ≤ (x11_1 : Int) := of_decide_eq_true (by first | (with_reducible assumption) | assumption)
        have q281 : x11_1 < (l0.length : Int) := of_decide_eq_true (by first | (with_reducible assumption) | assumption)
        obtain ⟨ad281, e281, hx281_0⟩ := Kd.at_int HR0.out x11_1 p281 q281
        cases e281
        replace p281 := eq_true p281
        replace q281 := eq_true q281
        go_wp2_with (first | ((with_reducible refine gate_callee (f := 31) rfl ?_); refine goesL_ (some 19) rfl rfl Try.func31 (by kernel_rfl) rfl #[.int .i64 (rd l0 x11_1), .int .i64 a1, .int .i64 a2] rfl (by (try simp only [List.map_toArray, List.map_cons, List.map_nil]); first | done | rfl | (simp only [List.length_drop, List.length_take]; rfl)) ?_; (with_reducible refine (spec_l1In.calls (rd l0 x11_1) a1 a2 true _ A7.out).mono ?_); rintro e w' ⟨rfl, ⟨nd, rfl⟩⟩; refine ⟨_, rfl, ?_⟩))
        go_roundg k1
        case measure => have := HK1.out; omega
        case rel => exact ⟨(wrap64 (x11_1 + 1)), (by first | rfl | (simp; done) | (simp [*]; done)), H', ⟨by have := HK1.out; omega⟩, by repeat (first | exact Drawn0.refl _ | apply Drawn0.step)⟩
      ·replace c8 := Bool.eq_false_iff.mpr c8
       subst c8
       have H1 : (some false) = some r := by rw [if_neg (show ¬ (false = true) by decide)] at H; exact H
       clear H
       have H := H1
       clear H1
       obtain rfl := Option.some.inj H
       have p281 : 0 ≤ (x11_1 : Int) := of_decide_eq_true (by first | (with_reducible assumption) | assumption)
       have q281 : x11_1 < (l0.length : Int) := of_decide_eq_true (by first | (with_reducible assumption) | assumption)
       obtain ⟨ad281, e281, hx281_0⟩ := Kd.at_int HR0.out x11_1 p281 q281
       cases e281
       replace p281 := eq_true p281
       replace q281 := eq_true q281
       go_wp2_with (first | ((with_reducible refine gate_callee (f := 31) rfl ?_); refine goesL_ (some 19) rfl rfl Try.func31 (by kernel_rfl) rfl #[.int .i64 (rd l0 x11_1), .int .i64 a1, .int .i64 a2] rfl (by (try simp only [List.map_toArray, List.map_cons, List.map_nil]); first | done | rfl | (simp only [List.length_drop, List.length_take]; rfl)) ?_; (with_reducible refine (spec_l1In.calls (rd l0 x11_1) a1 a2 false _ A7.out).mono ?_); rintro e w' ⟨rfl, ⟨nd, rfl⟩⟩; refine ⟨_, rfl, ?_⟩))
       go_ret
       exact ⟨by first | rfl | (simp; done) | (simp [*]; done), by repeat (first | exact Drawn0.refl _ | apply Drawn0.step)⟩
     ·rw [if_neg c6] at H
      exact absurd H (by simp)
    ·rw [if_neg c5] at H
     exact absurd H (by simp)
   ·rw [if_neg c4] at H
    have c4b0 : decide (x11_1 < (l0.length : Int)) = false := decide_eq_false c4
    clear c4
    obtain rfl := Option.some.inj H
    go_wp2
    go_ret
    exact ⟨by first | rfl | (simp; done) | (simp [*]; done), by repeat (first | exact Drawn0.refl _ | apply Drawn0.step)⟩
def spec_raCombination.f (k : Nat) (a0 : Int) (l1 : List Int) : Option (Bool) := (spec_raItems.f a0).bind fun t284 => (if t284 = true then (if (l1.length : Int) ≤ a0 then ((spec_l1Rising.f k l1 0 (wrap64 (a0 - 1))).bind fun t285 => (some t285)) else (some false)) else (some false))
theorem spec_raCombination.mono : ∀ a0 a1 k, LeO (spec_raCombination.f k a0 a1) (spec_raCombination.f (k + 1) a0 a1) := by
 intro a0 a1 k
 unfold spec_raCombination.f
 repeat' first
   | (with_reducible exact spec_l1Rising.mono _ _ _ _)
   | (with_reducible exact LeO.refl _)
   | (with_reducible exact LeO.none _)
   | (with_reducible refine LeO.ite ?_ ?_)
   | (with_reducible refine LeO.bind ?_ (fun _ => ?_))
   | exact spec_l1Rising.mono _ _ _ _
   | exact LeO.none _
   | refine LeO.ite ?_ ?_
   | refine LeO.bind ?_ (fun _ => ?_)
set_option maxHeartbeats 8000000 in
set_option maxRecDepth 100000 in
theorem spec_raCombination.calls (k : Nat) (a0 : Int) (A1 : Option Addr) (c1 : Nat) (l1 : List Int) (r : Bool) (w : World) (hr1 : Kd.C (Kd.int .i64) w A1 l1.length l1) (hc1 : l1.length ≤ c1) (h : spec_raCombination.f k a0 l1 = some r) :
  Calls Try.prog 61 #[.int .i64 a0, .slice A1 l1.length c1] w fun e w' => e = .returned (.bool r) ∧ Drawn0 w w' := by
 have HR1 := Aside0.mk hr1
 have HC1 := Aside0.mk hc1
 clear hr1 hc1
 have H : ((spec_raItems.f a0).bind fun t284 => (if t284 = true then (if (l1.length : Int) ≤ a0 then ((spec_l1Rising.f k l1 0 (wrap64 (a0 - 1))).bind fun t285 => (some t285)) else (some false)) else (some false))) = some r := h
 clear h
 replace H := Option.bind_eq_some_iff.mp H
 obtain ⟨t284, A30, H⟩ := H
 replace H : (if t284 = true then (if (l1.length : Int) ≤ a0 then ((spec_l1Rising.f k l1 0 (wrap64 (a0 - 1))).bind fun t285 => (some t285)) else (some false)) else (some false)) = some r := H
 have A3 := Aside0.mk A30
 clear A30
 by_cases c4 : t284 = true
 ·subst c4
  have H1 : (if (l1.length : Int) ≤ a0 then ((spec_l1Rising.f k l1 0 (wrap64 (a0 - 1))).bind fun t285 => (some t285)) else (some false)) = some r := by rw [if_pos rfl] at H; exact H
  clear H
  have H := H1
  clear H1
  by_cases c5 : (l1.length : Int) ≤ a0
  ·rw [if_pos c5] at H
   have c5b0 : decide ((l1.length : Int) ≤ a0) = true := decide_eq_true c5
   clear c5
   replace H := Option.bind_eq_some_iff.mp H
   obtain ⟨t285, A60, H⟩ := H
   replace H : (some t285) = some r := H
   have A6 := Aside0.mk A60
   clear A60
   obtain rfl := Option.some.inj H
   go_enter Try.func61, Try.ntmps61
   go_wp2_with (first | ((with_reducible refine gate_callee (f := 75) rfl ?_); refine goesL_ (some 6) rfl rfl Try.func75 (by kernel_rfl) rfl #[.int .i64 a0] rfl (by (try simp only [List.map_toArray, List.map_cons, List.map_nil]); first | done | rfl | (simp only [List.length_drop, List.length_take]; rfl)) ?_; (with_reducible refine (spec_raItems.calls a0 true _ A3.out).mono ?_); rintro e w' ⟨rfl, ⟨nd, rfl⟩⟩; refine ⟨_, rfl, ?_⟩) | (go_at_call 82; (with_reducible refine (spec_l1Rising.calls k _ _ l1 0 (wrap64 (a0 - 1)) t285 _ ?side1 ?side2 A6.out).mono ?_); (case side1 => repeat (first | exact HR1.out | (with_reducible refine Kd.C_alloc ?_ _) | (with_reducible refine Kd.C_drewN ?_ _) | (with_reducible refine Kd.C_drew ?_))); (case side2 => exact HC1.out); rintro e w' ⟨rfl, ⟨nd, rfl⟩⟩))
   go_ret
   exact ⟨by first | rfl | (simp; done) | (simp [*]; done), by repeat (first | exact Drawn0.refl _ | apply Drawn0.step)⟩
  ·rw [if_neg c5] at H
   have c5b0 : decide ((l1.length : Int) ≤ a0) = false := decide_eq_false c5
   clear c5
   obtain rfl := Option.some.inj H
   go_enter Try.func61, Try.ntmps61
   go_wp2_with (first | ((with_reducible refine gate_callee (f := 75) rfl ?_); refine goesL_ (some 6) rfl rfl Try.func75 (by kernel_rfl) rfl #[.int .i64 a0] rfl (by (try simp only [List.map_toArray, List.map_cons, List.map_nil]); first | done | rfl | (simp only [List.length_drop, List.length_take]; rfl)) ?_; (with_reducible refine (spec_raItems.calls a0 true _ A3.out).mono ?_); rintro e w' ⟨rfl, ⟨nd, rfl⟩⟩; refine ⟨_, rfl, ?_⟩))
   go_ret
   exact ⟨by first | rfl | (simp; done) | (simp [*]; done), by repeat (first | exact Drawn0.refl _ | apply Drawn0.step)⟩
 ·replace c4 := Bool.eq_false_iff.mpr c4
  subst c4
  have H1 : (some false) = some r := by rw [if_neg (show ¬ (false = true) by decide)] at H; exact H
  clear H
  have H := H1
  clear H1
  obtain rfl := Option.some.inj H
  go_enter Try.func61, Try.ntmps61
  go_wp2_with (first | ((with_reducible refine gate_callee (f := 75) rfl ?_); refine goesL_ (some 6) rfl rfl Try.func75 (by kernel_rfl) rfl #[.int .i64 a0] rfl (by (try simp only [List.map_toArray, List.map_cons, List.map_nil]); first | done | rfl | (simp only [List.length_drop, List.length_take]; rfl)) ?_; (with_reducible refine (spec_raItems.calls a0 false _ A3.out).mono ?_); rintro e w' ⟨rfl, ⟨nd, rfl⟩⟩; refine ⟨_, rfl, ?_⟩))
  go_ret
  exact ⟨by first | rfl | (simp; done) | (simp [*]; done), by repeat (first | exact Drawn0.refl _ | apply Drawn0.step)⟩
end Go.Proofs.Ytmkokfljonbcmaa.MFnExchanges
