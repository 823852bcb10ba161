import Derived.Test.YtapbbmicfkbafaaGreatMFnSwappersx0
import Derived.Test.YtapbbmicfkbafaaGreatMFnSwappersx2
import Derived.Test.YtapbbmicfkbafaaGreatMFnSwappersx3
namespace Go.Proofs.YtapbbmicfkbafaaGreat.MFnSwappers
open Go.RowKit Go.Proofs.YtapbbmicfkbafaaGreatW.PrintWords Go.Proofs.YtapbbmicfkbafaaGreatW.PrintLast Go.Proofs.YtapbbmicfkbafaaGreatW.PrintMore
attribute [local go_sem] max2_int min2_int max_two min_two max_three min_three max_four min_four   
set_option linter.unusedVariables false
set_option maxHeartbeats 16000000
set_option maxRecDepth 100000
set_option linter.unusedSimpArgs false
def impl_copied.f (l0 : List Int) : Option (List Int) := (some (([] : List Int) : List Int)).bind fun aa => (if aa.length + l0.length < 17592186044416 then (some (aa ++ l0)) else (none))
theorem impl_copied.calls (A0 : Option Addr) (c0 : Nat) (l0 : List Int) (r : List Int) (w : World) (ak : Kd.C (Kd.int .i64) w A0 l0.length l0) (al : l0.length ≤ c0) (h : impl_copied.f l0 = some r) :
  Calls Tryz.prog 26 #[.slice A0 l0.length c0] w fun e w' => ∃ v0_ : Value, e = .returned (v0_) ∧ Kd.R (Kd.int .i64) 3 w' w.heap.size (fun _ => True) v0_ r ∧ Below w.heap.size w w' := by
 have HR0 := Ya ak
 have an := Ya al
 clear ak al
 have HB := Ya (Below.refl w.heap.size w)
 have H : ((some (([] : List Int) : List Int)).bind fun aa => (if aa.length + l0.length < 17592186044416 then (some (aa ++ l0)) else (none))) = some r := h
 clear h
 obtain ⟨aa, ab⟩ : ∃ y_ : List Int, y_ = (([] : List Int)) := ⟨_, rfl⟩
 replace H : (if aa.length + l0.length < 17592186044416 then (some (aa ++ l0)) else (none)) = some r := by first | (rw [ab]; with_reducible exact H) | (have H2_ := (Option.bind_some _ _).symm.trans H; rw [ab]; with_reducible exact H2_) | (have H2_ := (Option.bind_some _ _).symm.trans H; with_reducible exact H2_) | with_reducible exact H | (rw [ab]; exact H) | exact H
 have ad := Ya ab
 clear ab
 by_cases c2 : aa.length + l0.length < 17592186044416
 ·rw [if_pos c2] at H
  have LMc2 := Ya c2
  clear c2
  obtain ⟨ai, ac⟩ : ∃ y_ : List Int, y_ = (aa ++ l0) := ⟨_, rfl⟩
  replace H : (some ai) = some r := by first | (rw [ac]; with_reducible exact H) | (have H2_ := (Option.bind_some _ _).symm.trans H; rw [ac]; with_reducible exact H2_) | (have H2_ := (Option.bind_some _ _).symm.trans H; with_reducible exact H2_) | with_reducible exact H | (rw [ac]; exact H) | exact H
  have af := Ya ac
  clear ac
  obtain rfl := Option.some.inj H
  go_enter Tryz.func26, Tryz.ntmps26
  go_wp2_with (first | ((with_reducible refine gate_dst (N := 3) rfl ?_); refine Kd.R_lit (Kd.int .i64) _ 3 ?hg (N := 3) ?hd (xs := ([] : List Int)) (inner := []) (ok := fun _ => True) (okp := fun _ => True) ?hr ?hp (fun _ hk => hk) trivial (Below.refl _ _) (Nat.le_refl _) (by simp) ?_; (case hd => rfl); (case hg => rfl); (case hr => first | (go_simp; done) | (go_simp; rfl)); (case hp => exact (Reps.none _ _)); intro aj w3 ag hb hg_ hnew_; clear hg_ hnew_; (first | rw [← ad.1] at ag | (simp only [Int.reduceToNat] at ag; rw [← ad.1] at ag)); have ae := Yl ag; replace HB := Yh hb; clear hb ag) | ((with_reducible refine gate_builtin (b := .append) (xs := #[.tmp 3, .tmp 4]) rfl ?_); at_builtin; refine Kd.R_append_rows (Kd.int .i64) (w0 := w) w.heap.size rfl (.tmp 3) (.tmp 4) 24 3 (.int .i64 0) 8 rfl Tryz.underlying24 info3 rfl (by decide) (by omega) aj aa l0 _ _ _ (fun _ => True) (fun _ => False) rfl rfl ?aO ?aR (fun _ _ h => h) (fun _ h => h.elim) ?aF ?aB ?aS ?aL ?_; (case aR => repeat (first | exact (Z19 HR0.1 HB.1) | (with_reducible refine Z16 ?_ _) | (with_reducible refine Z17 ?_ _) | (with_reducible refine Z18 ?_))); (case aB => exact Q0); (case aF => exact (fun _ _ => trivial)); (case aO => exact (Yr ae.1)); (case aS => exact (Z7 Q0)); (case aL => have := LMc2.1; omega); intro am w5 ho hb hg hat; rw [← af.1] at ho; replace HB := Ya hb; have ah := Ya ho; clear ae; clear ho hb hg hat))
  go_ret
  exact ⟨_, Q2, by (with_reducible repeat (first | apply Z9 | apply Z10 | apply Z11)); exact ah.1, Q12⟩
 ·rw [if_neg c2] at H
  exact absurd H (by simp)
def impl_identity.l0 : Nat → List Int → Int → Int → Option (List Int)
 | 0, _, _, _ => none
 | k + 1, x3, x6, x7 => if x7 < x6 then (if x3.length < 17592186044416 then (impl_identity.l0 k (x3 ++ [x7]) x6 (wrap64 (x7 + 1))) else (none)) else (some x3)
def impl_identity.f (k : Nat) (a0 : Int) : Option (List Int) := impl_identity.l0 k (([] : List Int)) a0 0
theorem impl_identity.calls (k : Nat) (a0 : Int) (r : List Int) (w : World) (h : impl_identity.f k a0 = some r) :
  Calls Tryz.prog 67 #[.int .i64 a0] w fun e w' => ∃ v0_ : Value, e = .returned (v0_) ∧ Kd.R (Kd.int .i64) 3 w' w.heap.size (fun _ => True) v0_ r ∧ Below w.heap.size w w' := by
 have HB := Ya (Below.refl w.heap.size w)
 have H : (impl_identity.l0 k (([] : List Int)) a0 0) = some r := h
 clear h
 obtain ⟨af, ab⟩ : ∃ y_ : List Int, y_ = (([] : List Int)) := ⟨_, rfl⟩
 replace H : (impl_identity.l0 k af a0 0) = some r := by first | (rw [ab]; with_reducible exact H) | (have H2_ := (Option.bind_some _ _).symm.trans H; rw [ab]; with_reducible exact H2_) | (have H2_ := (Option.bind_some _ _).symm.trans H; with_reducible exact H2_) | with_reducible exact H | (rw [ab]; exact H) | exact H
 have ae := Ya ab
 clear ab
 have H' := Ya H
 clear H
 go_enter Tryz.func67, Tryz.ntmps67
 go_wp2_with (first | ((with_reducible refine gate_dst (N := 5) rfl ?_); refine Kd.R_lit (Kd.int .i64) _ 3 ?hg (N := 5) ?hd (xs := ([] : List Int)) (inner := []) (ok := fun _ => True) (okp := fun _ => True) ?hr ?hp (fun _ hk => hk) trivial (Below.refl _ _) (Nat.le_refl _) (by simp) ?_; (case hd => rfl); (case hg => rfl); (case hr => first | (go_simp; done) | (go_simp; rfl)); (case hp => exact (Reps.none _ _)); intro am w2 ag hb hg_ hnew_; clear hg_ hnew_; (first | rw [← ae.1] at ag | (simp only [Int.reduceToNat] at ag; rw [← ae.1] at ag)); have ah := Yl ag; replace HB := Yh hb; clear hb ag))
 go_loopg [3, 7] k (fun kq v3 v7 w' => ∃ (ad : List Int) (aa : Int), v7 = .int .i64 aa ∧ Aside0 (impl_identity.l0 kq ad a0 aa = some r) ∧ Aside0 (kq ≤ k) ∧ Aside0 (Kd.R (Kd.int .i64) 3 w' w.heap.size (fun _ => True) v3 ad) ∧ Aside0 (Below w.heap.size w w'))
 case atStart => exact ⟨(af), (0), Q17, H', ⟨Nat.le_refl _⟩, ⟨by (with_reducible repeat (first | apply Z9 | apply Z10 | apply Z11)); exact ah.1⟩, ⟨Q12⟩⟩
 case round =>
  clear H'
  obtain ⟨ad, aa, rfl, HA, HK1, HO_3, HB⟩ := hrel
  cases gk with
  | zero => exact absurd HA.1 (by simp [impl_identity.l0])
  | succ k1 =>
   have H := HA.1
   clear HA
   simp only [impl_identity.l0] at H
   by_cases c4 : aa < a0
   ·rw [if_pos c4] at H
    have al := Z35 c4
    clear c4
    by_cases c5 : ad.length < 17592186044416
    ·rw [if_pos c5] at H
     have LMc5 := Ya c5
     clear c5
     obtain ⟨ai, ac⟩ : ∃ y_ : List Int, y_ = (ad ++ [aa]) := ⟨_, rfl⟩
     replace H : (impl_identity.l0 k1 ai a0 (wrap64 (aa + 1))) = some r := by first | (rw [ac]; with_reducible exact H) | (have H2_ := (Option.bind_some _ _).symm.trans H; rw [ac]; with_reducible exact H2_) | (have H2_ := (Option.bind_some _ _).symm.trans H; with_reducible exact H2_) | with_reducible exact H | (rw [ac]; exact H) | exact H
     have aj := Ya ac
     clear ac
     have H' := Ya H
     clear H
     go_wp2_with (first | ((with_reducible refine gate_builtin (b := .append) (xs := #[.tmp 10, .tmp 12]) rfl ?_); at_builtin; refine Kd.R_append (Kd.int .i64) (w0 := w) w.heap.size rfl (.tmp 10) (.tmp 12) 24 3 (.int .i64 0) 8 rfl Tryz.underlying24 info3 rfl (by decide) (by omega) u3 ad aa [.int .i64 aa] (fun _ => True) (fun _ => False) rfl rfl ?aP (fun _ hk => hk.elim) ?aF ?aO ?aB ?aS ?aL ?_; (case aP => exact rfl); (case aB => exact Q0); (case aF => exact (fun _ _ => trivial)); (case aO => exact (Yr HO_3.1)); (case aS => exact (Z7 Q0)); (case aL => have := LMc5.1; omega); intro an w6 ho hb hg hat; rw [← aj.1] at ho; replace HB := Ya hb; have ak := Ya ho; clear HO_3; clear ho hb hg hat))
     go_roundg k1
     case measure => have := HK1.1; omega
     case rel => exact ⟨(ai), (wrap64 (aa + 1)), Q17, H', ⟨Q35⟩, ⟨by (with_reducible repeat (first | apply Z9 | apply Z10 | apply Z11)); exact ak.1⟩, ⟨Q12⟩⟩
    ·rw [if_neg c5] at H
     exact absurd H (by simp)
   ·rw [if_neg c4] at H
    have al := Z34 c4
    clear c4
    obtain rfl := Option.some.inj H
    go_wp2
    go_ret
    exact ⟨_, Q2, Q48, Q12⟩
def impl_startFocus.f (k : Nat) (l : List Int) : Option (List Int × List Int × List Bool × List Int) := if l.length ≤ 1000000 then ((impl_copied.f l).bind fun b => (impl_identity.f k (wrap64 ((l.length : Int) + 1))).bind fun p => some (b, List.replicate (l.length : Int).toNat 0, List.replicate l.length true, p)) else none
open Go.Proofs.YtapbbmicfkbafaaGreat.FoW in
theorem impl_startFocus.calls (k : Nat) (A0 : Option Addr) (c0 : Nat) (l0 : List Int) (r1 : List Int) (r2 : List Int) (r3 : List Bool) (r4 : List Int) (w : World) (ab : Kd.C (Kd.int .i64) w A0 l0.length l0) (ac : l0.length ≤ c0) (h : impl_startFocus.f k l0 = some (r1, r2, r3, r4)) :
  Calls Tryz.prog 66 #[.slice A0 l0.length c0] w fun e w' => ∃ v0_ v1_ v2_ v3_ : Value, e = .returned (.agg #[v0_, v1_, v2_, v3_]) ∧ Kd.R (Kd.int .i64) 3 w' w.heap.size (fun k_ => some k_ ≠ (v1_ : Value).ownBlock ∧ some k_ ≠ (v3_ : Value).ownBlock) v0_ r1 ∧ Kd.R (Kd.int .i64) 3 w' w.heap.size (fun k_ => some k_ ≠ (v0_ : Value).ownBlock ∧ some k_ ≠ (v3_ : Value).ownBlock) v1_ r2 ∧ Kd.R Kd.bool 4 w' w.heap.size (fun _ => True) v2_ r3 ∧ Kd.R (Kd.int .i64) 3 w' w.heap.size (fun k_ => some k_ ≠ (v0_ : Value).ownBlock ∧ some k_ ≠ (v1_ : Value).ownBlock) v3_ r4 ∧ Below w.heap.size w w' := by
 have hu := Tryz.underlying27
 unfold impl_startFocus.f at h
 by_cases hl : l0.length ≤ 1000000
 rotate_left
 ·rw [if_neg hl] at h; cases h
 rw [if_pos hl] at h
 obtain ⟨b, h1, h⟩ := Z33.mp h
 obtain ⟨p, h2, h⟩ := Z33.mp h
 simp only [Option.some.injEq, Prod.mk.injEq] at h
 obtain ⟨rfl, rfl, rfl, rfl⟩ := h
 have A1 := Ya h1
 have A2 := Ya h2
 have HR0 := Ya ab
 have aa := Ya ac
 have b1 : (0 ≤ (l0.length : Int)) = True := eq_true (by omega)
 have b2 : decide (0 ≤ (l0.length : Int)) = true := Z35 (by omega)
 have b3 : ((l0.length : Int).toNat ≤ 35184372088832) = True := eq_true (by omega)
 have b4 : decide ((l0.length : Int).toNat ≤ 35184372088832) = true := Z35 (by omega)
 clear h1 h2 ab ac
 obtain ⟨z, hz⟩ : ∃ z : List Int, z = List.replicate (l0.length : Int).toNat 0 := ⟨_, rfl⟩
 rw [← hz]
 have Nz := Ya hz
 clear hz
 go_enter Tryz.func66, Tryz.ntmps66
 go_upto_region 2 with (first | ((with_reducible refine gate_dst (N := 2) rfl ?_); refine Yx 2 YN4 27 ?_; intro gb hg w2 hbox hb; have HS := Ya (FOp.mk (c0 := False) (c1 := False) (c2 := False) (c3 := False) (v0 := .bool true) (v1 := .bool true) (v2 := .bool true) (g := 0) (l0 := b) (l1 := z) (l2 := p) hb hbox (by rw [hg]; exact Nat.le_refl _) (fun c => c.elim) (fun c => c.elim) (fun c => c.elim) (fun c => c.elim) (fun c => c.elim) (fun c => c.elim) (fun c => c.elim)); clear hb hbox hg))
 obtain ⟨v0, v1, v2, g, HS⟩ : ∃ v0 v1 v2 g, Aside0 (FOp w _ gb False False False False v0 v1 v2 g b z p) := ⟨_, _, _, _, ⟨FOp.drew HS.1⟩⟩
 refine start_ (n := 10) (S := fun w' => True) (ds := [9]) (YA 10 0) (by kernel_rfl) rfl rfl trivial (fun hHeld => ?_)
 generalize World.drew _ = w4 at HS hHeld ⊢
 refine Yq 0 (some 7) (YA 10 1) rfl ?_
 refine Yq 2 (some 9) (YA 10 5) rfl ?_
 refine Yq 4 (some 11) (YA 10 21) rfl ?_
 refine Yq 5 (some 12) (YA 10 53) rfl ?_
 refine join_ (σ := Value × Value × Value × Nat) 1 (YA 10 511) (fun s_ => [(8, s_.1), (10, s_.2.1), (13, s_.2.2.1), (4, .pointer (some ⟨s_.2.2.2, 0, none⟩)), (14, .agg #[s_.1, s_.2.1, .slice none 0 0, s_.2.2.1])]) (fun s_ w' => FOp w w' gb True True True True s_.1 s_.2.1 s_.2.2.1 s_.2.2.2 b z p) ?_ ?_
 rotate_left
 ·intro hJ1_3_6_8
  refine join_ (σ := Value × Value × Value × Nat) 2 (YA 10 255) (fun s_ => [(8, s_.1), (10, s_.2.1), (13, s_.2.2.1), (14, .agg #[s_.1, s_.2.1, .slice none 0 0, s_.2.2.1])]) (fun s_ w' => FOp w w' gb True True True False s_.1 s_.2.1 s_.2.2.1 s_.2.2.2 b z p) ?_ ?_
  rotate_left
  ·intro hJ1_3_6
   refine join_ (σ := Value × Value × Value × Nat) 3 (YA 10 319) (fun s_ => [(8, s_.1), (10, s_.2.1), (4, .pointer (some ⟨s_.2.2.2, 0, none⟩))]) (fun s_ w' => FOp w w' gb True True False True s_.1 s_.2.1 s_.2.2.1 s_.2.2.2 b z p) ?_ ?_
   rotate_left
   ·intro hJ1_3_8
    refine join_ (σ := Value × Value × Value × Nat) 3 (YA 10 375) (fun s_ => [(8, s_.1), (13, s_.2.2.1), (4, .pointer (some ⟨s_.2.2.2, 0, none⟩))]) (fun s_ w' => FOp w w' gb True False True True s_.1 s_.2.1 s_.2.2.1 s_.2.2.2 b z p) ?_ ?_
    rotate_left
    ·intro hJ1_6_8
     refine join_ (σ := Value × Value × Value × Nat) 4 (YA 10 63) (fun s_ => [(8, s_.1), (10, s_.2.1)]) (fun s_ w' => FOp w w' gb True True False False s_.1 s_.2.1 s_.2.2.1 s_.2.2.2 b z p) ?_ ?_
     rotate_left
     ·intro hJ1_3
      refine join_ (σ := Value × Value × Value × Nat) 4 (YA 10 119) (fun s_ => [(8, s_.1), (13, s_.2.2.1)]) (fun s_ w' => FOp w w' gb True False True False s_.1 s_.2.1 s_.2.2.1 s_.2.2.2 b z p) ?_ ?_
      rotate_left
      ·intro hJ1_6
       refine join_ (σ := Value × Value × Value × Nat) 4 (YA 10 311) (fun s_ => [(8, s_.1), (4, .pointer (some ⟨s_.2.2.2, 0, none⟩))]) (fun s_ w' => FOp w w' gb True False False True s_.1 s_.2.1 s_.2.2.1 s_.2.2.2 b z p) ?_ ?_
       rotate_left
       ·intro hJ1_8
        refine join_ (σ := Value × Value × Value × Nat) 4 (YA 10 317) (fun s_ => [(10, s_.2.1), (4, .pointer (some ⟨s_.2.2.2, 0, none⟩))]) (fun s_ w' => FOp w w' gb False True False True s_.1 s_.2.1 s_.2.2.1 s_.2.2.2 b z p) ?_ ?_
        rotate_left
        ·intro hJ3_8
         refine join_ (σ := Value × Value × Value × Nat) 5 (YA 10 55) (fun s_ => [(8, s_.1)]) (fun s_ w' => FOp w w' gb True False False False s_.1 s_.2.1 s_.2.2.1 s_.2.2.2 b z p) ?_ ?_
         rotate_left
         ·intro hJ1
          refine join_ (σ := Value × Value × Value × Nat) 5 (YA 10 61) (fun s_ => [(10, s_.2.1)]) (fun s_ w' => FOp w w' gb False True False False s_.1 s_.2.1 s_.2.2.1 s_.2.2.2 b z p) ?_ ?_
          rotate_left
          ·intro hJ3
           refine join_ (σ := Value × Value × Value × Nat) 5 (YA 10 309) (fun s_ => [(4, .pointer (some ⟨s_.2.2.2, 0, none⟩))]) (fun s_ w' => FOp w w' gb False False False True s_.1 s_.2.1 s_.2.2.1 s_.2.2.2 b z p) ?_ ?_
           rotate_left
           ·intro hJ8
            refine three_ (i := 1) (j := 3) (k := 8) (Ni := some 8) (Nj := some 10) (Nk := some 4) (YA 10 55) (YA 10 61) (YA 10 309) rfl rfl rfl rfl rfl rfl (by kernel_rfl) (by decide) (by decide) (by decide) (fun K hK => ?_) (fun K hK => ?_) (fun K hK => ?_)
            ·skip
             refine goes_ Tryz.func26 (by kernel_rfl) rfl #[.slice A0 l0.length c0] (by rfl) rfl rfl Q29 ?_
             with_reducible refine (impl_copied.calls _ _ l0 b _ (Z19 HR0.1 (FOp.m Q10)) aa.1 A1.1).mono ?_
             rintro e w3 ⟨v0, rfl, ho, hb⟩
             refine ⟨_, rfl, ?_⟩
             replace HS := Ya (FOp.add0 Q10 ho hb)
             clear ho hb
             refine hK.out _ _ trivial (fun hHeld => ?_)
             clear hK K
             refine YNa 8 ?_
             exact norm_ Q9 (hJ1 (v0, v1, v2, g) _ HS.1)
            ·skip
             refine Kd.R_make_step (Kd.int .i64) _ 3 (by rfl) (N := 10) rfl 24 _ _ rfl (l0.length : Int) rfl rfl Tryz.underlying24 (.int .i64 0) 8 info3 rfl (by decide) (by omega) 0 (ok := fun _ => True) (okp := fun _ => True) rfl (fun _ hk => hk) trivial (by omega) (by omega) (Below.refl _ _) (Nat.le_refl _) ?_
             intro v1 w3 ho hb hg_ hnew_
             clear hg_ hnew_
             rw [← Nz.1] at ho
             replace HS := Ya (FOp.add1 Q10 ho hb)
             clear ho hb
             refine hK.out _ _ trivial (fun hHeld => ?_)
             clear hK K
             refine YNa 10 ?_
             exact norm_ Q9 (hJ3 (v0, v1, v2, g) _ HS.1)
            ·skip
             refine Yy 4 YN4 27 ?_
             intro g hg w3 hbox hb
             replace HS := Ya (FOp.add3 Q10 hg hbox hb)
             clear hg hbox hb
             refine hK.out _ _ trivial (fun hHeld => ?_)
             clear hK K
             refine YNa 4 ?_
             exact norm_ Q9 (hJ8 (v0, v1, v2, g) _ HS.1)
           ·skip
            rintro ⟨v0, v1, v2, g⟩ wn_ hs_
            dsimp only at hs_
            (try clear HS)
            have HS := Ya hs_
            clear hs_
            have hHeld := trivial
            refine YNb ?_
            refine two_ (i := 1) (j := 3) (Ni := some 8) (Nj := some 10) (YA 10 311) (YA 10 317) rfl rfl rfl rfl (by kernel_rfl) (by decide) (by decide) (fun K hK => ?_) (fun K hK => ?_)
            ·skip
             refine goes_ Tryz.func26 (by kernel_rfl) rfl #[.slice A0 l0.length c0] (by rfl) rfl rfl Q29 ?_
             with_reducible refine (impl_copied.calls _ _ l0 b _ (Z19 HR0.1 (FOp.m Q10)) aa.1 A1.1).mono ?_
             rintro e w3 ⟨v0, rfl, ho, hb⟩
             refine ⟨_, rfl, ?_⟩
             replace HS := Ya (FOp.add0 Q10 ho hb)
             clear ho hb
             refine hK.out _ _ trivial (fun hHeld => ?_)
             clear hK K
             refine YNa 8 ?_
             exact norm_ Q9 (hJ1_8 (v0, v1, v2, g) _ HS.1)
            ·skip
             refine Kd.R_make_step (Kd.int .i64) _ 3 (by rfl) (N := 10) rfl 24 _ _ rfl (l0.length : Int) rfl rfl Tryz.underlying24 (.int .i64 0) 8 info3 rfl (by decide) (by omega) 0 (ok := fun _ => True) (okp := fun _ => True) rfl (fun _ hk => hk) trivial (by omega) (by omega) (Below.refl _ _) (Nat.le_refl _) ?_
             intro v1 w3 ho hb hg_ hnew_
             clear hg_ hnew_
             rw [← Nz.1] at ho
             replace HS := Ya (FOp.add1 Q10 ho hb)
             clear ho hb
             refine hK.out _ _ trivial (fun hHeld => ?_)
             clear hK K
             refine YNa 10 ?_
             exact norm_ Q9 (hJ3_8 (v0, v1, v2, g) _ HS.1)
          ·skip
           rintro ⟨v0, v1, v2, g⟩ wn_ hs_
           dsimp only at hs_
           (try clear HS)
           have HS := Ya hs_
           clear hs_
           have hHeld := trivial
           refine YNb ?_
           refine two_ (i := 1) (j := 8) (Ni := some 8) (Nj := some 4) (YA 10 63) (YA 10 317) rfl rfl rfl rfl (by kernel_rfl) (by decide) (by decide) (fun K hK => ?_) (fun K hK => ?_)
           ·skip
            refine goes_ Tryz.func26 (by kernel_rfl) rfl #[.slice A0 l0.length c0] (by rfl) rfl rfl Q29 ?_
            with_reducible refine (impl_copied.calls _ _ l0 b _ (Z19 HR0.1 (FOp.m Q10)) aa.1 A1.1).mono ?_
            rintro e w3 ⟨v0, rfl, ho, hb⟩
            refine ⟨_, rfl, ?_⟩
            replace HS := Ya (FOp.add0 Q10 ho hb)
            clear ho hb
            refine hK.out _ _ trivial (fun hHeld => ?_)
            clear hK K
            refine YNa 8 ?_
            exact norm_ Q9 (hJ1_3 (v0, v1, v2, g) _ HS.1)
           ·skip
            refine Yy 4 YN4 27 ?_
            intro g hg w3 hbox hb
            replace HS := Ya (FOp.add3 Q10 hg hbox hb)
            clear hg hbox hb
            refine hK.out _ _ trivial (fun hHeld => ?_)
            clear hK K
            refine YNa 4 ?_
            exact norm_ Q9 (hJ3_8 (v0, v1, v2, g) _ HS.1)
         ·skip
          rintro ⟨v0, v1, v2, g⟩ wn_ hs_
          dsimp only at hs_
          (try clear HS)
          have HS := Ya hs_
          clear hs_
          have hHeld := trivial
          refine YNb ?_
          refine three_ (i := 3) (j := 6) (k := 8) (Ni := some 10) (Nj := some 13) (Nk := some 4) (YA 10 63) (YA 10 119) (YA 10 311) rfl rfl rfl rfl rfl rfl (by kernel_rfl) (by decide) (by decide) (by decide) (fun K hK => ?_) (fun K hK => ?_) (fun K hK => ?_)
          ·skip
           refine Kd.R_make_step (Kd.int .i64) _ 3 (by rfl) (N := 10) rfl 24 _ _ rfl (l0.length : Int) rfl rfl Tryz.underlying24 (.int .i64 0) 8 info3 rfl (by decide) (by omega) 0 (ok := fun _ => True) (okp := fun _ => True) rfl (fun _ hk => hk) trivial (by omega) (by omega) (Below.refl _ _) (Nat.le_refl _) ?_
           intro v1 w3 ho hb hg_ hnew_
           clear hg_ hnew_
           rw [← Nz.1] at ho
           replace HS := Ya (FOp.add1 Q10 ho hb)
           clear ho hb
           refine hK.out _ _ trivial (fun hHeld => ?_)
           clear hK K
           refine YNa 10 ?_
           exact norm_ Q9 (hJ1_3 (v0, v1, v2, g) _ HS.1)
          ·skip
           refine goes_ Tryz.func67 (by kernel_rfl) rfl #[.int .i64 (wrap64 ((l0.length : Int) + 1))] (by rfl) rfl rfl Q29 ?_
           with_reducible refine (impl_identity.calls k _ p _ A2.1).mono ?_
           rintro e w3 ⟨v2, rfl, ho, hb⟩
           refine ⟨_, rfl, ?_⟩
           replace HS := Ya (FOp.add2 Q10 ho hb)
           clear ho hb
           refine hK.out _ _ trivial (fun hHeld => ?_)
           clear hK K
           refine YNa 13 ?_
           exact norm_ Q9 (hJ1_6 (v0, v1, v2, g) _ HS.1)
          ·skip
           refine Yy 4 YN4 27 ?_
           intro g hg w3 hbox hb
           replace HS := Ya (FOp.add3 Q10 hg hbox hb)
           clear hg hbox hb
           refine hK.out _ _ trivial (fun hHeld => ?_)
           clear hK K
           refine YNa 4 ?_
           exact norm_ Q9 (hJ1_8 (v0, v1, v2, g) _ HS.1)
        ·skip
         rintro ⟨v0, v1, v2, g⟩ wn_ hs_
         dsimp only at hs_
         (try clear HS)
         have HS := Ya hs_
         clear hs_
         have hHeld := trivial
         refine YNb ?_
         refine one_ (i := 1) (N := some 8) (YA 10 319) rfl rfl (by kernel_rfl) (by decide) (fun K hK => ?_)
         refine goes_ Tryz.func26 (by kernel_rfl) rfl #[.slice A0 l0.length c0] (by rfl) rfl rfl Q29 ?_
         with_reducible refine (impl_copied.calls _ _ l0 b _ (Z19 HR0.1 (FOp.m Q10)) aa.1 A1.1).mono ?_
         rintro e w3 ⟨v0, rfl, ho, hb⟩
         refine ⟨_, rfl, ?_⟩
         replace HS := Ya (FOp.add0 Q10 ho hb)
         clear ho hb
         refine hK.out _ _ trivial (fun hHeld => ?_)
         clear hK K
         refine YNa 8 ?_
         exact norm_ Q9 (hJ1_3_8 (v0, v1, v2, g) _ HS.1)
       ·skip
        rintro ⟨v0, v1, v2, g⟩ wn_ hs_
        dsimp only at hs_
        (try clear HS)
        have HS := Ya hs_
        clear hs_
        have hHeld := trivial
        refine YNb ?_
        refine two_ (i := 3) (j := 6) (Ni := some 10) (Nj := some 13) (YA 10 319) (YA 10 375) rfl rfl rfl rfl (by kernel_rfl) (by decide) (by decide) (fun K hK => ?_) (fun K hK => ?_)
        ·skip
         refine Kd.R_make_step (Kd.int .i64) _ 3 (by rfl) (N := 10) rfl 24 _ _ rfl (l0.length : Int) rfl rfl Tryz.underlying24 (.int .i64 0) 8 info3 rfl (by decide) (by omega) 0 (ok := fun _ => True) (okp := fun _ => True) rfl (fun _ hk => hk) trivial (by omega) (by omega) (Below.refl _ _) (Nat.le_refl _) ?_
         intro v1 w3 ho hb hg_ hnew_
         clear hg_ hnew_
         rw [← Nz.1] at ho
         replace HS := Ya (FOp.add1 Q10 ho hb)
         clear ho hb
         refine hK.out _ _ trivial (fun hHeld => ?_)
         clear hK K
         refine YNa 10 ?_
         exact norm_ Q9 (hJ1_3_8 (v0, v1, v2, g) _ HS.1)
        ·skip
         refine goes_ Tryz.func67 (by kernel_rfl) rfl #[.int .i64 (wrap64 ((l0.length : Int) + 1))] (by rfl) rfl rfl Q29 ?_
         with_reducible refine (impl_identity.calls k _ p _ A2.1).mono ?_
         rintro e w3 ⟨v2, rfl, ho, hb⟩
         refine ⟨_, rfl, ?_⟩
         replace HS := Ya (FOp.add2 Q10 ho hb)
         clear ho hb
         refine hK.out _ _ trivial (fun hHeld => ?_)
         clear hK K
         refine YNa 13 ?_
         exact norm_ Q9 (hJ1_6_8 (v0, v1, v2, g) _ HS.1)
      ·skip
       rintro ⟨v0, v1, v2, g⟩ wn_ hs_
       dsimp only at hs_
       (try clear HS)
       have HS := Ya hs_
       clear hs_
       have hHeld := trivial
       refine YNb ?_
       refine two_ (i := 3) (j := 8) (Ni := some 10) (Nj := some 4) (YA 10 127) (YA 10 375) rfl rfl rfl rfl (by kernel_rfl) (by decide) (by decide) (fun K hK => ?_) (fun K hK => ?_)
       ·skip
        refine Kd.R_make_step (Kd.int .i64) _ 3 (by rfl) (N := 10) rfl 24 _ _ rfl (l0.length : Int) rfl rfl Tryz.underlying24 (.int .i64 0) 8 info3 rfl (by decide) (by omega) 0 (ok := fun _ => True) (okp := fun _ => True) rfl (fun _ hk => hk) trivial (by omega) (by omega) (Below.refl _ _) (Nat.le_refl _) ?_
        intro v1 w3 ho hb hg_ hnew_
        clear hg_ hnew_
        rw [← Nz.1] at ho
        replace HS := Ya (FOp.add1 Q10 ho hb)
        clear ho hb
        refine hK.out _ _ trivial (fun hHeld => ?_)
        clear hK K
        refine YNa 10 ?_
        obtain ⟨B0, d0, q0⟩ := Z15 (HS.1.r0 trivial)
        obtain ⟨B1, d1, q1⟩ := Z15 (HS.1.r1 trivial)
        obtain ⟨B3, d3, q3⟩ := Z15 (HS.1.r2 trivial)
        rw [q0, q1, q3]
        refine Yq 7 (some 14) (YA 10 255) rfl ?_
        rw [← q0, ← q1, ← q3]
        exact norm_ Q9 (hJ1_3_6 (v0, v1, v2, g) _ HS.1)
       ·skip
        refine Yy 4 YN4 27 ?_
        intro g hg w3 hbox hb
        replace HS := Ya (FOp.add3 Q10 hg hbox hb)
        clear hg hbox hb
        refine hK.out _ _ trivial (fun hHeld => ?_)
        clear hK K
        refine YNa 4 ?_
        exact norm_ Q9 (hJ1_6_8 (v0, v1, v2, g) _ HS.1)
     ·skip
      rintro ⟨v0, v1, v2, g⟩ wn_ hs_
      dsimp only at hs_
      (try clear HS)
      have HS := Ya hs_
      clear hs_
      have hHeld := trivial
      refine YNb ?_
      refine two_ (i := 6) (j := 8) (Ni := some 13) (Nj := some 4) (YA 10 127) (YA 10 319) rfl rfl rfl rfl (by kernel_rfl) (by decide) (by decide) (fun K hK => ?_) (fun K hK => ?_)
      ·skip
       refine goes_ Tryz.func67 (by kernel_rfl) rfl #[.int .i64 (wrap64 ((l0.length : Int) + 1))] (by rfl) rfl rfl Q29 ?_
       with_reducible refine (impl_identity.calls k _ p _ A2.1).mono ?_
       rintro e w3 ⟨v2, rfl, ho, hb⟩
       refine ⟨_, rfl, ?_⟩
       replace HS := Ya (FOp.add2 Q10 ho hb)
       clear ho hb
       refine hK.out _ _ trivial (fun hHeld => ?_)
       clear hK K
       refine YNa 13 ?_
       obtain ⟨B0, d0, q0⟩ := Z15 (HS.1.r0 trivial)
       obtain ⟨B1, d1, q1⟩ := Z15 (HS.1.r1 trivial)
       obtain ⟨B3, d3, q3⟩ := Z15 (HS.1.r2 trivial)
       rw [q0, q1, q3]
       refine Yq 7 (some 14) (YA 10 255) rfl ?_
       rw [← q0, ← q1, ← q3]
       exact norm_ Q9 (hJ1_3_6 (v0, v1, v2, g) _ HS.1)
      ·skip
       refine Yy 4 YN4 27 ?_
       intro g hg w3 hbox hb
       replace HS := Ya (FOp.add3 Q10 hg hbox hb)
       clear hg hbox hb
       refine hK.out _ _ trivial (fun hHeld => ?_)
       clear hK K
       refine YNa 4 ?_
       exact norm_ Q9 (hJ1_3_8 (v0, v1, v2, g) _ HS.1)
    ·skip
     rintro ⟨v0, v1, v2, g⟩ wn_ hs_
     dsimp only at hs_
     (try clear HS)
     have HS := Ya hs_
     clear hs_
     have hHeld := trivial
     refine YNb ?_
     refine one_ (i := 3) (N := some 10) (YA 10 383) rfl rfl (by kernel_rfl) (by decide) (fun K hK => ?_)
     refine Kd.R_make_step (Kd.int .i64) _ 3 (by rfl) (N := 10) rfl 24 _ _ rfl (l0.length : Int) rfl rfl Tryz.underlying24 (.int .i64 0) 8 info3 rfl (by decide) (by omega) 0 (ok := fun _ => True) (okp := fun _ => True) rfl (fun _ hk => hk) trivial (by omega) (by omega) (Below.refl _ _) (Nat.le_refl _) ?_
     intro v1 w3 ho hb hg_ hnew_
     clear hg_ hnew_
     rw [← Nz.1] at ho
     replace HS := Ya (FOp.add1 Q10 ho hb)
     clear ho hb
     refine hK.out _ _ trivial (fun hHeld => ?_)
     clear hK K
     refine YNa 10 ?_
     obtain ⟨B0, d0, q0⟩ := Z15 (HS.1.r0 trivial)
     obtain ⟨B1, d1, q1⟩ := Z15 (HS.1.r1 trivial)
     obtain ⟨B3, d3, q3⟩ := Z15 (HS.1.r2 trivial)
     rw [q0, q1, q3]
     refine Yq 7 (some 14) (YA 10 511) rfl ?_
     rw [← q0, ← q1, ← q3]
     exact norm_ Q9 (hJ1_3_6_8 (v0, v1, v2, g) _ HS.1)
   ·skip
    rintro ⟨v0, v1, v2, g⟩ wn_ hs_
    dsimp only at hs_
    (try clear HS)
    have HS := Ya hs_
    clear hs_
    have hHeld := trivial
    refine YNb ?_
    refine one_ (i := 6) (N := some 13) (YA 10 383) rfl rfl (by kernel_rfl) (by decide) (fun K hK => ?_)
    refine goes_ Tryz.func67 (by kernel_rfl) rfl #[.int .i64 (wrap64 ((l0.length : Int) + 1))] (by rfl) rfl rfl Q29 ?_
    with_reducible refine (impl_identity.calls k _ p _ A2.1).mono ?_
    rintro e w3 ⟨v2, rfl, ho, hb⟩
    refine ⟨_, rfl, ?_⟩
    replace HS := Ya (FOp.add2 Q10 ho hb)
    clear ho hb
    refine hK.out _ _ trivial (fun hHeld => ?_)
    clear hK K
    refine YNa 13 ?_
    obtain ⟨B0, d0, q0⟩ := Z15 (HS.1.r0 trivial)
    obtain ⟨B1, d1, q1⟩ := Z15 (HS.1.r1 trivial)
    obtain ⟨B3, d3, q3⟩ := Z15 (HS.1.r2 trivial)
    rw [q0, q1, q3]
    refine Yq 7 (some 14) (YA 10 511) rfl ?_
    rw [← q0, ← q1, ← q3]
    exact norm_ Q9 (hJ1_3_6_8 (v0, v1, v2, g) _ HS.1)
  ·skip
   rintro ⟨v0, v1, v2, g⟩ wn_ hs_
   dsimp only at hs_
   (try clear HS)
   have HS := Ya hs_
   clear hs_
   have hHeld := trivial
   refine YNb ?_
   refine one_ (i := 8) (N := some 4) (YA 10 511) rfl rfl (by kernel_rfl) (by decide) (fun K hK => ?_)
   refine Yy 4 YN4 27 ?_
   intro g hg w3 hbox hb
   replace HS := Ya (FOp.add3 Q10 hg hbox hb)
   clear hg hbox hb
   refine hK.out _ _ trivial (fun hHeld => ?_)
   clear hK K
   refine YNa 4 ?_
   exact norm_ Q9 (hJ1_3_6_8 (v0, v1, v2, g) _ HS.1)
 rintro ⟨v0, v1, v2, g⟩ wn_ hs_
 dsimp only at hs_
 (try clear HS)
 have HS := Ya hs_
 clear hs_
 have hHeld := trivial
 refine YNb ?_
 obtain ⟨B0, d0, q0⟩ := Z15 (HS.1.r0 trivial)
 obtain ⟨B1, d1, q1⟩ := Z15 (HS.1.r1 trivial)
 obtain ⟨B3, d3, q3⟩ := Z15 (HS.1.r2 trivial)
 subst q0 q1 q3
 obtain ⟨⟨hcg0, hcg1, hcg2, hcg3⟩, hfg0, hfg1, hfg2, hfg3⟩ := LY4 ((HS.1.g4 trivial).1)
 have hn1 := (HS.1.g4 trivial).2.2
 have hn2 := hn1.symm
 refine last_ (i := 9) (N := none) (YA 10 1023) rfl rfl (by kernel_rfl) (by decide) (fun K hK => ?_)
 refine YNc ?_
 refine hK.out _ _ ?_
 clear hK K
 refine done_ (by kernel_rfl) ?_
 clear hcg0 hfg0 hcg1 hfg1 hcg2 hfg2 hcg3 hfg3
 have HQ := FOp.full HS.1
 unfold set4 at HQ
 go_wp2
 go_loopg [16] l0.length (fun kq ad w' => ∃ (i : Nat) (v2 : Value), ad = .int .i64 (i : Int) ∧ Aside0 (i + kq = l0.length) ∧ Aside0 (FOq w w' gb g (.slice B0 b.length d0) (.slice B1 z.length d1) v2 (.slice B3 p.length d3) b z (List.replicate i true) p))
 case atStart => exact ⟨0, .slice none 0 0, Q70, ⟨Nat.zero_add _⟩, ⟨HQ⟩⟩
 case round =>
  clear HS HQ
  obtain ⟨i, v2, rfl, HN, HQ⟩ := hrel
  obtain ⟨B2, d2, q2⟩ := Z15 HQ.1.v.r2
  rw [List.length_replicate] at q2
  subst q2
  have hn1 := HQ.1.nn
  have hn2 := hn1.symm
  obtain ⟨⟨hcg0, hcg1, hcg2, hcg3⟩, hfg0, hfg1, hfg2, hfg3⟩ := LY4 HQ.1.n2
  cases gk with
  | zero =>
   obtain rfl : i = l0.length := by have := HN.1; omega
   have c1 : decide ((l0.length : Int) < (l0.length : Int)) = false := Z34 (by omega)
   obtain ⟨⟨hch0, hch1, hch2, hch3⟩, hfh0, hfh1, hfh2, hfh3⟩ := LY4 HQ.1.n
   go_wp2
   refine bodyPost_ret (results_cell_row rfl _ _ gb 27 #[.slice B0 b.length d0, .slice B1 z.length d1, .slice B2 l0.length d2, .slice B3 p.length d3] (0, 0) _ rfl Q65 hu rfl (by kernel_rfl)) rfl ?_
   obtain ⟨hv, hb⟩ := FOq.fin HQ.1 (.slice B0 b.length d0) (.slice B1 z.length d1) (.slice B2 l0.length d2) (.slice B3 p.length d3)
   unfold set4 at hv hb
   exact ⟨_, _, _, _, rfl, hv.r0, hv.r1, hv.r2, hv.r3, hb⟩
  | succ k1 =>
   have hi := HN.1
   have c1 : decide ((i : Int) < (l0.length : Int)) = true := Z35 (by omega)
   go_wp2_with (first | ((with_reducible refine gate_builtin (b := .append) (xs := #[.tmp 19, .tmp 20]) rfl ?_); at_builtin; refine Kd.R_append Kd.bool w.heap.size rfl (.tmp 19) (.tmp 20) 25 4 (.bool false) 1 rfl Tryz.underlying25 info4 rfl (by decide) (by omega) (.slice B2 i d2) (List.replicate i true) true [.bool true] (fun _ => True) (fun _ => False) rfl rfl ?aP (fun _ hk => hk.elim) ?aF ?aO (Below.refl _ _) ?aS ?aL ?_; (case aP => exact rfl); (case aF => exact (fun _ _ => trivial)); (case aO => exact HQ.1.v.r2); (case aS => exact (Z7 HQ.1.m)); (case aL => rw [List.length_replicate]; omega); intro v6 w6 ho hb hg hat; rw [← List.replicate_succ'] at ho; obtain ⟨A6, e6, q6⟩ := Z15 ho; subst q6; rw [List.length_replicate] at *; obtain ⟨hn, hs_⟩ := FOq.app HQ.1 ho hb hg; have HX := Ya hs_; have Hn := Ya hn; clear ho hb hg hat hn hs_ HQ; obtain ⟨⟨hck0, hck1, hck2, hck3⟩, hfk0, hfk1, hfk2, hfk3⟩ := LY4 Hn.1))
   go_roundg k1
   case measure => omega
   case rel => exact ⟨i + 1, _, by first | rfl | (rw [show wrap64 ((i : Int) + 1) = ((i + 1 : Nat) : Int) from by unfold wrap64; omega]), ⟨by omega⟩, HX⟩
mutual
def impl_focusAt.l0 : Nat → Int → Int → List Int → List Int → List Bool → List Int → Option (List Int × List Int × List Bool × List Int)
 | 0, _, _, _, _, _, _ => none
 | k + 1, n, i, b, d, u, p => if i < n then ((Go.Proofs.YtapbbmicfkbafaaGreat.FoW.stepF b d u p).bind fun r => (impl_focusAt.l0 k n (wrap64 (i + 1)) b r.1 r.2.1 r.2.2.1)) else (some (b, d, u, p))
end
def impl_focusAt.f (k : Nat) (l0 : List Int) (a1 : Int) : Option (List Int × List Int × List Bool × List Int) := (impl_startFocus.f k l0).bind fun t => (impl_focusAt.l0 k a1 0 t.1 t.2.1 t.2.2.1 t.2.2.2)
open Go.Proofs.YtapbbmicfkbafaaGreat.FoW in
theorem impl_focusAt.calls (k : Nat) (A0_ : Option Addr) (c0_ : Nat) (l0 : List Int) (a1 : Int) (r1 : List Int) (r2 : List Int) (r3 : List Bool) (r4 : List Int) (w : World) (aj : Kd.C (Kd.int .i64) w A0_ l0.length l0) (ae : l0.length ≤ c0_) (h : impl_focusAt.f k l0 a1 = some (r1, r2, r3, r4)) :
  Calls Tryz.prog 65 #[.slice A0_ l0.length c0_, .int .i64 a1] w fun e w' => ∃ v0_ v1_ v2_ v3_ : Value, e = .returned (.agg #[v0_, v1_, v2_, v3_]) ∧ Kd.R (Kd.int .i64) 3 w' w.heap.size (fun k_ => some k_ ≠ (v1_ : Value).ownBlock ∧ some k_ ≠ (v3_ : Value).ownBlock) v0_ r1 ∧ Kd.R (Kd.int .i64) 3 w' w.heap.size (fun k_ => some k_ ≠ (v0_ : Value).ownBlock ∧ some k_ ≠ (v3_ : Value).ownBlock) v1_ r2 ∧ Kd.R Kd.bool 4 w' w.heap.size (fun _ => True) v2_ r3 ∧ Kd.R (Kd.int .i64) 3 w' w.heap.size (fun k_ => some k_ ≠ (v0_ : Value).ownBlock ∧ some k_ ≠ (v1_ : Value).ownBlock) v3_ r4 ∧ Below w.heap.size w w' := by
 have hu := Tryz.underlying27
 unfold impl_focusAt.f at h
 obtain ⟨⟨b, D1, U1, P1⟩, h1, h⟩ := Z33.mp h
 have A1_ := Ya h1
 have H' := Ya h
 have HR0 := Ya aj
 have ak := Ya ae
 have HB := Ya (Below.refl w.heap.size w)
 clear h h1 aj ae
 go_enter Tryz.func65, Tryz.ntmps65
 go_upto_region 3 with (first | ((with_reducible refine gate_dst (N := 4) rfl ?_); refine Yx 4 YN4 27 ?_; intro ac hg ao hbox hb; have n0_ := Yh hb; have aa := Ya hbox; have al := Ya (by rw [hg]; exact Z7 Q0 : w.heap.size ≤ ac); clear HB; have HB := n0_; clear n0_; clear hb hbox hg) | ((with_reducible refine gate_callee (f := 66) rfl ?_); refine Yz 7 Tryz.func66 #[.slice A0_ l0.length c0_] ?_ (hargs := Q19); (with_reducible refine (impl_startFocus.calls k _ _ l0 b D1 U1 P1 _ ?s1 ?s2 A1_.1).mono ?_); (case s1 => exact Q68); (case s2 => exact ak.1); rintro e w2 ⟨v0, v1, v2, v3, rfl, af, ag, ah, ai, hb⟩; refine ⟨_, rfl, ?_⟩; have hFV : FoV w2 w.heap.size v0 v1 v2 v3 b D1 U1 P1 := ⟨Kd.R_lower af (Z7 Q0), Kd.R_lower ag (Z7 Q0), Kd.R_lower ah (Z7 Q0), Kd.R_lower ai (Z7 Q0)⟩; obtain ⟨A0, c0, rfl⟩ := Z15 af; obtain ⟨A1, c1', rfl⟩ := Z15 ag; obtain ⟨A2, c2, rfl⟩ := Z15 ah; obtain ⟨A3, c3, rfl⟩ := Z15 ai; have n0_ := Yh hb; have n1_ := Ya (Z25 (by first | exact aa.1 | (exact Z23 aa.1)) hb); have HV := Ya hFV; clear HB aa af ag ah ai hb hFV; have HB := n0_; have aa := n1_; clear n0_ n1_) | ((with_reducible refine gate_dst (N := 5) rfl ?_); refine Yx 5 YN4 27 ?_; intro ab hg am hbox hb; have n0_ := Yh hb; have BK := Ya hbox; have an := Ya (by rw [hg]; exact Z7 Q0 : w.heap.size ≤ ab); have NE := Ya (by rw [hg]; exact Nat.ne_of_lt (blk_lt aa.1) : ac ≠ ab); have n1_ := Ya (FoV.below (Qm0 HV.1) hb); have n2_ := Ya (Z25 aa.1 hb); clear HV aa; have HV := n1_; have aa := n2_; clear n1_ n2_; clear HB; have HB := n0_; clear n0_; have hd0 := (Z20 BK.1 0).trans rfl; have hd1 := (Z20 BK.1 1).trans rfl; have hd2 := (Z20 BK.1 2).trans rfl; have hd3 := (Z20 BK.1 3).trans rfl; have hf0 := Z21 BK.1 0; have hf1 := Z21 BK.1 1; have hf2 := Z21 BK.1 2; have hf3 := Z21 BK.1 3; clear hb hbox hg))
 replace HV := Ya (FoV.set4 HV.1 BK.1 (by decide) (by decide) (.slice A0 b.length c0) (.slice A1 D1.length c1') (.slice A2 U1.length c2) (.slice A3 P1.length c3))
 replace BK := Ya (set4_at BK.1 (.slice A0 b.length c0) (.slice A1 D1.length c1') (.slice A2 U1.length c2) (.slice A3 P1.length c3))
 replace aa := Ya ((set4_far _ ab (.slice A0 b.length c0) (.slice A1 D1.length c1') (.slice A2 U1.length c2) (.slice A3 P1.length c3) ac NE.1).trans aa.1)
 replace HB := Ya (set4_below HB.1 an.1 (.slice A0 b.length c0) (.slice A1 D1.length c1') (.slice A2 U1.length c2) (.slice A3 P1.length c3))
 clear hd0 hd1 hd2 hd3 hf0 hf1 hf2 hf3
 unfold set4 at BK HV aa HB
 generalize ((((am.setCell ⟨ab, 0, none⟩ (.slice A0 b.length c0)).setCell ⟨ab, 1, none⟩ (.slice A1 D1.length c1')).setCell ⟨ab, 2, none⟩ (.slice A2 U1.length c2)).setCell ⟨ab, 3, none⟩ (.slice A3 P1.length c3)) = w4 at BK HV aa HB ⊢
 go_loopg [9] k (fun kq v9 w' => ∃ (i : Int) (d : List Int) (u : List Bool) (p : List Int), v9 = .int .i64 i ∧ Aside0 (impl_focusAt.l0 kq a1 i b d u p = some (r1, r2, r3, r4)) ∧ Aside0 (kq ≤ k) ∧ Aside0 (d.length = D1.length ∧ u.length = U1.length ∧ p.length = P1.length) ∧ Aside0 (w'.heap[ab]? = some (.cells #[.slice A0 b.length c0, .slice A1 D1.length c1', .slice A2 U1.length c2, .slice A3 P1.length c3] 27 (0, 0))) ∧ Aside0 (w'.heap[ac]? = some (.cells YN4 27 (0, 0))) ∧ Aside0 (FoV w' w.heap.size (.slice A0 b.length c0) (.slice A1 D1.length c1') (.slice A2 U1.length c2) (.slice A3 P1.length c3) b d u p) ∧ Aside0 (Below w.heap.size w w'))
 case atStart => exact ⟨0, D1, U1, P1, Q70, H', ⟨Nat.le_refl _⟩, ⟨rfl, rfl, rfl⟩, BK, aa, HV, HB⟩
 case round =>
  clear H' BK HV aa HB
  obtain ⟨i, d, u, p, rfl, HA, HK1, HL, BK, aa, HV, HB⟩ := hrel
  cases gk with
  | zero => exact absurd HA.1 (by simp [impl_focusAt.l0])
  | succ k1 =>
   have H := HA.1
   clear HA
   simp only [impl_focusAt.l0] at H
   by_cases c1 : i < a1
   rotate_left
   ·rw [if_neg c1] at H
    have b1 : decide (i < a1) = false := Z34 c1
    clear c1
    simp only [Option.some.injEq, Prod.mk.injEq] at H
    obtain ⟨rfl, rfl, rfl, rfl⟩ := H
    have ae := (Z20 BK.1 0).trans rfl
    have ap := (Z20 BK.1 1).trans rfl
    have aq := (Z20 BK.1 2).trans rfl
    have ar := (Z20 BK.1 3).trans rfl
    have hf0 := Z21 BK.1 0
    have hf1 := Z21 BK.1 1
    have hf2 := Z21 BK.1 2
    have hf3 := Z21 BK.1 3
    have hd0 := (Z20 aa.1 0).trans rfl
    have hd1 := (Z20 aa.1 1).trans rfl
    have hd2 := (Z20 aa.1 2).trans rfl
    have hd3 := (Z20 aa.1 3).trans rfl
    have he0 := Z21 aa.1 0
    have he1 := Z21 aa.1 1
    have he2 := Z21 aa.1 2
    have he3 := Z21 aa.1 3
    have hne := NE.1
    have hne' := NE.1.symm
    go_wp2
    refine bodyPost_ret (results_cell_row rfl _ _ ac 27 #[.slice A0 b.length c0, .slice A1 D1.length c1', .slice A2 U1.length c2, .slice A3 P1.length c3] (0, 0) _ rfl (by have h_ := set4_at aa.1 (.slice A0 b.length c0) (.slice A1 D1.length c1') (.slice A2 U1.length c2) (.slice A3 P1.length c3); unfold set4 at h_; exact h_) hu rfl (by kernel_rfl)) rfl ?_
    have hv := FoV.set4 HV.1 aa.1 (by decide) (by decide) (.slice A0 b.length c0) (.slice A1 D1.length c1') (.slice A2 U1.length c2) (.slice A3 P1.length c3)
    have hbb := set4_below HB.1 al.1 (.slice A0 b.length c0) (.slice A1 D1.length c1') (.slice A2 U1.length c2) (.slice A3 P1.length c3)
    unfold set4 at hv hbb
    exact ⟨_, _, _, _, rfl, hv.r0, hv.r1, hv.r2, hv.r3, hbb⟩
   rw [if_pos c1] at H
   have b1 : decide (i < a1) = true := Z35 c1
   obtain ⟨⟨d', u', p', r⟩, hs, H⟩ := Z33.mp H
   obtain ⟨hd, hu', hp⟩ := HL.1
   have hbk := BK.1
   rw [← hd, ← hu', ← hp] at hbk
   have HBK := Ya hbk
   clear hbk c1
   have ad : Aside0 (FoV _ w.heap.size (.slice A0 b.length c0) (.slice A1 d.length c1') (.slice A2 u.length c2) (.slice A3 p.length c3) b d u p) := ⟨by have := HV.1; rw [← hd, ← hu', ← hp] at this; exact this⟩
   have H' := Ya H
   have HS := Ya hs
   obtain ⟨hl, hl0, hl1, hl2, hl3⟩ := stepF_len hs
   have HL2 := Ya hl
   obtain ⟨g0, q0, g1, q1, g2, q2, g3, q3, e0, e1, e2, e3, hF⟩ := FoR.of ad.1.r0 ad.1.r1 ad.1.r2 ad.1.r3 hl0 hl1 hl2 hl3
   injection e0 with x0 _ z0
   injection e1 with x1 _ z1
   injection e2 with x2 _ z2
   injection e3 with x3 _ z3
   subst x0 z0 x1 z1 x2 z2 x3 z3
   have HF := Ya hF
   clear H hs hl hl0 hl1 hl2 hl3 hF hd hu' hp HV ad
   go_wp2_with (first | ((with_reducible refine gate_callee (f := 51) rfl ?_); refine Yz 11 Tryz.func51 #[.pointer (some ⟨ab, 0, none⟩)] ?_ (hargs := Q19); (with_reducible refine (impl_Focus_step.calls w ab g0 c0 g1 c1' g2 c2 g3 c3 b d u p d' u' p' r _ HBK.1 HF.1 HB.1 HS.1).mono ?_); rintro e w7 ⟨rfl, hk1, hk2, hk3, hk4⟩; refine ⟨_, rfl, ?_⟩; have ap_ := FoR.apart HF.1 aa.1 (by decide) (by decide); have n1_ := Ya (blk_kept aa.1 hk3 (fun hs_ => by rcases hs_ with e | e | e; exact ap_.2.1 e; exact ap_.2.2.1 e; exact ap_.2.2.2 e)); have n0_ := Ya (hk1.trans BK.1); clear HBK BK HF aa HB ap_; have BK := n0_; have HF := Ya hk2; have aa := n1_; have HB := Ya hk4; clear n0_ n1_ hk1 hk2 hk3 hk4; have hv := FoR.back HF.1; have hV7 : FoV w7 w.heap.size (.slice (some ⟨g0, 0, none⟩) b.length c0) (.slice (some ⟨g1, 0, none⟩) d'.length c1') (.slice (some ⟨g2, 0, none⟩) u'.length c2) (.slice (some ⟨g3, 0, none⟩) p'.length c3) b d' u' p' := ⟨hv.1, hv.2.1, hv.2.2.1, hv.2.2.2⟩; rw [HL2.1.1, HL2.1.2.1, HL2.1.2.2, HL.1.1, HL.1.2.1, HL.1.2.2] at hV7; have HV := Ya hV7; clear hv hV7))
   go_roundg k1
   case measure => have := HK1.1; omega
   case rel => exact ⟨_, d', u', p', Q70, H', ⟨Q35⟩, ⟨by obtain ⟨a_, b_, c_⟩ := HL2.1; obtain ⟨x_, y_, z_⟩ := HL.1; exact ⟨a_.trans x_, b_.trans y_, c_.trans z_⟩⟩, BK, aa, HV, HB⟩
def impl_IsFocus.f (k : Nat) (ab : List Int) (ac : List Int) (ad : List Bool) (ae : List Int) : Option (Bool) := (impl_areFocusBases.f k ab).bind fun af => (if af = true then ((impl_areDigits.f k ab ac).bind fun ag => (if ag = true then ((impl_mixedRank.f k ab ac).bind fun ah => ((impl_focusAt.f k ab ah).bind fun aa => ((impl_Focus_same.f k ab ac ad ae aa.1 aa.2.1 aa.2.2.1 aa.2.2.2).bind fun ai => (some ai)))) else (some false))) else (some false))
def impl_IsFocus.T1 : Bool × List (List Nat × List Nat) := (true, [([], []), ([0], [0]), ([1], [1]), ([2, 2], [2]), ([3], [3]), ([4, 3], [3, 4]), ([3], [3]), ([6, 3], [3, 6]), ([5, 7, 3, 3], [3, 5, 7]), ([3, 8], [3, 8]), ([9, 8], [9]), ([10], [10]), ([10], [10]), ([12, 10], [10, 12]), ([10], [10]), ([14, 10], [10, 14]), ([10], [10]), ([16, 10], [10, 16]), ([15, 17, 10, 10], [10, 15, 17]), ([13, 18, 18, 10], [10, 13, 18]), ([11, 19, 19, 10], [10, 11, 19]), ([10, 20], [10, 20]), ([21, 20, 0, 1, 2, 3, 4, 5, 6, 7, 8, 9, 10, 11, 12, 13, 14, 15, 16, 17, 18, 19, 20, 21], [21])])
def impl_IsFocus.B1 : List Nat := [0, 1, 3, 7, 15, 31, 15, 79, 255, 511, 1023, 2047, 2047, 6143, 2047, 18431, 2047, 67583, 247807, 522239, 1048575, 2097151, 4194303]
theorem impl_IsFocus.tab1 : rtab .any (opsOf Tryz.f33 1) = impl_IsFocus.T1 := by kernel_rfl
theorem impl_IsFocus.bits1 : waitsOk impl_IsFocus.T1.2 impl_IsFocus.B1 = true := by kernel_rfl
theorem impl_IsFocus.calls (k : Nat) (ag : Option Addr) (ah : Nat) (ab : List Int) (am : Option Addr) (an : Nat) (ae : List Int) (aq : Option Addr) (ar : Nat) (ai : List Bool) (au : Option Addr) (av : Nat) (aj : List Int) (r : Bool) (w : World) (aE : Kd.C (Kd.int .i64) w ag ab.length ab) (aF : ab.length ≤ ah) (aG : Kd.C (Kd.int .i64) w am ae.length ae) (aH : ae.length ≤ an) (aI : Kd.C Kd.bool w aq ai.length ai) (aJ : ai.length ≤ ar) (aK : Kd.C (Kd.int .i64) w au aj.length aj) (aL : aj.length ≤ av) (h : impl_IsFocus.f k ab ae ai aj = some r) :
  Calls Tryz.prog 33 #[.agg #[.slice ag ab.length ah, .slice am ae.length an, .slice aq ai.length ar, .slice au aj.length av]] w fun e w' => e = .returned (.bool r) ∧ Below w.heap.size w w' := by
 have hu27 := Tryz.underlying27
 have ak := Ya aE
 have al := Ya aF
 clear aE aF
 have aA := Ya aG
 have aB := Ya aH
 clear aG aH
 have aZ := Ya aI
 have a0 := Ya aJ
 clear aI aJ
 have a1 := Ya aK
 have a2 := Ya aL
 clear aK aL
 have HB := Ya (Below.refl w.heap.size w)
 have H : ((impl_areFocusBases.f k ab).bind fun a3 => (if a3 = true then ((impl_areDigits.f k ab ae).bind fun a4 => (if a4 = true then ((impl_mixedRank.f k ab ae).bind fun aD => ((impl_focusAt.f k ab aD).bind fun aC => ((impl_Focus_same.f k ab ae ai aj aC.1 aC.2.1 aC.2.2.1 aC.2.2.2).bind fun aN => (some aN)))) else (some false))) else (some false))) = some r := h
 clear h
 replace H := YB H
 obtain ⟨a3, A2, H⟩ := H
 replace H := YC H
 obtain ⟨rfl, H⟩ | ⟨rfl, H⟩ := H
 ·replace H := YB H
  obtain ⟨a4, A4, H⟩ := H
  replace H := YC H
  obtain ⟨rfl, H⟩ | ⟨rfl, H⟩ := H
  ·replace H := YB H
   obtain ⟨aD, A6, H⟩ := H
   replace H := YB H
   obtain ⟨⟨aO, aP, aQ, aR⟩, A7, H⟩ := H
   dsimp only at H
   replace H := YB H
   obtain ⟨aN, A8, H⟩ := H
   obtain rfl := Option.some.inj H
   go_enter Tryz.func33, Tryz.ntmps33
   try go_wp2_with (first | ((with_reducible refine gate_dst (N := 1) rfl ?_); refine Yx 1 #[.slice ag ab.length ah, .slice am ae.length an, .slice aq ai.length ar, .slice au aj.length av] 27 ?_; intro af hg w9 hbox hb; have aa := Ya hbox; have aM := Yg hg; replace HB := Yh hb; clear hb hbox hg))
   replace aa := Ya (Z23 aa.1)
   replace HB := Ya (Z4 HB.1)
   refine start_ (n := 23) (S := fun w' => w'.cell? ⟨af, 0, none⟩ = some (.slice ag ab.length ah) ∧ w'.cell? ⟨af, 1, none⟩ = some (.slice am ae.length an) ∧ w'.cell? ⟨af, 2, none⟩ = some (.slice aq ai.length ar) ∧ w'.cell? ⟨af, 3, none⟩ = some (.slice au aj.length av)) (ds := []) (YA 23 0) (by kernel_rfl) rfl rfl (Yz4 aa.1) (fun hHeld => ?_); refine with_tabW impl_IsFocus.tab1 impl_IsFocus.bits1 (fun HT_ HW_ => ?_)
   generalize w9.drew = bz at aa HB hHeld ⊢
   refine Yp 0 (some 3) (YA 23 1) rfl HT_.1 ?_
   refine Yt 1 (some 4) (YA 23 3) rfl HT_.1 HW_.1 hHeld Q8 ?_
   refine one_ (i := 2) (N := some 5) (YA 23 7) rfl rfl (one_of HT_.1 (by kernel_rfl)) (by decide) (fun K hK => ?_)
   refine goes_ Tryz.func62 (by kernel_rfl) rfl #[.slice ag ab.length ah] (by rfl) rfl rfl Q20 ?_
   with_reducible refine (impl_areFocusBases.calls k _ _ ab true _ ?ac ?ad A2.1).mono ?_
   (case ac => exact Yc (Z19 ak.1 HB.1))
   (case ad => exact al.1)
   rintro e bA ⟨rfl, hb⟩
   refine ⟨_, rfl, ?_⟩
   replace aa := Yb aa hb
   replace HB := Yh hb
   (try clear hb)
   refine hK.out _ _ (Yz4 aa.1) (fun hHeld => ?_)
   clear hK K
   refine YNa 5 ?_
   refine Yp 3 (some 6) (YA 23 15) rfl HT_.1 ?_
   refine Yp 4 (some 7) (YA 23 31) rfl HT_.1 ?_
   refine Yp 6 (some 9) (YA 23 95) rfl HT_.1 ?_
   refine Yt 5 (some 8) (YA 23 127) rfl HT_.1 HW_.1 hHeld Q8 ?_
   refine Yt 7 (some 10) (YA 23 255) rfl HT_.1 HW_.1 hHeld Q8 ?_
   refine one_ (i := 8) (N := some 11) (YA 23 511) rfl rfl (one_of HT_.1 (by kernel_rfl)) (by decide) (fun K hK => ?_)
   refine goes_ Tryz.func63 (by kernel_rfl) rfl #[.slice ag ab.length ah, .slice am ae.length an] (by rfl) rfl rfl Q20 ?_
   with_reducible refine (impl_areDigits.calls k _ _ ab _ _ ae true _ ?ac ?ad ?ao ?ap A4.1).mono ?_
   (case ac => exact Yc (Z19 ak.1 HB.1))
   (case ad => exact al.1)
   (case ao => exact Yc (Z19 aA.1 HB.1))
   (case ap => exact aB.1)
   rintro e w' ⟨rfl, ⟨nd, rfl⟩⟩
   refine ⟨_, rfl, ?_⟩
   refine hK.out _ _ (Yz4 aa.1) (fun hHeld => ?_)
   clear hK K
   refine YNa 11 ?_
   refine Yp 9 (some 12) (YA 23 1023) rfl HT_.1 ?_
   refine Yp 10 (some 13) (YA 23 2047) rfl HT_.1 ?_
   refine Yp 12 (some 15) (YA 23 6143) rfl HT_.1 ?_
   refine Yp 14 (some 17) (YA 23 22527) rfl HT_.1 ?_
   refine Yp 16 (some 19) (YA 23 88063) rfl HT_.1 ?_
   refine Yt 11 (some 14) (YA 23 90111) rfl HT_.1 HW_.1 hHeld Q8 ?_
   refine Yt 13 (some 16) (YA 23 98303) rfl HT_.1 HW_.1 hHeld Q8 ?_
   refine Yt 15 (some 18) (YA 23 131071) rfl HT_.1 HW_.1 hHeld Q8 ?_
   refine Yt 17 (some 20) (YA 23 262143) rfl HT_.1 HW_.1 hHeld Q8 ?_
   refine one_ (i := 18) (N := some 21) (YA 23 524287) rfl rfl (one_of HT_.1 (by kernel_rfl)) (by decide) (fun K hK => ?_)
   refine goes_ Tryz.func30 (by kernel_rfl) rfl #[.slice ag ab.length ah, .slice am ae.length an] (by rfl) rfl rfl Q20 ?_
   with_reducible refine (impl_mixedRank.calls k _ _ ab _ _ ae aD _ ?ac ?ad ?ao ?ap A6.1).mono ?_
   (case ac => exact Yc (Z19 ak.1 Q0))
   (case ad => exact al.1)
   (case ao => exact Yc (Z19 aA.1 Q0))
   (case ap => exact aB.1)
   rintro e bB ⟨rfl, hb⟩
   refine ⟨_, rfl, ?_⟩
   replace aa := Yb aa hb
   replace HB := Yh hb
   (try clear hb)
   refine hK.out _ _ (Yz4 aa.1) (fun hHeld => ?_)
   clear hK K
   refine YNa 21 ?_
   refine one_ (i := 19) (N := some 22) (YA 23 1048575) rfl rfl (one_of HT_.1 (by kernel_rfl)) (by decide) (fun K hK => ?_)
   refine goes_ Tryz.func65 (by kernel_rfl) rfl #[.slice ag ab.length ah, .int .i64 aD] (by rfl) rfl rfl Q20 ?_
   with_reducible refine (impl_focusAt.calls k _ _ ab aD aO aP aQ aR _ ?ac ?ad A7.1).mono ?_
   (case ac => exact Yc (Z19 ak.1 HB.1))
   (case ad => exact al.1)
   rintro e bC ⟨bq, br, bu, bv, rfl, bm, bn, bo, bp, hb⟩
   refine ⟨_, rfl, ?_⟩
   have aw := Yl bm
   have ax := Yl bn
   have ay := Yl bo
   have az := Yl bp
   replace aa := Yb aa hb
   replace HB := Yh hb
   (try clear hb bm bn bo bp)
   obtain ⟨be, bf, a5⟩ := Z15 aw.1
   (first | subst a5 | (injection a5 with f1_ f2_ f3_; have f4_ := f1_.symm; have f5_ := f3_.symm; clear f1_ f2_ f3_; subst f4_; subst f5_))
   obtain ⟨bg, bh, a6⟩ := Z15 ax.1
   (first | subst a6 | (injection a6 with f1_ f2_ f3_; have f4_ := f1_.symm; have f5_ := f3_.symm; clear f1_ f2_ f3_; subst f4_; subst f5_))
   obtain ⟨bi, bj, a7⟩ := Z15 ay.1
   (first | subst a7 | (injection a7 with f1_ f2_ f3_; have f4_ := f1_.symm; have f5_ := f3_.symm; clear f1_ f2_ f3_; subst f4_; subst f5_))
   obtain ⟨bk, bl, a8⟩ := Z15 az.1
   (first | subst a8 | (injection a8 with f1_ f2_ f3_; have f4_ := f1_.symm; have f5_ := f3_.symm; clear f1_ f2_ f3_; subst f4_; subst f5_))
   refine hK.out _ _ (Yz4 aa.1) (fun hHeld => ?_)
   clear hK K
   refine YNa 22 ?_
   refine one_ (i := 20) (N := some 23) (YA 23 2097151) rfl rfl (one_of HT_.1 (by kernel_rfl)) (by decide) (fun K hK => ?_)
   refine goes_ Tryz.func64 (by kernel_rfl) rfl #[.agg #[.slice ag ab.length ah, .slice am ae.length an, .slice aq ai.length ar, .slice au aj.length av], .agg #[.slice be aO.length bf, .slice bg aP.length bh, .slice bi aQ.length bj, .slice bk aR.length bl]] (by rfl) rfl rfl Q20 ?_
   with_reducible refine (impl_Focus_same.calls k _ _ ab _ _ ae _ _ ai _ _ aj _ _ aO _ _ aP _ _ aQ _ _ aR aN _ ?ac ?ad ?ao ?ap ?a9 ?ba ?bb ?bc ?bd ?aS ?aT ?aU ?aV ?aW ?aX ?aY A8.1).mono ?_
   (case ac => exact Yc (Z19 ak.1 HB.1))
   (case ad => exact al.1)
   (case ao => exact Yc (Z19 aA.1 HB.1))
   (case ap => exact aB.1)
   (case a9 => exact Yc (Z19 aZ.1 HB.1))
   (case ba => exact a0.1)
   (case bb => exact Yc (Z19 a1.1 HB.1))
   (case bc => exact a2.1)
   (case bd => exact Yc (Kd.R_reads' aw.1).2.2)
   (case aS => exact (Kd.R_reads' aw.1).2.1)
   (case aT => exact Yc (Kd.R_reads' ax.1).2.2)
   (case aU => exact (Kd.R_reads' ax.1).2.1)
   (case aV => exact Yc (Kd.R_reads' ay.1).2.2)
   (case aW => exact (Kd.R_reads' ay.1).2.1)
   (case aX => exact Yc (Kd.R_reads' az.1).2.2)
   (case aY => exact (Kd.R_reads' az.1).2.1)
   rintro e bD ⟨rfl, hb⟩
   refine ⟨_, rfl, ?_⟩
   replace aw := Yw aw hb
   replace ax := Yw ax hb
   replace ay := Yw ay hb
   replace az := Yw az hb
   replace aa := Yb aa hb
   replace HB := Yh hb
   (try clear hb)
   refine hK.out _ _ (Yz4 aa.1) (fun hHeld => ?_)
   clear hK K
   refine YNa 23 ?_
   refine Yp 21 (some 24) (YA 23 4194303) rfl HT_.1 ?_
   refine Yp 22 (some 2) (YA 23 8388607) rfl HT_.1 ?_
   refine done_ (done_of HT_.1 (by kernel_rfl)) ?_
   try go_wp2
   go_ret
   exact ⟨Q2, Q12⟩
  ·obtain rfl := Option.some.inj H
   go_enter Tryz.func33, Tryz.ntmps33
   try go_wp2_with (first | ((with_reducible refine gate_dst (N := 1) rfl ?_); refine Yx 1 #[.slice ag ab.length ah, .slice am ae.length an, .slice aq ai.length ar, .slice au aj.length av] 27 ?_; intro af hg bw hbox hb; have aa := Ya hbox; have aM := Yg hg; replace HB := Yh hb; clear hb hbox hg))
   replace aa := Ya (Z23 aa.1)
   replace HB := Ya (Z4 HB.1)
   refine start_ (n := 23) (S := fun w' => w'.cell? ⟨af, 0, none⟩ = some (.slice ag ab.length ah) ∧ w'.cell? ⟨af, 1, none⟩ = some (.slice am ae.length an) ∧ w'.cell? ⟨af, 2, none⟩ = some (.slice aq ai.length ar) ∧ w'.cell? ⟨af, 3, none⟩ = some (.slice au aj.length av)) (ds := []) (YA 23 0) (by kernel_rfl) rfl rfl (Yz4 aa.1) (fun hHeld => ?_); refine with_tabW impl_IsFocus.tab1 impl_IsFocus.bits1 (fun HT_ HW_ => ?_)
   generalize bw.drew = bE at aa HB hHeld ⊢
   refine Yp 0 (some 3) (YA 23 1) rfl HT_.1 ?_
   refine Yt 1 (some 4) (YA 23 3) rfl HT_.1 HW_.1 hHeld Q8 ?_
   refine one_ (i := 2) (N := some 5) (YA 23 7) rfl rfl (one_of HT_.1 (by kernel_rfl)) (by decide) (fun K hK => ?_)
   refine goes_ Tryz.func62 (by kernel_rfl) rfl #[.slice ag ab.length ah] (by rfl) rfl rfl Q20 ?_
   with_reducible refine (impl_areFocusBases.calls k _ _ ab true _ ?ac ?ad A2.1).mono ?_
   (case ac => exact Yc (Z19 ak.1 HB.1))
   (case ad => exact al.1)
   rintro e bF ⟨rfl, hb⟩
   refine ⟨_, rfl, ?_⟩
   replace aa := Yb aa hb
   replace HB := Yh hb
   (try clear hb)
   refine hK.out _ _ (Yz4 aa.1) (fun hHeld => ?_)
   clear hK K
   refine YNa 5 ?_
   refine Yp 3 (some 6) (YA 23 15) rfl HT_.1 ?_
   refine Yp 4 (some 7) (YA 23 31) rfl HT_.1 ?_
   refine Yp 6 (some 9) (YA 23 95) rfl HT_.1 ?_
   refine Yt 5 (some 8) (YA 23 127) rfl HT_.1 HW_.1 hHeld Q8 ?_
   refine Yt 7 (some 10) (YA 23 255) rfl HT_.1 HW_.1 hHeld Q8 ?_
   refine one_ (i := 8) (N := some 11) (YA 23 511) rfl rfl (one_of HT_.1 (by kernel_rfl)) (by decide) (fun K hK => ?_)
   refine goes_ Tryz.func63 (by kernel_rfl) rfl #[.slice ag ab.length ah, .slice am ae.length an] (by rfl) rfl rfl Q20 ?_
   with_reducible refine (impl_areDigits.calls k _ _ ab _ _ ae false _ ?ac ?ad ?ao ?ap A4.1).mono ?_
   (case ac => exact Yc (Z19 ak.1 HB.1))
   (case ad => exact al.1)
   (case ao => exact Yc (Z19 aA.1 HB.1))
   (case ap => exact aB.1)
   rintro e w' ⟨rfl, ⟨nd, rfl⟩⟩
   refine ⟨_, rfl, ?_⟩
   refine hK.out _ _ (Yz4 aa.1) (fun hHeld => ?_)
   clear hK K
   refine YNa 11 ?_
   refine Yp 9 (some 12) (YA 23 1023) rfl HT_.1 ?_
   refine Yp 10 (some 13) (YA 23 2047) rfl HT_.1 ?_
   refine YU 11 (some 14) (YA 23 4095) rfl HT_.1 ?_
   refine YU 12 (some 15) (YA 23 8191) rfl HT_.1 ?_
   refine YU 13 (some 16) (YA 23 16383) rfl HT_.1 ?_
   refine YU 14 (some 17) (YA 23 32767) rfl HT_.1 ?_
   refine YU 15 (some 18) (YA 23 65535) rfl HT_.1 ?_
   refine YU 16 (some 19) (YA 23 131071) rfl HT_.1 ?_
   refine YU 17 (some 20) (YA 23 262143) rfl HT_.1 ?_
   refine YU 18 (some 21) (YA 23 524287) rfl HT_.1 ?_
   refine YU 19 (some 22) (YA 23 1048575) rfl HT_.1 ?_
   refine YU 20 (some 23) (YA 23 2097151) rfl HT_.1 ?_
   refine Yp 21 (some 24) (YA 23 4194303) rfl HT_.1 ?_
   refine Yp 22 (some 2) (YA 23 8388607) rfl HT_.1 ?_
   refine done_ (done_of HT_.1 (by kernel_rfl)) ?_
   try go_wp2
   go_ret
   exact ⟨Q2, Q12⟩
 ·obtain rfl := Option.some.inj H
  go_enter Tryz.func33, Tryz.ntmps33
  try go_wp2_with (first | ((with_reducible refine gate_dst (N := 1) rfl ?_); refine Yx 1 #[.slice ag ab.length ah, .slice am ae.length an, .slice aq ai.length ar, .slice au aj.length av] 27 ?_; intro af hg bx hbox hb; have aa := Ya hbox; have aM := Yg hg; replace HB := Yh hb; clear hb hbox hg))
  replace aa := Ya (Z23 aa.1)
  replace HB := Ya (Z4 HB.1)
  refine start_ (n := 23) (S := fun w' => w'.cell? ⟨af, 0, none⟩ = some (.slice ag ab.length ah) ∧ w'.cell? ⟨af, 1, none⟩ = some (.slice am ae.length an) ∧ w'.cell? ⟨af, 2, none⟩ = some (.slice aq ai.length ar) ∧ w'.cell? ⟨af, 3, none⟩ = some (.slice au aj.length av)) (ds := []) (YA 23 0) (by kernel_rfl) rfl rfl (Yz4 aa.1) (fun hHeld => ?_); refine with_tabW impl_IsFocus.tab1 impl_IsFocus.bits1 (fun HT_ HW_ => ?_)
  generalize bx.drew = bG at aa HB hHeld ⊢
  refine Yp 0 (some 3) (YA 23 1) rfl HT_.1 ?_
  refine Yt 1 (some 4) (YA 23 3) rfl HT_.1 HW_.1 hHeld Q8 ?_
  refine one_ (i := 2) (N := some 5) (YA 23 7) rfl rfl (one_of HT_.1 (by kernel_rfl)) (by decide) (fun K hK => ?_)
  refine goes_ Tryz.func62 (by kernel_rfl) rfl #[.slice ag ab.length ah] (by rfl) rfl rfl Q20 ?_
  with_reducible refine (impl_areFocusBases.calls k _ _ ab false _ ?ac ?ad A2.1).mono ?_
  (case ac => exact Yc (Z19 ak.1 HB.1))
  (case ad => exact al.1)
  rintro e bH ⟨rfl, hb⟩
  refine ⟨_, rfl, ?_⟩
  replace aa := Yb aa hb
  replace HB := Yh hb
  (try clear hb)
  refine hK.out _ _ (Yz4 aa.1) (fun hHeld => ?_)
  clear hK K
  refine YNa 5 ?_
  refine Yp 3 (some 6) (YA 23 15) rfl HT_.1 ?_
  refine YU 4 (some 7) (YA 23 31) rfl HT_.1 ?_
  refine YU 5 (some 8) (YA 23 63) rfl HT_.1 ?_
  refine YU 6 (some 9) (YA 23 127) rfl HT_.1 ?_
  refine YU 7 (some 10) (YA 23 255) rfl HT_.1 ?_
  refine YU 8 (some 11) (YA 23 511) rfl HT_.1 ?_
  refine Yp 9 (some 12) (YA 23 1023) rfl HT_.1 ?_
  refine Yp 10 (some 13) (YA 23 2047) rfl HT_.1 ?_
  refine YU 11 (some 14) (YA 23 4095) rfl HT_.1 ?_
  refine YU 12 (some 15) (YA 23 8191) rfl HT_.1 ?_
  refine YU 13 (some 16) (YA 23 16383) rfl HT_.1 ?_
  refine YU 14 (some 17) (YA 23 32767) rfl HT_.1 ?_
  refine YU 15 (some 18) (YA 23 65535) rfl HT_.1 ?_
  refine YU 16 (some 19) (YA 23 131071) rfl HT_.1 ?_
  refine YU 17 (some 20) (YA 23 262143) rfl HT_.1 ?_
  refine YU 18 (some 21) (YA 23 524287) rfl HT_.1 ?_
  refine YU 19 (some 22) (YA 23 1048575) rfl HT_.1 ?_
  refine YU 20 (some 23) (YA 23 2097151) rfl HT_.1 ?_
  refine Yp 21 (some 24) (YA 23 4194303) rfl HT_.1 ?_
  refine Yp 22 (some 2) (YA 23 8388607) rfl HT_.1 ?_
  refine done_ (done_of HT_.1 (by kernel_rfl)) ?_
  try go_wp2
  go_ret
  exact ⟨Q2, Q12⟩
def impl_startSwapper.l0 : Nat → Int → List Int → Int → Option (List Int × List Int × List Bool × List Int × List Int × List Int)
 | 0, _, _, _ => none
 | k + 1, x0, x3, x4 => if x4 ≤ x0 then (if x3.length < 17592186044416 then (impl_startSwapper.l0 k x0 (x3 ++ [x4]) (wrap64 (x4 + 1))) else (none)) else ((impl_startFocus.f k x3).bind fun aa => ((impl_identity.f k x0).bind fun ab => ((impl_identity.f k x0).bind fun ac => (some (aa.1, aa.2.1, aa.2.2.1, aa.2.2.2, ab, ac)))))
def impl_startSwapper.f (k : Nat) (a0 : Int) : Option (List Int × List Int × List Bool × List Int × List Int × List Int) := impl_startSwapper.l0 k a0 (([] : List Int)) 2
theorem impl_startSwapper.calls (k : Nat) (a0 : Int) (r1 : List Int) (r2 : List Int) (r3 : List Bool) (r4 : List Int) (r5 : List Int) (r6 : List Int) (w : World) (h : impl_startSwapper.f k a0 = some (r1, r2, r3, r4, r5, r6)) :
  Calls Tryz.prog 34 #[.int .i64 a0] w fun e w' => ∃ v0_ v1_ v2_ v3_ v4_ v5_ : Value, e = .returned (.agg #[v0_, v1_, v2_, v3_, v4_, v5_]) ∧ Kd.R (Kd.int .i64) 3 w' w.heap.size (fun k_ => some k_ ≠ (v1_ : Value).ownBlock ∧ some k_ ≠ (v3_ : Value).ownBlock ∧ some k_ ≠ (v4_ : Value).ownBlock ∧ some k_ ≠ (v5_ : Value).ownBlock) v0_ r1 ∧ Kd.R (Kd.int .i64) 3 w' w.heap.size (fun k_ => some k_ ≠ (v0_ : Value).ownBlock ∧ some k_ ≠ (v3_ : Value).ownBlock ∧ some k_ ≠ (v4_ : Value).ownBlock ∧ some k_ ≠ (v5_ : Value).ownBlock) v1_ r2 ∧ Kd.R Kd.bool 4 w' w.heap.size (fun _ => True) v2_ r3 ∧ Kd.R (Kd.int .i64) 3 w' w.heap.size (fun k_ => some k_ ≠ (v0_ : Value).ownBlock ∧ some k_ ≠ (v1_ : Value).ownBlock ∧ some k_ ≠ (v4_ : Value).ownBlock ∧ some k_ ≠ (v5_ : Value).ownBlock) v3_ r4 ∧ Kd.R (Kd.int .i64) 3 w' w.heap.size (fun k_ => some k_ ≠ (v0_ : Value).ownBlock ∧ some k_ ≠ (v1_ : Value).ownBlock ∧ some k_ ≠ (v3_ : Value).ownBlock ∧ some k_ ≠ (v5_ : Value).ownBlock) v4_ r5 ∧ Kd.R (Kd.int .i64) 3 w' w.heap.size (fun k_ => some k_ ≠ (v0_ : Value).ownBlock ∧ some k_ ≠ (v1_ : Value).ownBlock ∧ some k_ ≠ (v3_ : Value).ownBlock ∧ some k_ ≠ (v4_ : Value).ownBlock) v5_ r6 ∧ Below w.heap.size w w' := by
 have hu29 := Tryz.underlying29
 have HB := Ya (Below.refl w.heap.size w)
 have H : (impl_startSwapper.l0 k a0 (([] : List Int)) 2) = some (r1, r2, r3, r4, r5, r6) := h
 clear h
 obtain ⟨ao, ah⟩ : ∃ y_ : List Int, y_ = (([] : List Int)) := ⟨_, rfl⟩
 replace H : (impl_startSwapper.l0 k a0 ao 2) = some (r1, r2, r3, r4, r5, r6) := by first | (rw [ah]; with_reducible exact H) | (have H2_ := (Option.bind_some _ _).symm.trans H; rw [ah]; with_reducible exact H2_) | (have H2_ := (Option.bind_some _ _).symm.trans H; with_reducible exact H2_) | with_reducible exact H | (rw [ah]; exact H) | exact H
 have am := Ya ah
 clear ah
 have H' := Ya H
 clear H
 go_enter Tryz.func34, Tryz.ntmps34
 go_wp2_with (first | ((with_reducible refine gate_dst (N := 2) rfl ?_); refine Yx 2 #[.slice none 0 0, .slice none 0 0, .slice none 0 0, .slice none 0 0, .slice none 0 0, .slice none 0 0] 29 ?_; intro al hg w2 hbox hb; have aa := Ya hbox; have aZ := Yg hg; replace HB := Yh hb; clear hb hbox hg) | ((with_reducible refine gate_dst (N := 5) rfl ?_); refine Kd.R_lit (Kd.int .i64) _ 3 ?hg (N := 5) ?hd (xs := ([] : List Int)) (inner := []) (ok := fun _ => True) (okp := fun _ => True) ?hr ?hp (fun _ hk => hk) trivial (Below.refl _ _) (Nat.le_refl _) (by simp) ?_; (case hd => rfl); (case hg => rfl); (case hr => first | (go_simp; done) | (go_simp; rfl)); (case hp => exact (Reps.none _ _)); intro a2 w3 ap hb hg_ hnew_; clear hg_ hnew_; (first | rw [← am.1] at ap | (simp only [Int.reduceToNat] at ap; rw [← am.1] at ap)); have aq := Yl ap; replace aa := Yb aa hb; replace HB := Yh hb; clear hb ap))
 go_loopg [3, 4] k (fun kq v3 v4 w' => ∃ (ai : List Int) (af : Int), v4 = .int .i64 af ∧ Aside0 (impl_startSwapper.l0 kq a0 ai af = some (r1, r2, r3, r4, r5, r6)) ∧ Aside0 (kq ≤ k) ∧ Aside0 (Kd.R (Kd.int .i64) 3 w' w.heap.size (fun _ => True) v3 ai) ∧ Aside0 (w'.heap[al]? = some (.cells #[(.slice none 0 0), (.slice none 0 0), (.slice none 0 0), (.slice none 0 0), (.slice none 0 0), (.slice none 0 0)] 29 (0, 0))) ∧ Aside0 (Below w.heap.size w w'))
 case atStart => exact ⟨(ao), (2), Q17, H', ⟨Nat.le_refl _⟩, ⟨by (with_reducible repeat (first | apply Z9 | apply Z10 | apply Z11)); exact aq.1⟩, ⟨by (with_reducible repeat (first | refine Z22 ?_ _ | refine Z23 ?_ | refine Z24 ?_ _)); exact aa.1⟩, ⟨Q12⟩⟩
 case round =>
  clear H'
  obtain ⟨ai, af, rfl, HA, HK1, HO_3, aa, HB⟩ := hrel
  cases gk with
  | zero => exact absurd HA.1 (by simp [impl_startSwapper.l0])
  | succ k1 =>
   have H := HA.1
   clear HA
   simp only [impl_startSwapper.l0] at H
   by_cases c5 : af ≤ a0
   ·rw [if_pos c5] at H
    have aD := Z35 c5
    clear c5
    by_cases c6 : ai.length < 17592186044416
    ·rw [if_pos c6] at H
     have LMc6 := Ya c6
     clear c6
     obtain ⟨ar, aj⟩ : ∃ y_ : List Int, y_ = (ai ++ [af]) := ⟨_, rfl⟩
     replace H : (impl_startSwapper.l0 k1 a0 ar (wrap64 (af + 1))) = some (r1, r2, r3, r4, r5, r6) := by first | (rw [aj]; with_reducible exact H) | (have H2_ := (Option.bind_some _ _).symm.trans H; rw [aj]; with_reducible exact H2_) | (have H2_ := (Option.bind_some _ _).symm.trans H; with_reducible exact H2_) | with_reducible exact H | (rw [aj]; exact H) | exact H
     have au := Ya aj
     clear aj
     have H' := Ya H
     clear H
     go_wp2_with (first | ((with_reducible refine gate_builtin (b := .append) (xs := #[.tmp 11, .tmp 13]) rfl ?_); at_builtin; refine Kd.R_append (Kd.int .i64) (w0 := w) w.heap.size rfl (.tmp 11) (.tmp 13) 24 3 (.int .i64 0) 8 rfl Tryz.underlying24 info3 rfl (by decide) (by omega) u3 ai af [.int .i64 af] (fun _ => True) (fun _ => False) rfl rfl ?aP (fun _ hk => hk.elim) ?aF ?aO ?aB ?aS ?aL ?_; (case aP => exact rfl); (case aB => exact Q0); (case aF => exact (fun _ _ => trivial)); (case aO => exact (Yr HO_3.1)); (case aS => exact (Z7 Q0)); (case aL => have := LMc6.1; omega); intro a3 w7 ho hb hg hat; rw [← au.1] at ho; replace aa := Ya (blk_grown (g := al) (o := .cells #[.slice none 0 0, .slice none 0 0, .slice none 0 0, .slice none 0 0, .slice none 0 0, .slice none 0 0] 29 (0, 0)) (Yk aa.1) hg (Kd.R_ne HO_3.1 aa.1 (by decide))); replace HB := Ya hb; have av := Ya ho; clear HO_3; clear ho hb hg hat))
     go_roundg k1
     case measure => have := HK1.1; omega
     case rel => exact ⟨(ar), (wrap64 (af + 1)), Q17, H', ⟨Q35⟩, ⟨by (with_reducible repeat (first | apply Z9 | apply Z10 | apply Z11)); exact av.1⟩, ⟨by (with_reducible repeat (first | refine Z22 ?_ _ | refine Z23 ?_ | refine Z24 ?_ _)); exact aa.1⟩, ⟨Q12⟩⟩
    ·rw [if_neg c6] at H
     exact absurd H (by simp)
   ·rw [if_neg c5] at H
    have aD := Z34 c5
    clear c5
    replace H := YB H
    obtain ⟨⟨aw, ax, ay, az⟩, A8, H⟩ := H
    dsimp only at H
    replace H := YB H
    obtain ⟨aA, A9, H⟩ := H
    replace H := YB H
    obtain ⟨aC, a4, H⟩ := H
    simp only [Option.some.injEq, Prod.mk.injEq] at H
    obtain ⟨rfl, rfl, rfl, rfl, rfl, rfl⟩ := H
    obtain ⟨aE, aG, rfl⟩ := Z15 HO_3.1
    go_wp2_with (first | ((with_reducible refine gate_callee (f := 66) rfl ?_); refine Yz 16 Tryz.func66 #[.slice aE ai.length aG] ?_; (with_reducible refine (impl_startFocus.calls k1 _ _ ai aw ax ay az _ (YX HO_3) (YL HO_3) A8.1).mono ?_); rintro e bc ⟨a5, a6, a7, a8, rfl, ag, aH, a1, aI, hb⟩; refine ⟨_, rfl, ?_⟩; have ab := Yl (YW ag HO_3); have ac := Yl (YW aH HO_3); have ae := Yl a1; have ad := Yl (YW aI HO_3); replace HO_3 := YM (YT (YT (YT (YO HO_3 hb) ag) aH) aI); replace aa := Yb aa hb; replace HB := Yh hb; (try clear hb ag aH a1 aI)) | ((with_reducible refine gate_callee (f := 67) rfl ?_); refine Yz 18 Tryz.func67 #[.int .i64 a0] ?_; (with_reducible refine (impl_identity.calls k1 a0 aA _ A9.1).mono ?_); rintro e bd ⟨a9, rfl, ag, hb⟩; refine ⟨_, rfl, ?_⟩; replace ae := Yw ae hb; have ak := Yl (YW (YW (YW (YW ag HO_3) ab) ac) ad); replace HO_3 := YE HO_3 ag hb; replace ab := YE ab ag hb; replace ac := YE ac ag hb; replace ad := YE ad ag hb; replace aa := Yb aa hb; replace HB := Yh hb; (try clear hb ag)) | ((with_reducible refine gate_callee (f := 67) rfl ?_); refine Yz 20 Tryz.func67 #[.int .i64 a0] ?_; (with_reducible refine (impl_identity.calls k1 a0 aC _ a4.1).mono ?_); rintro e be ⟨ba, rfl, ag, hb⟩; refine ⟨_, rfl, ?_⟩; replace ae := Yw ae hb; have an := Yl (YW (YW (YW (YW (YW ag HO_3) ab) ac) ad) ak); replace HO_3 := YE HO_3 ag hb; replace ab := YE ab ag hb; replace ac := YE ac ag hb; replace ad := YE ad ag hb; replace ak := YE ak ag hb; replace aa := Yb aa hb; replace HB := Yh hb; (try clear hb ag); obtain ⟨aJ, aK, rfl⟩ := Z15 an.1; obtain ⟨aM, aN, rfl⟩ := Z15 ak.1; obtain ⟨aQ, aR, rfl⟩ := Z15 ad.1; obtain ⟨aT, aU, rfl⟩ := Z15 ae.1; obtain ⟨aV, aW, rfl⟩ := Z15 ac.1; obtain ⟨aX, aY, rfl⟩ := Z15 ab.1; have bb := Y6 aa.1))
    refine bodyPost_ret (results_cell_row rfl _ _ al 29 #[.slice aX aw.length aY, .slice aV ax.length aW, .slice aT ay.length aU, .slice aQ az.length aR, .slice aM aA.length aN, .slice aJ aC.length aK] (0, 0) _ rfl (Yk (Yv6 aa.1)) Tryz.underlying29 rfl (by kernel_rfl)) rfl ?_
    exact ⟨_, _, _, _, _, _, Q2, Yj (Yf6 ab.1 aa.1) (fun _ hk => ⟨hk.1.1.1.1.1, ⟨hk.1.1.1.1.2, ⟨hk.1.1.2, hk.1.2⟩⟩⟩), Yj (Yf6 ac.1 aa.1) (fun _ hk => ⟨hk.1.1.1.1.1, ⟨hk.1.1.1.1.2, ⟨hk.1.1.2, hk.1.2⟩⟩⟩), Yj (Yf6 ae.1 aa.1) (fun _ hk => trivial), Yj (Yf6 ad.1 aa.1) (fun _ hk => ⟨hk.1.1.1.1.1, ⟨hk.1.1.1.1.2, ⟨hk.1.1.2, hk.1.2⟩⟩⟩), Yj (Yf6 ak.1 aa.1) (fun _ hk => ⟨hk.1.1.1.1.2, ⟨hk.1.1.1.2, ⟨hk.1.1.2, hk.1.2⟩⟩⟩), Yj (Yf6 an.1 aa.1) (fun _ hk => ⟨hk.1.1.1.1.2, ⟨hk.1.1.1.2, ⟨hk.1.1.2, hk.1.2⟩⟩⟩), Q12⟩
open Go.Proofs.YtapbbmicfkbafaaGreat.FoW Go.Proofs.YtapbbmicfkbafaaGreat.SwW in
theorem impl_Swapper_step.calls (w0 : World) (g g0 c0 g1 c1 g2 c2 g3 c3 g4 c4 g5 c5 : Nat) (b d : List Int) (u : List Bool) (p it wh d' : List Int) (u' : List Bool) (p' it' wh' : List Int) (r : Int) (w : World)
  (hb : w.heap[g]? = some (.cells #[.slice (some ⟨g0, 0, none⟩) b.length c0, .slice (some ⟨g1, 0, none⟩) d.length c1, .slice (some ⟨g2, 0, none⟩) u.length c2, .slice (some ⟨g3, 0, none⟩) p.length c3, .slice (some ⟨g4, 0, none⟩) it.length c4, .slice (some ⟨g5, 0, none⟩) wh.length c5] 29 (0, 0))) (hS : SwR w w0.heap.size g0 c0 g1 c1 g2 c2 g3 c3 g4 c4 g5 c5 b d u p it wh) (hW : Below w0.heap.size w0 w) (h : stepS b d u p it wh = some (d', u', p', it', wh', r)) :
  Calls Tryz.prog 27 #[.pointer (some ⟨g, 0, none⟩)] w fun e w' => e = .returned (.int .i64 r) ∧ w'.heap[g]? = w.heap[g]? ∧ SwR w' w0.heap.size g0 c0 g1 c1 g2 c2 g3 c3 g4 c4 g5 c5 b d' u' p' it' wh' ∧ Kept w w' (Ws g1 g2 g3 g4 g5) ∧ Below w0.heap.size w0 w' := by
 have hu := Tryz.underlying29
 have hu2 := Tryz.underlying27
 have hne := FoR.apart hS.f hb (by decide) (by decide)
 have hne2 := SwR.apart hS hb (by decide)
 have aa := Ya hb
 have BK := Ya hb
 have HS := Ya hS
 have HW := Ya hW
 unfold stepS at h
 simp only at h
 obtain ⟨J, hJ⟩ : ∃ J, rd p 0 = J := ⟨_, rfl⟩
 rw [hJ] at h
 obtain ⟨I, hI⟩ : ∃ I, (b.length : Int) - 1 - J = I := ⟨_, rfl⟩
 rw [hI] at h
 obtain ⟨X, hX⟩ : ∃ X, (it.length : Int) - 1 - J = X := ⟨_, rfl⟩
 rw [hX] at h
 obtain ⟨a, ha⟩ : ∃ a, (if rdOf false u I = true then rd wh X - 1 else rd wh X) = a := ⟨_, rfl⟩
 rw [ha] at h
 obtain ⟨Y, hY⟩ : ∃ Y, rd it a = Y := ⟨_, rfl⟩
 rw [hY] at h
 obtain ⟨Z, hZ⟩ : ∃ Z, rd it (a + 1) = Z := ⟨_, rfl⟩
 rw [hZ] at h
 by_cases hc : it.length ≤ 1000 ∧ wh.length ≤ 1000 ∧ 0 ≤ X ∧ X < wh.length ∧ -1000 ≤ rd wh X ∧ rd wh X ≤ 1000 ∧ 0 ≤ a ∧ a + 1 < it.length ∧ 0 ≤ Y ∧ Y < wh.length ∧ 0 ≤ Z ∧ Z < wh.length
 rotate_left
 ·rw [if_neg hc] at h; cases h
 rw [if_pos hc] at h
 obtain ⟨⟨D1, U1, P1, R1⟩, hs, h⟩ := Z33.mp h
 simp only [Option.some.injEq, Prod.mk.injEq] at h
 obtain ⟨rfl, rfl, rfl, rfl, rfl, rfl⟩ := h
 obtain ⟨j0, j1, m0, l1, l2, l3⟩ := stepF_cond hs
 rw [hJ] at j0 j1
 have HST := Ya hs
 obtain ⟨q0, q1, x0, x1, v0, v1, a0, a1, y0, y1, z0, z1⟩ := hc
 have HL := Ya (show (0 ≤ I ∧ I < u.length) ∧ (0 ≤ J ∧ 0 < p.length) ∧ (0 ≤ X ∧ X < wh.length) ∧ (0 ≤ a ∧ a + 1 < it.length) ∧ (0 ≤ Y ∧ Y < wh.length) ∧ (0 ≤ Z ∧ Z < wh.length) from ⟨⟨by omega, by omega⟩, ⟨by omega, by omega⟩, ⟨x0, x1⟩, ⟨a0, a1⟩, ⟨y0, y1⟩, ⟨z0, z1⟩⟩)
 have k1 : wrap64 ((b.length : Int) - 1) = (b.length : Int) - 1 := by unfold wrap64; omega
 have k1' : IntKind.i64.wrap ((b.length : Int) - 1) = (b.length : Int) - 1 := (i64_w _).trans k1
 have k2 : wrap64 ((b.length : Int) - 1 - J) = I := by rw [← hI]; unfold wrap64; omega
 have k2' : IntKind.i64.wrap ((b.length : Int) - 1 - J) = I := (i64_w _).trans k2
 have k3 : wrap64 ((it.length : Int) - 1) = (it.length : Int) - 1 := by unfold wrap64; omega
 have k3' : IntKind.i64.wrap ((it.length : Int) - 1) = (it.length : Int) - 1 := (i64_w _).trans k3
 have k4 : wrap64 ((it.length : Int) - 1 - J) = X := by rw [← hX]; unfold wrap64; omega
 have k4' : IntKind.i64.wrap ((it.length : Int) - 1 - J) = X := (i64_w _).trans k4
 have k5 : wrap64 (a + 1) = a + 1 := by unfold wrap64; omega
 have k5' : IntKind.i64.wrap (a + 1) = a + 1 := (i64_w _).trans k5
 have b1 : (0 ≤ I) = True := eq_true (by omega)
 have b2 : (I < (u.length : Int)) = True := eq_true (by omega)
 have b3 : (0 ≤ X) = True := eq_true x0
 have b4 : (X < (wh.length : Int)) = True := eq_true x1
 have b5 : (0 < p.length) = True := eq_true (by omega)
 have b6 : ((0 : Int) < (p.length : Int)) = True := eq_true (by omega)
 have b7 : decide (I < 0) = false := Z34 (by omega)
 have b8 : (0 ≤ a) = True := eq_true a0
 have b9 : (a < (it.length : Int)) = True := eq_true (by omega)
 have ab : (0 ≤ a + 1) = True := eq_true (by omega)
 have ac : (a + 1 < (it.length : Int)) = True := eq_true a1
 have ad : (0 ≤ Y) = True := eq_true y0
 have ae : (Y < (wh.length : Int)) = True := eq_true y1
 have af : (0 ≤ Z) = True := eq_true z0
 have ag : (Z < (wh.length : Int)) = True := eq_true z1
 have HY := Ya hY
 have HZ := Ya hZ
 have HV := Ya (show rd ((it.set a.toNat Z).set (a + 1).toNat Y) a = Z ∧ rd ((it.set a.toNat Z).set (a + 1).toNat Y) (a + 1) = Y from ⟨by rw [rd_set_ne _ _ _ _ (by omega), rd_set_eq _ _ _ (by omega)], by rw [rd_set_eq _ _ _ (by rw [List.length_set]; omega)]⟩)
 have e0 : w.cell? ⟨g, 0, none⟩ = some (.slice (some ⟨g0, 0, none⟩) b.length c0) := (Z20 hb 0).trans rfl
 have e2 : w.cell? ⟨g, 2, none⟩ = some (.slice (some ⟨g2, 0, none⟩) u.length c2) := (Z20 hb 2).trans rfl
 have e3 : w.cell? ⟨g, 3, none⟩ = some (.slice (some ⟨g3, 0, none⟩) p.length c3) := (Z20 hb 3).trans rfl
 have e4 : w.cell? ⟨g, 4, none⟩ = some (.slice (some ⟨g4, 0, none⟩) it.length c4) := (Z20 hb 4).trans rfl
 have e5 : w.cell? ⟨g, 5, none⟩ = some (.slice (some ⟨g5, 0, none⟩) wh.length c5) := (Z20 hb 5).trans rfl
 have f3 : w.cell? ⟨g3, 0, none⟩ = some (.int .i64 J) := by rw [← hJ]; exact (FoR.at3 hS.f 0 (by decide) (by omega)).1
 have f2 : w.cell? ⟨g2, I.toNat, none⟩ = some (.bool (rdOf false u I)) := (FoR.at2 hS.f I (by omega) (by omega)).1
 have f5 : w.cell? ⟨g5, X.toNat, none⟩ = some (.int .i64 (rd wh X)) := (SwR.at5 hS X (by omega) (by omega)).1
 have HVX := Ya (show -1000 ≤ rd wh X ∧ rd wh X ≤ 1000 from ⟨v0, v1⟩)
 clear hb hS hW hs hY hZ hJ hI hX j0 j1 m0 l1 l2 l3 q0 q1 x0 x1 v0 v1 a0 a1 y0 y1 z0 z1
 go_enter Tryz.func27, Tryz.ntmps27
 cases hU : rdOf false u I
 ·rw [hU] at f2 ha
  have hv : rd wh X = a := by simpa using ha
  rw [hv] at f5
  clear ha
  go_wp2_with fail
  refine (impl_Focus_step.callsG #[.slice (some ⟨g0, 0, none⟩) b.length c0, .slice (some ⟨g1, 0, none⟩) d.length c1, .slice (some ⟨g2, 0, none⟩) u.length c2, .slice (some ⟨g3, 0, none⟩) p.length c3, .slice (some ⟨g4, 0, none⟩) it.length c4, .slice (some ⟨g5, 0, none⟩) wh.length c5] 29 (by decide) w0 g g0 c0 g1 c1 g2 c2 g3 c3 b d u p D1 U1 P1 R1 w rfl rfl rfl rfl BK.1 HS.1.f HW.1 HST.1).mono ?_
  rintro e w1 ⟨rfl, hk1, hk2, hk3, hk4⟩
  have n0_ := Ya (hk1.trans BK.1)
  have n1_ := Ya (SwR.step HS.1 hk2 hk3)
  have HK := Ya (show Kept w w1 (Ws g1 g2 g3 g4 g5) from hk3.mono (fun _ h_ => .inl h_))
  clear BK HS HW hk1 hk2 hk3 e0 e2 e3 e4 e5 f2 f3 f5
  have BK := n0_
  have HS := n1_
  have HW := Ya hk4
  clear n0_ n1_ hk4
  go_wp2_with fail
  replace BK := Ya (Z23 BK.1)
  replace HS := Ya (SwR.drew HS.1)
  replace HK := Ya (Kept.drew HK.1)
  replace HW := Ya (Z4 HW.1)
  refine start_ (n := 30) (S := fun w' => w'.cell? ⟨g, 4, none⟩ = some (.slice (some ⟨g4, 0, none⟩) it.length c4) ∧ w'.cell? ⟨g4, a.toNat, none⟩ = some (.int .i64 Y) ∧ w'.cell? ⟨g4, (a + 1).toNat, none⟩ = some (.int .i64 Z)) (ds := [27, 29]) (YA 30 0) (by kernel_rfl) rfl rfl ⟨(Z20 BK.1 4).trans rfl, (SwR.at4 HS.1 (a) Q22 Q23).1.trans (by rw [HY.1]), (SwR.at4 HS.1 (a + 1) Q22 Q23).1.trans (by rw [HZ.1])⟩ (fun hHeld => ?_)
  generalize World.drew _ = w2 at BK HS HK HW hHeld ⊢
  have hxs := (SwR.at4 HS.1 (a) Q22 Q23).1
  have hzs := (SwR.at4 HS.1 (a) Q22 Q23).2
  have hxt := (SwR.at4 (SwR.put4 HS.1 a Z) (a + 1) Q22 Q23).1
  have hzt := (SwR.at4 (SwR.put4 HS.1 a Z) (a + 1) Q22 Q23).2
  refine Yq 0 (some 54) (YA 30 1) rfl ?_
  refine Yq 1 (some 55) (YA 30 3) rfl ?_
  refine Yq 2 (some 56) (YA 30 7) rfl ?_
  refine Yq 4 (some 58) (YA 30 23) rfl ?_
  refine Yq 5 (some 59) (YA 30 55) rfl ?_
  refine Yq 6 (some 60) (YA 30 119) rfl ?_
  refine Yq 7 (some 61) (YA 30 247) rfl ?_
  refine Yq 9 (some 63) (YA 30 759) rfl ?_
  refine Yq 10 (some 64) (YA 30 1783) rfl ?_
  refine Yq 11 (some 65) (YA 30 3831) rfl ?_
  refine Yq 12 (some 66) (YA 30 7927) rfl ?_
  refine Yq 13 (some 67) (YA 30 16119) rfl ?_
  refine Yq 15 (some 69) (YA 30 48887) rfl ?_
  refine Yq 16 (some 70) (YA 30 114423) rfl ?_
  refine Yq 19 (some 73) (YA 30 638711) rfl ?_
  refine Yq 20 (some 74) (YA 30 1687287) rfl ?_
  refine Yq 21 (some 75) (YA 30 3784439) rfl ?_
  refine Yq 23 (some 77) (YA 30 12173047) rfl ?_
  refine Ys 3 (some 57) (YA 30 12173055) rfl hHeld Q21 ?_
  refine Ys 8 (some 62) (YA 30 12173311) rfl hHeld Q21 ?_
  refine Ys 14 (some 68) (YA 30 12189695) rfl hHeld Q21 ?_
  refine Yq 17 (some 71) (YA 30 12320767) rfl ?_
  refine Ys 18 (some 72) (YA 30 12582911) rfl hHeld Q21 ?_
  refine Ys 22 (some 76) (YA 30 16777215) rfl hHeld Q21 ?_
  refine Yq 24 (some 78) (YA 30 33554431) rfl ?_
  refine Ys 25 (some 79) (YA 30 67108863) rfl hHeld Q21 ?_
  refine Yq 26 (some 80) (YA 30 134217727) rfl ?_
  refine last_ (i := 27) (N := none) (YA 30 268435455) rfl rfl (by kernel_rfl) (by decide) (fun K hK => ?_)
  refine YNc ?_
  refine hK.out _ _ ?_
  clear hK K
  refine Yq 28 (some 81) (YA 30 536870911) rfl ?_
  refine last_ (i := 29) (N := none) (YA 30 1073741823) rfl rfl (by kernel_rfl) (by decide) (fun K hK => ?_)
  refine YNc ?_
  refine hK.out _ _ ?_
  clear hK K
  refine done_ (by kernel_rfl) ?_
  clear hxs hzs hxt hzt
  replace BK := Ya (show (World.setCell (World.setCell w2 ⟨g4, Int.toNat (a), none⟩ (.int .i64 (Z))) ⟨g4, Int.toNat (a + 1), none⟩ (.int .i64 (Y))).heap[g]? = _ from (blk_far (p := ⟨g4, Int.toNat (a + 1), none⟩) (blk_far (p := ⟨g4, Int.toNat (a), none⟩) BK.1 hne2.1 (.int .i64 (Z))) hne2.1 (.int .i64 (Y))))
  replace HK := Ya (show Kept w (World.setCell (World.setCell w2 ⟨g4, Int.toNat (a), none⟩ (.int .i64 (Z))) ⟨g4, Int.toNat (a + 1), none⟩ (.int .i64 (Y))) (Ws g1 g2 g3 g4 g5) from (Kept.setCell (p := ⟨g4, Int.toNat (a + 1), none⟩) (Kept.setCell (p := ⟨g4, Int.toNat (a), none⟩) HK.1 (.inl (.inr (.inl rfl))) (.int .i64 (Z))) (.inl (.inr (.inl rfl))) (.int .i64 (Y))))
  replace HW := Ya (show Below w0.heap.size w0 (World.setCell (World.setCell w2 ⟨g4, Int.toNat (a), none⟩ (.int .i64 (Z))) ⟨g4, Int.toNat (a + 1), none⟩ (.int .i64 (Y))) from (Z6 (j := Int.toNat (a + 1)) (v := .int .i64 (Y)) (Z6 (j := Int.toNat (a)) (v := .int .i64 (Z)) HW.1 (SwR.ge HS.1).1) (SwR.ge HS.1).1))
  replace HS := Ya (show SwR (World.setCell (World.setCell w2 ⟨g4, Int.toNat (a), none⟩ (.int .i64 (Z))) ⟨g4, Int.toNat (a + 1), none⟩ (.int .i64 (Y))) w0.heap.size g0 c0 g1 c1 g2 c2 g3 c3 g4 c4 g5 c5 b D1 U1 P1 ((it.set a.toNat Z).set (a + 1).toNat Y) wh from (SwR.put4 (SwR.put4 HS.1 (a) (Z)) (a + 1) (Y)))
  generalize World.setCell (World.setCell w2 ⟨g4, Int.toNat (a), none⟩ (.int .i64 (Z))) ⟨g4, Int.toNat (a + 1), none⟩ (.int .i64 (Y)) = w3 at BK HS HK HW ⊢
  go_wp2_with fail
  replace BK := Ya (Z23 BK.1)
  replace HS := Ya (SwR.drew HS.1)
  replace HK := Ya (Kept.drew HK.1)
  replace HW := Ya (Z4 HW.1)
  refine start_ (n := 30) (S := fun w' => w'.cell? ⟨g, 4, none⟩ = some (.slice (some ⟨g4, 0, none⟩) it.length c4) ∧ w'.cell? ⟨g, 5, none⟩ = some (.slice (some ⟨g5, 0, none⟩) wh.length c5) ∧ w'.cell? ⟨g4, a.toNat, none⟩ = some (.int .i64 Z) ∧ w'.cell? ⟨g4, (a + 1).toNat, none⟩ = some (.int .i64 Y)) (ds := [27, 29]) (YA 30 0) (by kernel_rfl) rfl rfl ⟨(Z20 BK.1 4).trans rfl, (Z20 BK.1 5).trans rfl, (SwR.at4 HS.1 (a) Q22 Q23).1.trans (by rw [HV.1.1]), (SwR.at4 HS.1 (a + 1) Q22 Q23).1.trans (by rw [HV.1.2])⟩ (fun hHeld => ?_)
  generalize World.drew _ = w4 at BK HS HK HW hHeld ⊢
  have hxs := (SwR.at5 HS.1 (Z) Q22 Q23).1
  have hzs := (SwR.at5 HS.1 (Z) Q22 Q23).2
  have hxt := (SwR.at5 (SwR.put5 HS.1 Z a) (Y) Q22 Q23).1
  have hzt := (SwR.at5 (SwR.put5 HS.1 Z a) (Y) Q22 Q23).2
  refine Yq 0 (some 82) (YA 30 1) rfl ?_
  refine Yq 1 (some 83) (YA 30 3) rfl ?_
  refine Yq 2 (some 84) (YA 30 7) rfl ?_
  refine Yq 4 (some 86) (YA 30 23) rfl ?_
  refine Yq 5 (some 87) (YA 30 55) rfl ?_
  refine Yq 6 (some 88) (YA 30 119) rfl ?_
  refine Yq 8 (some 90) (YA 30 375) rfl ?_
  refine Yq 11 (some 93) (YA 30 2423) rfl ?_
  refine Yq 12 (some 94) (YA 30 6519) rfl ?_
  refine Yq 13 (some 95) (YA 30 14711) rfl ?_
  refine Yq 15 (some 97) (YA 30 47479) rfl ?_
  refine Yq 16 (some 98) (YA 30 113015) rfl ?_
  refine Yq 17 (some 99) (YA 30 244087) rfl ?_
  refine Yq 19 (some 101) (YA 30 768375) rfl ?_
  refine Yq 20 (some 102) (YA 30 1816951) rfl ?_
  refine Yq 23 (some 105) (YA 30 10205559) rfl ?_
  refine Yq 24 (some 106) (YA 30 26982775) rfl ?_
  refine Yq 25 (some 107) (YA 30 60537207) rfl ?_
  refine Ys 3 (some 85) (YA 30 60537215) rfl hHeld Q8 ?_
  refine Ys 7 (some 89) (YA 30 60537343) rfl hHeld Q8 ?_
  refine Yq 9 (some 91) (YA 30 60537855) rfl ?_
  refine Ys 10 (some 92) (YA 30 60538879) rfl hHeld Q8 ?_
  refine Ys 14 (some 96) (YA 30 60555263) rfl hHeld Q8 ?_
  refine Ys 18 (some 100) (YA 30 60817407) rfl hHeld Q8 ?_
  refine Yq 21 (some 103) (YA 30 62914559) rfl ?_
  refine Ys 22 (some 104) (YA 30 67108863) rfl hHeld Q8 ?_
  refine Yq 26 (some 108) (YA 30 134217727) rfl ?_
  refine last_ (i := 27) (N := none) (YA 30 268435455) rfl rfl (by kernel_rfl) (by decide) (fun K hK => ?_)
  refine YNc ?_
  refine hK.out _ _ ?_
  clear hK K
  refine Yq 28 (some 109) (YA 30 536870911) rfl ?_
  refine last_ (i := 29) (N := none) (YA 30 1073741823) rfl rfl (by kernel_rfl) (by decide) (fun K hK => ?_)
  refine YNc ?_
  refine hK.out _ _ ?_
  clear hK K
  refine done_ (by kernel_rfl) ?_
  clear hxs hzs hxt hzt
  replace BK := Ya (show (World.setCell (World.setCell w4 ⟨g5, Int.toNat (Z), none⟩ (.int .i64 (a))) ⟨g5, Int.toNat (Y), none⟩ (.int .i64 (a + 1))).heap[g]? = _ from (blk_far (p := ⟨g5, Int.toNat (Y), none⟩) (blk_far (p := ⟨g5, Int.toNat (Z), none⟩) BK.1 hne2.2 (.int .i64 (a))) hne2.2 (.int .i64 (a + 1))))
  replace HK := Ya (show Kept w (World.setCell (World.setCell w4 ⟨g5, Int.toNat (Z), none⟩ (.int .i64 (a))) ⟨g5, Int.toNat (Y), none⟩ (.int .i64 (a + 1))) (Ws g1 g2 g3 g4 g5) from (Kept.setCell (p := ⟨g5, Int.toNat (Y), none⟩) (Kept.setCell (p := ⟨g5, Int.toNat (Z), none⟩) HK.1 (.inl (.inr (.inr rfl))) (.int .i64 (a))) (.inl (.inr (.inr rfl))) (.int .i64 (a + 1))))
  replace HW := Ya (show Below w0.heap.size w0 (World.setCell (World.setCell w4 ⟨g5, Int.toNat (Z), none⟩ (.int .i64 (a))) ⟨g5, Int.toNat (Y), none⟩ (.int .i64 (a + 1))) from (Z6 (j := Int.toNat (Y)) (v := .int .i64 (a + 1)) (Z6 (j := Int.toNat (Z)) (v := .int .i64 (a)) HW.1 (SwR.ge HS.1).2) (SwR.ge HS.1).2))
  replace HS := Ya (show SwR (World.setCell (World.setCell w4 ⟨g5, Int.toNat (Z), none⟩ (.int .i64 (a))) ⟨g5, Int.toNat (Y), none⟩ (.int .i64 (a + 1))) w0.heap.size g0 c0 g1 c1 g2 c2 g3 c3 g4 c4 g5 c5 b D1 U1 P1 ((it.set a.toNat Z).set (a + 1).toNat Y) ((wh.set Z.toNat a).set Y.toNat (a + 1)) from (SwR.put5 (SwR.put5 HS.1 (Z) (a)) (Y) (a + 1)))
  generalize World.setCell (World.setCell w4 ⟨g5, Int.toNat (Z), none⟩ (.int .i64 (a))) ⟨g5, Int.toNat (Y), none⟩ (.int .i64 (a + 1)) = w5 at BK HS HK HW ⊢
  go_wp2
  go_ret
  exact ⟨rfl, BK.1.trans aa.1.symm, HS.1, HK.1, HW.1⟩
 ·rw [hU] at f2 ha
  have hv : rd wh X - 1 = a := by simpa using ha
  have hw : wrap64 (rd wh X - 1) = a := by rw [← hv]; have := HVX.1; unfold wrap64; omega
  have hw' : IntKind.i64.wrap (rd wh X - 1) = a := (i64_w _).trans hw
  clear hv ha
  go_wp2_with fail
  refine (impl_Focus_step.callsG #[.slice (some ⟨g0, 0, none⟩) b.length c0, .slice (some ⟨g1, 0, none⟩) d.length c1, .slice (some ⟨g2, 0, none⟩) u.length c2, .slice (some ⟨g3, 0, none⟩) p.length c3, .slice (some ⟨g4, 0, none⟩) it.length c4, .slice (some ⟨g5, 0, none⟩) wh.length c5] 29 (by decide) w0 g g0 c0 g1 c1 g2 c2 g3 c3 b d u p D1 U1 P1 R1 w rfl rfl rfl rfl BK.1 HS.1.f HW.1 HST.1).mono ?_
  rintro e w1 ⟨rfl, hk1, hk2, hk3, hk4⟩
  have n0_ := Ya (hk1.trans BK.1)
  have n1_ := Ya (SwR.step HS.1 hk2 hk3)
  have HK := Ya (show Kept w w1 (Ws g1 g2 g3 g4 g5) from hk3.mono (fun _ h_ => .inl h_))
  clear BK HS HW hk1 hk2 hk3 e0 e2 e3 e4 e5 f2 f3 f5
  have BK := n0_
  have HS := n1_
  have HW := Ya hk4
  clear n0_ n1_ hk4
  go_wp2_with fail
  replace BK := Ya (Z23 BK.1)
  replace HS := Ya (SwR.drew HS.1)
  replace HK := Ya (Kept.drew HK.1)
  replace HW := Ya (Z4 HW.1)
  refine start_ (n := 30) (S := fun w' => w'.cell? ⟨g, 4, none⟩ = some (.slice (some ⟨g4, 0, none⟩) it.length c4) ∧ w'.cell? ⟨g4, a.toNat, none⟩ = some (.int .i64 Y) ∧ w'.cell? ⟨g4, (a + 1).toNat, none⟩ = some (.int .i64 Z)) (ds := [27, 29]) (YA 30 0) (by kernel_rfl) rfl rfl ⟨(Z20 BK.1 4).trans rfl, (SwR.at4 HS.1 (a) Q22 Q23).1.trans (by rw [HY.1]), (SwR.at4 HS.1 (a + 1) Q22 Q23).1.trans (by rw [HZ.1])⟩ (fun hHeld => ?_)
  generalize World.drew _ = w2 at BK HS HK HW hHeld ⊢
  have hxs := (SwR.at4 HS.1 (a) Q22 Q23).1
  have hzs := (SwR.at4 HS.1 (a) Q22 Q23).2
  have hxt := (SwR.at4 (SwR.put4 HS.1 a Z) (a + 1) Q22 Q23).1
  have hzt := (SwR.at4 (SwR.put4 HS.1 a Z) (a + 1) Q22 Q23).2
  refine Yq 0 (some 54) (YA 30 1) rfl ?_
  refine Yq 1 (some 55) (YA 30 3) rfl ?_
  refine Yq 2 (some 56) (YA 30 7) rfl ?_
  refine Yq 4 (some 58) (YA 30 23) rfl ?_
  refine Yq 5 (some 59) (YA 30 55) rfl ?_
  refine Yq 6 (some 60) (YA 30 119) rfl ?_
  refine Yq 7 (some 61) (YA 30 247) rfl ?_
  refine Yq 9 (some 63) (YA 30 759) rfl ?_
  refine Yq 10 (some 64) (YA 30 1783) rfl ?_
  refine Yq 11 (some 65) (YA 30 3831) rfl ?_
  refine Yq 12 (some 66) (YA 30 7927) rfl ?_
  refine Yq 13 (some 67) (YA 30 16119) rfl ?_
  refine Yq 15 (some 69) (YA 30 48887) rfl ?_
  refine Yq 16 (some 70) (YA 30 114423) rfl ?_
  refine Yq 19 (some 73) (YA 30 638711) rfl ?_
  refine Yq 20 (some 74) (YA 30 1687287) rfl ?_
  refine Yq 21 (some 75) (YA 30 3784439) rfl ?_
  refine Yq 23 (some 77) (YA 30 12173047) rfl ?_
  refine Ys 3 (some 57) (YA 30 12173055) rfl hHeld Q21 ?_
  refine Ys 8 (some 62) (YA 30 12173311) rfl hHeld Q21 ?_
  refine Ys 14 (some 68) (YA 30 12189695) rfl hHeld Q21 ?_
  refine Yq 17 (some 71) (YA 30 12320767) rfl ?_
  refine Ys 18 (some 72) (YA 30 12582911) rfl hHeld Q21 ?_
  refine Ys 22 (some 76) (YA 30 16777215) rfl hHeld Q21 ?_
  refine Yq 24 (some 78) (YA 30 33554431) rfl ?_
  refine Ys 25 (some 79) (YA 30 67108863) rfl hHeld Q21 ?_
  refine Yq 26 (some 80) (YA 30 134217727) rfl ?_
  refine last_ (i := 27) (N := none) (YA 30 268435455) rfl rfl (by kernel_rfl) (by decide) (fun K hK => ?_)
  refine YNc ?_
  refine hK.out _ _ ?_
  clear hK K
  refine Yq 28 (some 81) (YA 30 536870911) rfl ?_
  refine last_ (i := 29) (N := none) (YA 30 1073741823) rfl rfl (by kernel_rfl) (by decide) (fun K hK => ?_)
  refine YNc ?_
  refine hK.out _ _ ?_
  clear hK K
  refine done_ (by kernel_rfl) ?_
  clear hxs hzs hxt hzt
  replace BK := Ya (show (World.setCell (World.setCell w2 ⟨g4, Int.toNat (a), none⟩ (.int .i64 (Z))) ⟨g4, Int.toNat (a + 1), none⟩ (.int .i64 (Y))).heap[g]? = _ from (blk_far (p := ⟨g4, Int.toNat (a + 1), none⟩) (blk_far (p := ⟨g4, Int.toNat (a), none⟩) BK.1 hne2.1 (.int .i64 (Z))) hne2.1 (.int .i64 (Y))))
  replace HK := Ya (show Kept w (World.setCell (World.setCell w2 ⟨g4, Int.toNat (a), none⟩ (.int .i64 (Z))) ⟨g4, Int.toNat (a + 1), none⟩ (.int .i64 (Y))) (Ws g1 g2 g3 g4 g5) from (Kept.setCell (p := ⟨g4, Int.toNat (a + 1), none⟩) (Kept.setCell (p := ⟨g4, Int.toNat (a), none⟩) HK.1 (.inl (.inr (.inl rfl))) (.int .i64 (Z))) (.inl (.inr (.inl rfl))) (.int .i64 (Y))))
  replace HW := Ya (show Below w0.heap.size w0 (World.setCell (World.setCell w2 ⟨g4, Int.toNat (a), none⟩ (.int .i64 (Z))) ⟨g4, Int.toNat (a + 1), none⟩ (.int .i64 (Y))) from (Z6 (j := Int.toNat (a + 1)) (v := .int .i64 (Y)) (Z6 (j := Int.toNat (a)) (v := .int .i64 (Z)) HW.1 (SwR.ge HS.1).1) (SwR.ge HS.1).1))
  replace HS := Ya (show SwR (World.setCell (World.setCell w2 ⟨g4, Int.toNat (a), none⟩ (.int .i64 (Z))) ⟨g4, Int.toNat (a + 1), none⟩ (.int .i64 (Y))) w0.heap.size g0 c0 g1 c1 g2 c2 g3 c3 g4 c4 g5 c5 b D1 U1 P1 ((it.set a.toNat Z).set (a + 1).toNat Y) wh from (SwR.put4 (SwR.put4 HS.1 (a) (Z)) (a + 1) (Y)))
  generalize World.setCell (World.setCell w2 ⟨g4, Int.toNat (a), none⟩ (.int .i64 (Z))) ⟨g4, Int.toNat (a + 1), none⟩ (.int .i64 (Y)) = w3 at BK HS HK HW ⊢
  go_wp2_with fail
  replace BK := Ya (Z23 BK.1)
  replace HS := Ya (SwR.drew HS.1)
  replace HK := Ya (Kept.drew HK.1)
  replace HW := Ya (Z4 HW.1)
  refine start_ (n := 30) (S := fun w' => w'.cell? ⟨g, 4, none⟩ = some (.slice (some ⟨g4, 0, none⟩) it.length c4) ∧ w'.cell? ⟨g, 5, none⟩ = some (.slice (some ⟨g5, 0, none⟩) wh.length c5) ∧ w'.cell? ⟨g4, a.toNat, none⟩ = some (.int .i64 Z) ∧ w'.cell? ⟨g4, (a + 1).toNat, none⟩ = some (.int .i64 Y)) (ds := [27, 29]) (YA 30 0) (by kernel_rfl) rfl rfl ⟨(Z20 BK.1 4).trans rfl, (Z20 BK.1 5).trans rfl, (SwR.at4 HS.1 (a) Q22 Q23).1.trans (by rw [HV.1.1]), (SwR.at4 HS.1 (a + 1) Q22 Q23).1.trans (by rw [HV.1.2])⟩ (fun hHeld => ?_)
  generalize World.drew _ = w4 at BK HS HK HW hHeld ⊢
  have hxs := (SwR.at5 HS.1 (Z) Q22 Q23).1
  have hzs := (SwR.at5 HS.1 (Z) Q22 Q23).2
  have hxt := (SwR.at5 (SwR.put5 HS.1 Z a) (Y) Q22 Q23).1
  have hzt := (SwR.at5 (SwR.put5 HS.1 Z a) (Y) Q22 Q23).2
  refine Yq 0 (some 82) (YA 30 1) rfl ?_
  refine Yq 1 (some 83) (YA 30 3) rfl ?_
  refine Yq 2 (some 84) (YA 30 7) rfl ?_
  refine Yq 4 (some 86) (YA 30 23) rfl ?_
  refine Yq 5 (some 87) (YA 30 55) rfl ?_
  refine Yq 6 (some 88) (YA 30 119) rfl ?_
  refine Yq 8 (some 90) (YA 30 375) rfl ?_
  refine Yq 11 (some 93) (YA 30 2423) rfl ?_
  refine Yq 12 (some 94) (YA 30 6519) rfl ?_
  refine Yq 13 (some 95) (YA 30 14711) rfl ?_
  refine Yq 15 (some 97) (YA 30 47479) rfl ?_
  refine Yq 16 (some 98) (YA 30 113015) rfl ?_
  refine Yq 17 (some 99) (YA 30 244087) rfl ?_
  refine Yq 19 (some 101) (YA 30 768375) rfl ?_
  refine Yq 20 (some 102) (YA 30 1816951) rfl ?_
  refine Yq 23 (some 105) (YA 30 10205559) rfl ?_
  refine Yq 24 (some 106) (YA 30 26982775) rfl ?_
  refine Yq 25 (some 107) (YA 30 60537207) rfl ?_
  refine Ys 3 (some 85) (YA 30 60537215) rfl hHeld Q8 ?_
  refine Ys 7 (some 89) (YA 30 60537343) rfl hHeld Q8 ?_
  refine Yq 9 (some 91) (YA 30 60537855) rfl ?_
  refine Ys 10 (some 92) (YA 30 60538879) rfl hHeld Q8 ?_
  refine Ys 14 (some 96) (YA 30 60555263) rfl hHeld Q8 ?_
  refine Ys 18 (some 100) (YA 30 60817407) rfl hHeld Q8 ?_
  refine Yq 21 (some 103) (YA 30 62914559) rfl ?_
  refine Ys 22 (some 104) (YA 30 67108863) rfl hHeld Q8 ?_
  refine Yq 26 (some 108) (YA 30 134217727) rfl ?_
  refine last_ (i := 27) (N := none) (YA 30 268435455) rfl rfl (by kernel_rfl) (by decide) (fun K hK => ?_)
  refine YNc ?_
  refine hK.out _ _ ?_
  clear hK K
  refine Yq 28 (some 109) (YA 30 536870911) rfl ?_
  refine last_ (i := 29) (N := none) (YA 30 1073741823) rfl rfl (by kernel_rfl) (by decide) (fun K hK => ?_)
  refine YNc ?_
  refine hK.out _ _ ?_
  clear hK K
  refine done_ (by kernel_rfl) ?_
  clear hxs hzs hxt hzt
  replace BK := Ya (show (World.setCell (World.setCell w4 ⟨g5, Int.toNat (Z), none⟩ (.int .i64 (a))) ⟨g5, Int.toNat (Y), none⟩ (.int .i64 (a + 1))).heap[g]? = _ from (blk_far (p := ⟨g5, Int.toNat (Y), none⟩) (blk_far (p := ⟨g5, Int.toNat (Z), none⟩) BK.1 hne2.2 (.int .i64 (a))) hne2.2 (.int .i64 (a + 1))))
  replace HK := Ya (show Kept w (World.setCell (World.setCell w4 ⟨g5, Int.toNat (Z), none⟩ (.int .i64 (a))) ⟨g5, Int.toNat (Y), none⟩ (.int .i64 (a + 1))) (Ws g1 g2 g3 g4 g5) from (Kept.setCell (p := ⟨g5, Int.toNat (Y), none⟩) (Kept.setCell (p := ⟨g5, Int.toNat (Z), none⟩) HK.1 (.inl (.inr (.inr rfl))) (.int .i64 (a))) (.inl (.inr (.inr rfl))) (.int .i64 (a + 1))))
  replace HW := Ya (show Below w0.heap.size w0 (World.setCell (World.setCell w4 ⟨g5, Int.toNat (Z), none⟩ (.int .i64 (a))) ⟨g5, Int.toNat (Y), none⟩ (.int .i64 (a + 1))) from (Z6 (j := Int.toNat (Y)) (v := .int .i64 (a + 1)) (Z6 (j := Int.toNat (Z)) (v := .int .i64 (a)) HW.1 (SwR.ge HS.1).2) (SwR.ge HS.1).2))
  replace HS := Ya (show SwR (World.setCell (World.setCell w4 ⟨g5, Int.toNat (Z), none⟩ (.int .i64 (a))) ⟨g5, Int.toNat (Y), none⟩ (.int .i64 (a + 1))) w0.heap.size g0 c0 g1 c1 g2 c2 g3 c3 g4 c4 g5 c5 b D1 U1 P1 ((it.set a.toNat Z).set (a + 1).toNat Y) ((wh.set Z.toNat a).set Y.toNat (a + 1)) from (SwR.put5 (SwR.put5 HS.1 (Z) (a)) (Y) (a + 1)))
  generalize World.setCell (World.setCell w4 ⟨g5, Int.toNat (Z), none⟩ (.int .i64 (a))) ⟨g5, Int.toNat (Y), none⟩ (.int .i64 (a + 1)) = w5 at BK HS HK HW ⊢
  go_wp2
  go_ret
  exact ⟨rfl, BK.1.trans aa.1.symm, HS.1, HK.1, HW.1⟩
theorem impl_Swapper_step.callsEnd (CS : Array Value) (T : TypeId) (g g3 n c0 lp c3 : Nat) (A0 : Option Addr) (w : World)
  (aa : CS[0]? = some (.slice A0 n c0)) (ab : CS[3]? = some (.slice (some ⟨g3, 0, none⟩) lp c3)) (hl : 0 < lp) (hm : n ≤ 1000)
  (hb : w.heap[g]? = some (.cells CS T (0, 0))) (hp : w.cell? ⟨g3, 0, none⟩ = some (.int .i64 (n : Int))) :
  Calls Tryz.prog 27 #[.pointer (some ⟨g, 0, none⟩)] w fun e w' => e = .returned (.int .i64 (-1)) ∧ Below w.heap.size w w' := by
 have e0 := (Z20 hb 0).trans aa
 have e3 := (Z20 hb 3).trans ab
 have b5 : (0 < lp) = True := eq_true hl
 have b6 : ((0 : Int) < (lp : Int)) = True := eq_true (by omega)
 have k1 : wrap64 ((n : Int) - 1) = (n : Int) - 1 := by unfold wrap64; omega
 have k1' : IntKind.i64.wrap ((n : Int) - 1) = (n : Int) - 1 := (i64_w _).trans k1
 have k2 : wrap64 ((n : Int) - 1 - n) = -1 := by unfold wrap64; omega
 have k2' : IntKind.i64.wrap ((n : Int) - 1 - n) = -1 := (i64_w _).trans k2
 clear hb
 go_enter Tryz.func27, Tryz.ntmps27
 go_wp2
 go_ret
 exact ⟨rfl, Below.refl _ _⟩
mutual
def impl_swapperAt.l0 : Nat → Int → Int → List Int → List Int → List Bool → List Int → List Int → List Int → Option (List Int × List Int × List Bool × List Int × List Int × List Int)
 | 0, _, _, _, _, _, _, _, _ => none
 | k + 1, n, i, b, d, u, p, it, wh => if i < n then ((Go.Proofs.YtapbbmicfkbafaaGreat.SwW.stepS b d u p it wh).bind fun r => (impl_swapperAt.l0 k n (wrap64 (i + 1)) b r.1 r.2.1 r.2.2.1 r.2.2.2.1 r.2.2.2.2.1)) else (some (b, d, u, p, it, wh))
end
def impl_swapperAt.f (k : Nat) (a0 : Int) (a1 : Int) : Option (List Int × List Int × List Bool × List Int × List Int × List Int) := (impl_startSwapper.f k a0).bind fun t => impl_swapperAt.l0 k a1 0 t.1 t.2.1 t.2.2.1 t.2.2.2.1 t.2.2.2.2.1 t.2.2.2.2.2
open Go.Proofs.YtapbbmicfkbafaaGreat.FoW Go.Proofs.YtapbbmicfkbafaaGreat.SwW in
theorem impl_swapperAt.calls (k : Nat) (a0 : Int) (a1 : Int) (r1 : List Int) (r2 : List Int) (r3 : List Bool) (r4 : List Int) (r5 : List Int) (r6 : List Int) (w : World) (h : impl_swapperAt.f k a0 a1 = some (r1, r2, r3, r4, r5, r6)) :
  Calls Tryz.prog 36 #[.int .i64 a0, .int .i64 a1] w fun e w' => ∃ v0_ v1_ v2_ v3_ v4_ v5_ : Value, e = .returned (.agg #[v0_, v1_, v2_, v3_, v4_, v5_]) ∧ Kd.R (Kd.int .i64) 3 w' w.heap.size (fun k_ => some k_ ≠ (v1_ : Value).ownBlock ∧ some k_ ≠ (v3_ : Value).ownBlock ∧ some k_ ≠ (v4_ : Value).ownBlock ∧ some k_ ≠ (v5_ : Value).ownBlock) v0_ r1 ∧ Kd.R (Kd.int .i64) 3 w' w.heap.size (fun k_ => some k_ ≠ (v0_ : Value).ownBlock ∧ some k_ ≠ (v3_ : Value).ownBlock ∧ some k_ ≠ (v4_ : Value).ownBlock ∧ some k_ ≠ (v5_ : Value).ownBlock) v1_ r2 ∧ Kd.R Kd.bool 4 w' w.heap.size (fun _ => True) v2_ r3 ∧ Kd.R (Kd.int .i64) 3 w' w.heap.size (fun k_ => some k_ ≠ (v0_ : Value).ownBlock ∧ some k_ ≠ (v1_ : Value).ownBlock ∧ some k_ ≠ (v4_ : Value).ownBlock ∧ some k_ ≠ (v5_ : Value).ownBlock) v3_ r4 ∧ Kd.R (Kd.int .i64) 3 w' w.heap.size (fun k_ => some k_ ≠ (v0_ : Value).ownBlock ∧ some k_ ≠ (v1_ : Value).ownBlock ∧ some k_ ≠ (v3_ : Value).ownBlock ∧ some k_ ≠ (v5_ : Value).ownBlock) v4_ r5 ∧ Kd.R (Kd.int .i64) 3 w' w.heap.size (fun k_ => some k_ ≠ (v0_ : Value).ownBlock ∧ some k_ ≠ (v1_ : Value).ownBlock ∧ some k_ ≠ (v3_ : Value).ownBlock ∧ some k_ ≠ (v4_ : Value).ownBlock) v5_ r6 ∧ Below w.heap.size w w' := by
 have hu := Tryz.underlying29
 unfold impl_swapperAt.f at h
 obtain ⟨⟨b, D1, U1, P1, I1, W1⟩, h1, h⟩ := Z33.mp h
 have A1_ := Ya h1
 have H' := Ya h
 have HB := Ya (Below.refl w.heap.size w)
 clear h h1
 go_enter Tryz.func36, Tryz.ntmps36
 go_upto_region 3 with (first | ((with_reducible refine gate_dst (N := 4) rfl ?_); refine Yx 4 YN6 29 ?_; intro ac hg w1 hbox hb; have n0_ := Yh hb; have aa := Ya hbox; have ak := Ya (by rw [hg]; exact Z7 Q0 : w.heap.size ≤ ac); clear HB; have HB := n0_; clear n0_; clear hb hbox hg) | ((with_reducible refine gate_callee (f := 34) rfl ?_); refine Yz 7 Tryz.func34 #[.int .i64 a0] ?_ (hargs := Q19); (with_reducible refine (impl_startSwapper.calls k a0 b D1 U1 P1 I1 W1 _ A1_.1).mono ?_); rintro e w2 ⟨v0, v1, v2, v3, v4, v5, rfl, ad, ae, af, ag, ah, ai, hb⟩; refine ⟨_, rfl, ?_⟩; have HSZ := Z7 Q0; have hSV : SwV w2 w.heap.size v0 v1 v2 v3 v4 v5 b D1 U1 P1 I1 W1 := ⟨Kd.R_lower ad HSZ, Kd.R_lower ae HSZ, Kd.R_lower af HSZ, Kd.R_lower ag HSZ, Kd.R_lower ah HSZ, Kd.R_lower ai HSZ⟩; obtain ⟨A0, q0, rfl⟩ := Z15 ad; obtain ⟨A1, q1, rfl⟩ := Z15 ae; obtain ⟨A2, q2, rfl⟩ := Z15 af; obtain ⟨A3, q3, rfl⟩ := Z15 ag; obtain ⟨A4, q4, rfl⟩ := Z15 ah; obtain ⟨A5, q5, rfl⟩ := Z15 ai; have n0_ := Yh hb; have n1_ := Ya (Z25 (by first | exact aa.1 | (exact Z23 aa.1)) hb); have HV := Ya hSV; clear HB aa HSZ ad ae af ag ah ai hb hSV; have HB := n0_; have aa := n1_; clear n0_ n1_) | ((with_reducible refine gate_dst (N := 5) rfl ?_); refine Yx 5 YN6 29 ?_; intro ab hg w3 hbox hb; have n0_ := Yh hb; have BK := Ya hbox; have al := Ya (by rw [hg]; exact Z7 Q0 : w.heap.size ≤ ab); have NE := Ya (by rw [hg]; exact Nat.ne_of_lt (blk_lt aa.1) : ac ≠ ab); have n1_ := Ya (SwV.below (Qm1 HV.1) hb); have n2_ := Ya (Z25 aa.1 hb); clear HV aa; have HV := n1_; have aa := n2_; clear n1_ n2_; clear HB; have HB := n0_; clear n0_; have hd0 := (Z20 BK.1 0).trans rfl; have hd1 := (Z20 BK.1 1).trans rfl; have hd2 := (Z20 BK.1 2).trans rfl; have hd3 := (Z20 BK.1 3).trans rfl; have hd4 := (Z20 BK.1 4).trans rfl; have hd5 := (Z20 BK.1 5).trans rfl; have hf0 := Z21 BK.1 0; have hf1 := Z21 BK.1 1; have hf2 := Z21 BK.1 2; have hf3 := Z21 BK.1 3; have hf4 := Z21 BK.1 4; have hf5 := Z21 BK.1 5; clear hb hbox hg))
 replace HV := Ya (SwV.set6 HV.1 BK.1 (by decide) (by decide) (.slice A0 b.length q0) (.slice A1 D1.length q1) (.slice A2 U1.length q2) (.slice A3 P1.length q3) (.slice A4 I1.length q4) (.slice A5 W1.length q5))
 replace BK := Ya (set6_at BK.1 (.slice A0 b.length q0) (.slice A1 D1.length q1) (.slice A2 U1.length q2) (.slice A3 P1.length q3) (.slice A4 I1.length q4) (.slice A5 W1.length q5))
 replace aa := Ya ((set6_far _ ab (.slice A0 b.length q0) (.slice A1 D1.length q1) (.slice A2 U1.length q2) (.slice A3 P1.length q3) (.slice A4 I1.length q4) (.slice A5 W1.length q5) ac NE.1).trans aa.1)
 replace HB := Ya (set6_below HB.1 al.1 (.slice A0 b.length q0) (.slice A1 D1.length q1) (.slice A2 U1.length q2) (.slice A3 P1.length q3) (.slice A4 I1.length q4) (.slice A5 W1.length q5))
 clear hd0 hf0 hd1 hf1 hd2 hf2 hd3 hf3 hd4 hf4 hd5 hf5
 unfold set6 at BK HV aa HB
 generalize ((((((w3.setCell ⟨ab, 0, none⟩ (.slice A0 b.length q0)).setCell ⟨ab, 1, none⟩ (.slice A1 D1.length q1)).setCell ⟨ab, 2, none⟩ (.slice A2 U1.length q2)).setCell ⟨ab, 3, none⟩ (.slice A3 P1.length q3)).setCell ⟨ab, 4, none⟩ (.slice A4 I1.length q4)).setCell ⟨ab, 5, none⟩ (.slice A5 W1.length q5)) = w4 at BK HV aa HB ⊢
 go_loopg [9] k (fun kq v9 w' => ∃ (i : Int) (d : List Int) (u : List Bool) (p it wh : List Int), v9 = .int .i64 i ∧ Aside0 (impl_swapperAt.l0 kq a1 i b d u p it wh = some (r1, r2, r3, r4, r5, r6)) ∧ Aside0 (kq ≤ k) ∧ Aside0 (d.length = D1.length ∧ u.length = U1.length ∧ p.length = P1.length ∧ it.length = I1.length ∧ wh.length = W1.length) ∧ Aside0 (w'.heap[ab]? = some (.cells #[.slice A0 b.length q0, .slice A1 D1.length q1, .slice A2 U1.length q2, .slice A3 P1.length q3, .slice A4 I1.length q4, .slice A5 W1.length q5] 29 (0, 0))) ∧ Aside0 (w'.heap[ac]? = some (.cells YN6 29 (0, 0))) ∧ Aside0 (SwV w' w.heap.size (.slice A0 b.length q0) (.slice A1 D1.length q1) (.slice A2 U1.length q2) (.slice A3 P1.length q3) (.slice A4 I1.length q4) (.slice A5 W1.length q5) b d u p it wh) ∧ Aside0 (Below w.heap.size w w'))
 case atStart => exact ⟨0, D1, U1, P1, I1, W1, Q70, H', ⟨Nat.le_refl _⟩, ⟨rfl, rfl, rfl, rfl, rfl⟩, BK, aa, HV, HB⟩
 case round =>
  clear H' BK HV aa HB
  obtain ⟨i, d, u, p, it, wh, rfl, HA, HK1, HL, BK, aa, HV, HB⟩ := hrel
  cases gk with
  | zero => exact absurd HA.1 (by simp [impl_swapperAt.l0])
  | succ k1 =>
   have H := HA.1
   clear HA
   simp only [impl_swapperAt.l0] at H
   by_cases c1 : i < a1
   rotate_left
   ·rw [if_neg c1] at H
    have b1 : decide (i < a1) = false := Z34 c1
    clear c1
    simp only [Option.some.injEq, Prod.mk.injEq] at H
    obtain ⟨rfl, rfl, rfl, rfl, rfl, rfl⟩ := H
    have am := (Z20 BK.1 0).trans rfl
    have hf0 := Z21 BK.1 0
    have hd0 := (Z20 aa.1 0).trans rfl
    have he0 := Z21 aa.1 0
    have an := (Z20 BK.1 1).trans rfl
    have hf1 := Z21 BK.1 1
    have hd1 := (Z20 aa.1 1).trans rfl
    have he1 := Z21 aa.1 1
    have ao := (Z20 BK.1 2).trans rfl
    have hf2 := Z21 BK.1 2
    have hd2 := (Z20 aa.1 2).trans rfl
    have he2 := Z21 aa.1 2
    have ap := (Z20 BK.1 3).trans rfl
    have hf3 := Z21 BK.1 3
    have hd3 := (Z20 aa.1 3).trans rfl
    have he3 := Z21 aa.1 3
    have aq := (Z20 BK.1 4).trans rfl
    have hf4 := Z21 BK.1 4
    have hd4 := (Z20 aa.1 4).trans rfl
    have he4 := Z21 aa.1 4
    have ar := (Z20 BK.1 5).trans rfl
    have hf5 := Z21 BK.1 5
    have hd5 := (Z20 aa.1 5).trans rfl
    have he5 := Z21 aa.1 5
    have hne := NE.1
    have hne' := NE.1.symm
    go_wp2
    refine bodyPost_ret (results_cell_row rfl _ _ ac 29 #[.slice A0 b.length q0, .slice A1 D1.length q1, .slice A2 U1.length q2, .slice A3 P1.length q3, .slice A4 I1.length q4, .slice A5 W1.length q5] (0, 0) _ rfl (by have h_ := set6_at aa.1 (.slice A0 b.length q0) (.slice A1 D1.length q1) (.slice A2 U1.length q2) (.slice A3 P1.length q3) (.slice A4 I1.length q4) (.slice A5 W1.length q5); unfold set6 at h_; exact h_) hu rfl (by kernel_rfl)) rfl ?_
    have hv := SwV.set6 HV.1 aa.1 (by decide) (by decide) (.slice A0 b.length q0) (.slice A1 D1.length q1) (.slice A2 U1.length q2) (.slice A3 P1.length q3) (.slice A4 I1.length q4) (.slice A5 W1.length q5)
    have hbb := set6_below HB.1 ak.1 (.slice A0 b.length q0) (.slice A1 D1.length q1) (.slice A2 U1.length q2) (.slice A3 P1.length q3) (.slice A4 I1.length q4) (.slice A5 W1.length q5)
    unfold set6 at hv hbb
    exact ⟨_, _, _, _, _, _, rfl, hv.r0, hv.r1, hv.r2, hv.r3, hv.r4, hv.r5, hbb⟩
   rw [if_pos c1] at H
   have b1 : decide (i < a1) = true := Z35 c1
   obtain ⟨⟨d', u', p', it', wh', r⟩, hs, H⟩ := Z33.mp H
   obtain ⟨hd, hu', hp, hi', hw'⟩ := HL.1
   have hbk := BK.1
   rw [← hd, ← hu', ← hp, ← hi', ← hw'] at hbk
   have HBK := Ya hbk
   clear hbk c1
   have aj : Aside0 (SwV _ w.heap.size (.slice A0 b.length q0) (.slice A1 d.length q1) (.slice A2 u.length q2) (.slice A3 p.length q3) (.slice A4 it.length q4) (.slice A5 wh.length q5) b d u p it wh) := ⟨by have := HV.1; rw [← hd, ← hu', ← hp, ← hi', ← hw'] at this; exact this⟩
   have H' := Ya H
   have HS := Ya hs
   obtain ⟨hl, hl0, hl1, hl2, hl3, hl4, hl5⟩ := stepS_len hs
   have HL2 := Ya hl
   obtain ⟨g0, p0, g1, p1, g2, p2, g3, p3, g4, p4, g5, p5, e0, e1, e2, e3, e4, e5, hF⟩ := SwR.of aj.1 hl0 hl1 hl2 hl3 hl4 hl5
   injection e0 with x0 _ z0
   injection e1 with x1 _ z1
   injection e2 with x2 _ z2
   injection e3 with x3 _ z3
   injection e4 with x4 _ z4
   injection e5 with x5 _ z5
   subst x0 z0 x1 z1 x2 z2 x3 z3 x4 z4 x5 z5
   have HF := Ya hF
   clear H hs hl hl0 hl1 hl2 hl3 hl4 hl5 hF hd hu' hp hi' hw' HV aj
   go_wp2_with (first | ((with_reducible refine gate_callee (f := 27) rfl ?_); refine Yz 11 Tryz.func27 #[.pointer (some ⟨ab, 0, none⟩)] ?_ (hargs := Q19); (with_reducible refine (impl_Swapper_step.calls w ab g0 q0 g1 q1 g2 q2 g3 q3 g4 q4 g5 q5 b d u p it wh d' u' p' it' wh' r _ HBK.1 HF.1 HB.1 HS.1).mono ?_); rintro e w7 ⟨rfl, hk1, hk2, hk3, hk4⟩; refine ⟨_, rfl, ?_⟩; have ap_ := FoR.apart HF.1.f aa.1 (by decide) (by decide); have aq_ := SwR.apart HF.1 aa.1 (by decide); have n1_ := Ya (blk_kept aa.1 hk3 (fun hs_ => by rcases hs_ with (e | e | e) | e | e; exact ap_.2.1 e; exact ap_.2.2.1 e; exact ap_.2.2.2 e; exact aq_.1 e; exact aq_.2 e)); have n0_ := Ya (hk1.trans BK.1); have hv := SwR.back hk2; rw [HL2.1.1, HL2.1.2.1, HL2.1.2.2.1, HL2.1.2.2.2.1, HL2.1.2.2.2.2, HL.1.1, HL.1.2.1, HL.1.2.2.1, HL.1.2.2.2.1, HL.1.2.2.2.2] at hv; have HV := Ya hv; clear HBK BK HF aa HB ap_ aq_; have BK := n0_; have aa := n1_; have HB := Ya hk4; clear n0_ n1_ hk1 hk2 hk3 hk4 hv))
   go_roundg k1
   case measure => have := HK1.1; omega
   case rel => exact ⟨_, d', u', p', it', wh', Q70, H', ⟨Q35⟩, ⟨Q64⟩, BK, aa, HV, HB⟩
def impl_IsSwapper.j0 : Nat → Int → Bool → List Int → List Int → List Bool → List Int → List Int → List Int → Option (Bool)
 | 0, _, _, _, _, _, _, _, _ => none
 | k + 1, x3, am, aa, ab, ag, ah, ac, ad => if am = true then (some false) else ((impl_startSwapper.f k x3).bind fun af => ((slices_Equal_int_int.f k af.1 aa).bind fun ai => (if ai = true then ((impl_mixedRank.f k aa ab).bind fun aj => ((impl_swapperAt.f k x3 aj).bind fun ae => ((slices_Equal_int_int.f k ac ae.2.2.2.2.1).bind fun ak => (if ak = true then ((slices_Equal_int_int.f k ad ae.2.2.2.2.2).bind fun al => (some al)) else (some false))))) else (some false))))
def impl_IsSwapper.f (k : Nat) (ab : List Int) (ac : List Int) (ad : List Bool) (ae : List Int) (aa : List Int) (af : List Int) : Option (Bool) := (impl_isSwapperSize.f (aa.length : Int)).bind fun ag => (if ag = true then ((impl_IsFocus.f k ab ac ad ae).bind fun ah => (impl_IsSwapper.j0 k (aa.length : Int) (!ah) ab ac ad ae aa af)) else (impl_IsSwapper.j0 k (aa.length : Int) true ab ac ad ae aa af))
theorem impl_IsSwapper.calls (k : Nat) (aN : Option Addr) (aO : Nat) (am : List Int) (aV : Option Addr) (aW : Nat) (ap : List Int) (a8 : Option Addr) (a9 : Nat) (ay : List Bool) (ba : Option Addr) (bb : Nat) (az : List Int) (aX : Option Addr) (aY : Nat) (ai : List Int) (bc : Option Addr) (bd : Nat) (aF : List Int) (r : Bool) (w : World) (bg : Kd.C (Kd.int .i64) w aN am.length am) (bh : am.length ≤ aO) (bi : Kd.C (Kd.int .i64) w aV ap.length ap) (bj : ap.length ≤ aW) (bk : Kd.C Kd.bool w a8 ay.length ay) (bl : ay.length ≤ a9) (bm : Kd.C (Kd.int .i64) w ba az.length az) (bn : az.length ≤ bb) (bo : Kd.C (Kd.int .i64) w aX ai.length ai) (bp : ai.length ≤ aY) (bq : Kd.C (Kd.int .i64) w bc aF.length aF) (br : aF.length ≤ bd) (h : impl_IsSwapper.f k am ap ay az ai aF = some r) :
  Calls Tryz.prog 11 #[.agg #[.slice aN am.length aO, .slice aV ap.length aW, .slice a8 ay.length a9, .slice ba az.length bb, .slice aX ai.length aY, .slice bc aF.length bd]] w fun e w' => e = .returned (.bool r) ∧ Below w.heap.size w w' := by
 have hu29 := Tryz.underlying29
 have hu27 := Tryz.underlying27
 have aK := Ya bg
 have aL := Ya bh
 clear bg bh
 have a2 := Ya bi
 have a3 := Ya bj
 clear bi bj
 have bY := Ya bk
 have bZ := Ya bl
 clear bk bl
 have b0 := Ya bm
 have b1 := Ya bn
 clear bm bn
 have bu := Ya bo
 have bv := Ya bp
 clear bo bp
 have b2 := Ya bq
 have b3 := Ya br
 clear bq br
 have HB := Ya (Below.refl w.heap.size w)
 have H : ((impl_isSwapperSize.f (ai.length : Int)).bind fun b4 => (if b4 = true then ((impl_IsFocus.f k am ap ay az).bind fun be => (impl_IsSwapper.j0 k (ai.length : Int) (!be) am ap ay az ai aF)) else (impl_IsSwapper.j0 k (ai.length : Int) true am ap ay az ai aF))) = some r := h
 clear h
 have cE := Ya H
 clear H
 go_enter Tryz.func11, Tryz.ntmps11
 go_upto_region 2 with (first | ((with_reducible refine gate_dst (N := 1) rfl ?_); refine Yx 1 #[.slice aN am.length aO, .slice aV ap.length aW, .slice a8 ay.length a9, .slice ba az.length bb, .slice aX ai.length aY, .slice bc aF.length bd] 29 ?_; intro b5 hg w3 hbox hb; have aa := Ya hbox; have dv := Yg hg; replace HB := Yh hb; clear hb hbox hg; obtain ⟨bz, bA, bB, bC, bD, bE, bF, bG, bH, bI, bJ, bK⟩ := Y6 aa.1))
 (try simp only [Act.put, Z0, Z1, Z2])
 go_cut [17] (fun dN wc => ∃ (kq : Nat) (a4 : Bool), dN = .bool a4 ∧ Aside0 (impl_IsSwapper.j0 kq (ai.length : Int) a4 am ap ay az ai aF = some r) ∧ Aside0 (kq ≤ k) ∧ Aside0 (wc.heap[b5]? = some (.cells #[(.slice aN am.length aO), (.slice aV ap.length aW), (.slice a8 ay.length a9), (.slice ba az.length bb), (.slice aX ai.length aY), (.slice bc aF.length bd)] 29 (0, 0))) ∧ Aside0 (Below w.heap.size w wc))
 case first =>
  have H := cE.1
  clear cE
  replace H := YB H
  obtain ⟨b4, A5, H⟩ := H
  replace H := YC H
  obtain ⟨rfl, H⟩ | ⟨rfl, H⟩ := H
  ·replace H := YB H
   obtain ⟨be, A7, H⟩ := H
   have H' := Ya H
   clear H
   go_wp2_with (first | ((with_reducible refine gate_callee (f := 32) rfl ?_); refine Yz 10 Tryz.func32 #[.int .i64 (ai.length : Int)] ?_; (with_reducible refine (impl_isSwapperSize.calls (ai.length : Int) true _ A5.1).mono ?_); rintro e w' ⟨rfl, ⟨nd, rfl⟩⟩; refine ⟨_, rfl, ?_⟩; obtain ⟨cF, cG, cH, cI, cJ, cK, cL, cM, cN, cO, cP, cQ⟩ := Y6 aa.1) | (go_at_call 33; (with_reducible refine (impl_IsFocus.calls k _ _ am _ _ ap _ _ ay _ _ az be _ ?ak aL.1 ?al a3.1 ?b6 bZ.1 ?b7 b1.1 A7.1).mono ?_); (case ak => exact Yc (Z19 aK.1 Q0)); (case al => exact Yc (Z19 a2.1 Q0)); (case b6 => exact Yc (Z19 bY.1 Q0)); (case b7 => exact Yc (Z19 b0.1 Q0)); rintro e w9 ⟨rfl, hb⟩; replace aa := Yb aa hb; replace HB := Yh hb; (try clear hb)))
   go_meet
   case rel => exact ⟨_, (!be), Q17, H', ⟨Q43⟩, ⟨by (with_reducible repeat (first | refine Z22 ?_ _ | refine Z23 ?_ | refine Z24 ?_ _)); exact aa.1⟩, ⟨Q12⟩⟩
  ·have H' := Ya H
   clear H
   go_wp2_with (first | ((with_reducible refine gate_callee (f := 32) rfl ?_); refine Yz 10 Tryz.func32 #[.int .i64 (ai.length : Int)] ?_; (with_reducible refine (impl_isSwapperSize.calls (ai.length : Int) false _ A5.1).mono ?_); rintro e w' ⟨rfl, ⟨nd, rfl⟩⟩; refine ⟨_, rfl, ?_⟩))
   go_meet
   case rel => exact ⟨_, (true), Q17, H', ⟨Q43⟩, ⟨by (with_reducible repeat (first | refine Z22 ?_ _ | refine Z23 ?_ | refine Z24 ?_ _)); exact aa.1⟩, ⟨Q12⟩⟩
 case rest =>
  clear cE
  try clear bz
  try clear bA
  try clear bB
  try clear bC
  try clear bD
  try clear bE
  try clear bF
  try clear bG
  try clear bH
  try clear bI
  try clear bJ
  try clear bK
  obtain ⟨kq, a4, rfl, HA, HJ1, aa, HB⟩ := hcut
  cases kq with
  | zero => exact absurd HA.1 (by simp [impl_IsSwapper.j0])
  | succ aZ =>
   have H := HA.1
   clear HA
   simp only [impl_IsSwapper.j0] at H
   replace H := YC H
   obtain ⟨rfl, H⟩ | ⟨rfl, H⟩ := H
   ·obtain rfl := Option.some.inj H
    go_wp2
    go_ret
    exact ⟨Q2, Q12⟩
   ·replace H := YB H
    obtain ⟨⟨aq, aP, bL, aQ, aR, aS⟩, cR, H⟩ := H
    dsimp only at H
    replace H := YB H
    obtain ⟨dO, cS, H⟩ := H
    replace H := YC H
    obtain ⟨rfl, H⟩ | ⟨rfl, H⟩ := H
    ·replace H := YB H
     obtain ⟨a0, dw, H⟩ := H
     replace H := YB H
     obtain ⟨⟨a5, a6, b8, a7, aT, a1⟩, dx, H⟩ := H
     dsimp only at H
     replace H := YB H
     obtain ⟨dP, dy, H⟩ := H
     replace H := YC H
     obtain ⟨rfl, H⟩ | ⟨rfl, H⟩ := H
     ·replace H := YB H
      obtain ⟨cT, dQ, H⟩ := H
      obtain rfl := Option.some.inj H
      go_wp2_with (first | ((with_reducible refine gate_callee (f := 34) rfl ?_); refine Yz 19 Tryz.func34 #[.int .i64 (ai.length : Int)] ?_; (with_reducible refine (impl_startSwapper.calls aZ (ai.length : Int) aq aP bL aQ aR aS _ cR.1).mono ?_); rintro e ef ⟨b9, ca, cb, cc, cd, ce, rfl, aA, aB, aU, aC, aD, aE, hb⟩; refine ⟨_, rfl, ?_⟩; have ab := Yl aA; have ad := Yl aB; have ah := Yl aU; have ae := Yl aC; have af := Yl aD; have ag := Yl aE; replace aa := Yb aa hb; replace HB := Yh hb; (try clear hb aA aB aU aC aD aE)) | ((with_reducible refine gate_dst (N := 4) rfl ?_); refine Yx 4 YN6 29 ?_; intro bw hg eg hbox hb; replace ab := Yw ab hb; replace ad := Yw ad hb; replace ah := Yw ah hb; replace ae := Yw ae hb; replace af := Yw af hb; replace ag := Yw ag hb; have ac := Ya hbox; have bx := Yg hg; replace HB := Yh hb; have aj := Yn aa hg; have an := Ym aa hg; replace aa := Yb aa hb; clear hb hbox hg; obtain ⟨bN, bf, rfl⟩ := Z15 ab.1; have dz := an.1; have dA := aj.1; have dR := Y6 ac.1; obtain ⟨bO, bP, rfl⟩ := Z15 ad.1; obtain ⟨dS, dT, rfl⟩ := Z15 ah.1; obtain ⟨bQ, bR, rfl⟩ := Z15 ae.1; obtain ⟨bS, bT, rfl⟩ := Z15 af.1; obtain ⟨bU, bV, rfl⟩ := Z15 ag.1; have dU := Y6 aa.1) | ((with_reducible refine gate_callee (f := 35) rfl ?_); refine Yz 26 Tryz.func35 #[.slice bN aq.length bf, .slice aN am.length aO] ?_; (with_reducible refine (slices_Equal_int_int.calls aZ _ _ aq _ _ am true _ ?ak (YL ab) ?al aL.1 cS.1).mono ?_); (case ak => refine (Kd.R_reads' (e := 3) (base := w.heap.size) (ok := fun k_ => (some k_ ≠ (.slice bO aP.length bP : Value).ownBlock ∧ (some k_ ≠ (.slice bQ aQ.length bR : Value).ownBlock ∧ (some k_ ≠ (.slice bS aR.length bT : Value).ownBlock ∧ some k_ ≠ (.slice bU aS.length bV : Value).ownBlock)))) (n := aq.length) (c := bf) ?_).2.2; exact (Yj (Yf6 ab.1 ac.1) (fun _ h_ => h_.1))); (case al => exact Z19 aK.1 Q0); rintro e w' ⟨rfl, ⟨nd, rfl⟩⟩; refine ⟨_, rfl, ?_⟩) | ((with_reducible refine gate_callee (f := 30) rfl ?_); refine Yz 35 Tryz.func30 #[.slice aN am.length aO, .slice aV ap.length aW] ?_; (with_reducible refine (impl_mixedRank.calls aZ _ _ am _ _ ap a0 _ ?ak aL.1 ?al a3.1 dw.1).mono ?_); (case ak => exact Z19 aK.1 Q0); (case al => exact Z19 a2.1 Q0); rintro e eh ⟨rfl, hb⟩; refine ⟨_, rfl, ?_⟩; replace ab := Ya (Z13 (Yj (Yf6 ab.1 ac.1) (fun _ h_ => h_.1)) hb); replace ad := Ya (Z13 (Yj (Yf6 ad.1 ac.1) (fun _ h_ => h_.1)) hb); replace ah := Ya (Z13 (Yj (Yf6 ah.1 ac.1) (fun _ h_ => h_.1)) hb); replace ae := Ya (Z13 (Yj (Yf6 ae.1 ac.1) (fun _ h_ => h_.1)) hb); replace af := Ya (Z13 (Yj (Yf6 af.1 ac.1) (fun _ h_ => h_.1)) hb); replace ag := Ya (Z13 (Yj (Yf6 ag.1 ac.1) (fun _ h_ => h_.1)) hb); replace aa := Yb ⟨Yo6 aa.1 aj.1⟩ hb; replace ac := Yb ⟨Yv6 ac.1⟩ hb; replace HB := Yh hb; (try clear hb)) | ((with_reducible refine gate_callee (f := 36) rfl ?_); refine Yz 36 Tryz.func36 #[.int .i64 (ai.length : Int), .int .i64 a0] ?_; (with_reducible refine (impl_swapperAt.calls aZ (ai.length : Int) a0 a5 a6 b8 a7 aT a1 _ dx.1).mono ?_); rintro e ei ⟨cU, cV, cW, cX, cY, cZ, rfl, aA, aB, aU, aC, aD, aE, hb⟩; refine ⟨_, rfl, ?_⟩; have aG := Yl (YW (YW (YW (YW (YW aA ab) ad) ae) af) ag); have aH := Yl (YW (YW (YW (YW (YW aB ab) ad) ae) af) ag); have aI := Yl (YW aU ah); replace ah := YE ah aU hb; have aJ := Yl (YW (YW (YW (YW (YW aC ab) ad) ae) af) ag); have ao := Yl (YW (YW (YW (YW (YW aD ab) ad) ae) af) ag); have ar := Yl (YW (YW (YW (YW (YW aE ab) ad) ae) af) ag); replace ab := YM (YT (YT (YT (YT (YT (YO ab hb) aA) aB) aC) aD) aE); replace ad := YM (YT (YT (YT (YT (YT (YO ad hb) aA) aB) aC) aD) aE); replace ae := YM (YT (YT (YT (YT (YT (YO ae hb) aA) aB) aC) aD) aE); replace af := YM (YT (YT (YT (YT (YT (YO af hb) aA) aB) aC) aD) aE); replace ag := YM (YT (YT (YT (YT (YT (YO ag hb) aA) aB) aC) aD) aE); replace aa := Yb aa hb; replace ac := Yb ac hb; replace HB := Yh hb; (try clear hb aA aB aU aC aD aE)) | ((with_reducible refine gate_dst (N := 5) rfl ?_); refine Yx 5 YN6 29 ?_; intro cf hg ej hbox hb; replace ab := Yw ab hb; replace ad := Yw ad hb; replace ah := Yw ah hb; replace ae := Yw ae hb; replace af := Yw af hb; replace ag := Yw ag hb; replace aG := Yw aG hb; replace aH := Yw aH hb; replace aI := Yw aI hb; replace aJ := Yw aJ hb; replace ao := Yw ao hb; replace ar := Yw ar hb; have aM := Ya hbox; have cg := Yg hg; replace HB := Yh hb; have au := Yn aa hg; have av := Ym aa hg; replace aa := Yb aa hb; have aw := Yn ac hg; have ax := Ym ac hg; replace ac := Yb ac hb; clear hb hbox hg; obtain ⟨ch, cj, rfl⟩ := Z15 aG.1; have dB := av.1; have dC := au.1; have dD := ax.1; have dE := aw.1; have dV := Y6 aM.1; obtain ⟨ck, cl, rfl⟩ := Z15 aH.1; obtain ⟨dW, dX, rfl⟩ := Z15 aI.1; obtain ⟨cm, cp, rfl⟩ := Z15 aJ.1; obtain ⟨cq, bW, rfl⟩ := Z15 ao.1; obtain ⟨da, cr, rfl⟩ := Z15 ar.1; have dY := Y6 aa.1) | ((with_reducible refine gate_callee (f := 35) rfl ?_); refine Yz 41 Tryz.func35 #[.slice aX ai.length aY, .slice cq aT.length bW] ?_; (with_reducible refine (slices_Equal_int_int.calls aZ _ _ ai _ _ aT true _ ?ak bv.1 ?al (YL ao) dy.1).mono ?_); (case ak => exact Z19 bu.1 Q0); (case al => refine (Kd.R_reads' (e := 3) (base := w.heap.size) (ok := fun k_ => ((((((some k_ ≠ (.slice ch a5.length cj : Value).ownBlock ∧ (some k_ ≠ (.slice ck a6.length cl : Value).ownBlock ∧ (some k_ ≠ (.slice cm a7.length cp : Value).ownBlock ∧ some k_ ≠ (.slice da a1.length cr : Value).ownBlock))) ∧ some k_ ≠ (.slice bN aq.length bf : Value).ownBlock) ∧ some k_ ≠ (.slice bO aP.length bP : Value).ownBlock) ∧ some k_ ≠ (.slice bQ aQ.length bR : Value).ownBlock) ∧ some k_ ≠ (.slice bS aR.length bT : Value).ownBlock) ∧ some k_ ≠ (.slice bU aS.length bV : Value).ownBlock)) (n := aT.length) (c := bW) ?_).2.2; exact (Yj (Yf6 ao.1 aM.1) (fun _ h_ => h_.1))); rintro e w' ⟨rfl, ⟨nd, rfl⟩⟩; refine ⟨_, rfl, ?_⟩) | (go_at_call 35; (with_reducible refine (slices_Equal_int_int.calls aZ _ _ aF _ _ a1 cT _ ?ak b3.1 ?al (YL ar) dQ.1).mono ?_); (case ak => exact Z19 b2.1 Q0); (case al => refine (Kd.R_reads' (e := 3) (base := w.heap.size) (ok := fun k_ => ((((((some k_ ≠ (.slice ch a5.length cj : Value).ownBlock ∧ (some k_ ≠ (.slice ck a6.length cl : Value).ownBlock ∧ (some k_ ≠ (.slice cm a7.length cp : Value).ownBlock ∧ some k_ ≠ (.slice cq aT.length bW : Value).ownBlock))) ∧ some k_ ≠ (.slice bN aq.length bf : Value).ownBlock) ∧ some k_ ≠ (.slice bO aP.length bP : Value).ownBlock) ∧ some k_ ≠ (.slice bQ aQ.length bR : Value).ownBlock) ∧ some k_ ≠ (.slice bS aR.length bT : Value).ownBlock) ∧ some k_ ≠ (.slice bU aS.length bV : Value).ownBlock)) (n := a1.length) (c := cr) ?_).2.2; exact (Yj (Yf6 ar.1 aM.1) (fun _ h_ => h_.1))); rintro e w' ⟨rfl, ⟨nd, rfl⟩⟩))
      go_ret
      exact ⟨Q2, Q12⟩
     ·obtain rfl := Option.some.inj H
      go_wp2_with (first | ((with_reducible refine gate_callee (f := 34) rfl ?_); refine Yz 19 Tryz.func34 #[.int .i64 (ai.length : Int)] ?_; (with_reducible refine (impl_startSwapper.calls aZ (ai.length : Int) aq aP bL aQ aR aS _ cR.1).mono ?_); rintro e ek ⟨b9, ca, cb, cc, cd, ce, rfl, aA, aB, aU, aC, aD, aE, hb⟩; refine ⟨_, rfl, ?_⟩; have ab := Yl aA; have ad := Yl aB; have ah := Yl aU; have ae := Yl aC; have af := Yl aD; have ag := Yl aE; replace aa := Yb aa hb; replace HB := Yh hb; (try clear hb aA aB aU aC aD aE)) | ((with_reducible refine gate_dst (N := 4) rfl ?_); refine Yx 4 YN6 29 ?_; intro bw hg em hbox hb; replace ab := Yw ab hb; replace ad := Yw ad hb; replace ah := Yw ah hb; replace ae := Yw ae hb; replace af := Yw af hb; replace ag := Yw ag hb; have ac := Ya hbox; have bx := Yg hg; replace HB := Yh hb; have aj := Yn aa hg; have an := Ym aa hg; replace aa := Yb aa hb; clear hb hbox hg; obtain ⟨ct, bX, rfl⟩ := Z15 ab.1; have dF := an.1; have dG := aj.1; have dZ := Y6 ac.1; obtain ⟨cu, cv, rfl⟩ := Z15 ad.1; obtain ⟨d4, d5, rfl⟩ := Z15 ah.1; obtain ⟨cw, cx, rfl⟩ := Z15 ae.1; obtain ⟨cy, cz, rfl⟩ := Z15 af.1; obtain ⟨cA, cB, rfl⟩ := Z15 ag.1; have d6 := Y6 aa.1) | ((with_reducible refine gate_callee (f := 35) rfl ?_); refine Yz 26 Tryz.func35 #[.slice ct aq.length bX, .slice aN am.length aO] ?_; (with_reducible refine (slices_Equal_int_int.calls aZ _ _ aq _ _ am true _ ?ak (YL ab) ?al aL.1 cS.1).mono ?_); (case ak => refine (Kd.R_reads' (e := 3) (base := w.heap.size) (ok := fun k_ => (some k_ ≠ (.slice cu aP.length cv : Value).ownBlock ∧ (some k_ ≠ (.slice cw aQ.length cx : Value).ownBlock ∧ (some k_ ≠ (.slice cy aR.length cz : Value).ownBlock ∧ some k_ ≠ (.slice cA aS.length cB : Value).ownBlock)))) (n := aq.length) (c := bX) ?_).2.2; exact (Yj (Yf6 ab.1 ac.1) (fun _ h_ => h_.1))); (case al => exact Z19 aK.1 Q0); rintro e w' ⟨rfl, ⟨nd, rfl⟩⟩; refine ⟨_, rfl, ?_⟩) | ((with_reducible refine gate_callee (f := 30) rfl ?_); refine Yz 35 Tryz.func30 #[.slice aN am.length aO, .slice aV ap.length aW] ?_; (with_reducible refine (impl_mixedRank.calls aZ _ _ am _ _ ap a0 _ ?ak aL.1 ?al a3.1 dw.1).mono ?_); (case ak => exact Z19 aK.1 Q0); (case al => exact Z19 a2.1 Q0); rintro e en ⟨rfl, hb⟩; refine ⟨_, rfl, ?_⟩; replace ab := Ya (Z13 (Yj (Yf6 ab.1 ac.1) (fun _ h_ => h_.1)) hb); replace ad := Ya (Z13 (Yj (Yf6 ad.1 ac.1) (fun _ h_ => h_.1)) hb); replace ah := Ya (Z13 (Yj (Yf6 ah.1 ac.1) (fun _ h_ => h_.1)) hb); replace ae := Ya (Z13 (Yj (Yf6 ae.1 ac.1) (fun _ h_ => h_.1)) hb); replace af := Ya (Z13 (Yj (Yf6 af.1 ac.1) (fun _ h_ => h_.1)) hb); replace ag := Ya (Z13 (Yj (Yf6 ag.1 ac.1) (fun _ h_ => h_.1)) hb); replace aa := Yb ⟨Yo6 aa.1 aj.1⟩ hb; replace ac := Yb ⟨Yv6 ac.1⟩ hb; replace HB := Yh hb; (try clear hb)) | ((with_reducible refine gate_callee (f := 36) rfl ?_); refine Yz 36 Tryz.func36 #[.int .i64 (ai.length : Int), .int .i64 a0] ?_; (with_reducible refine (impl_swapperAt.calls aZ (ai.length : Int) a0 a5 a6 b8 a7 aT a1 _ dx.1).mono ?_); rintro e eo ⟨cU, cV, cW, cX, cY, cZ, rfl, aA, aB, aU, aC, aD, aE, hb⟩; refine ⟨_, rfl, ?_⟩; have aG := Yl (YW (YW (YW (YW (YW aA ab) ad) ae) af) ag); have aH := Yl (YW (YW (YW (YW (YW aB ab) ad) ae) af) ag); have aI := Yl (YW aU ah); replace ah := YE ah aU hb; have aJ := Yl (YW (YW (YW (YW (YW aC ab) ad) ae) af) ag); have ao := Yl (YW (YW (YW (YW (YW aD ab) ad) ae) af) ag); have ar := Yl (YW (YW (YW (YW (YW aE ab) ad) ae) af) ag); replace ab := YM (YT (YT (YT (YT (YT (YO ab hb) aA) aB) aC) aD) aE); replace ad := YM (YT (YT (YT (YT (YT (YO ad hb) aA) aB) aC) aD) aE); replace ae := YM (YT (YT (YT (YT (YT (YO ae hb) aA) aB) aC) aD) aE); replace af := YM (YT (YT (YT (YT (YT (YO af hb) aA) aB) aC) aD) aE); replace ag := YM (YT (YT (YT (YT (YT (YO ag hb) aA) aB) aC) aD) aE); replace aa := Yb aa hb; replace ac := Yb ac hb; replace HB := Yh hb; (try clear hb aA aB aU aC aD aE)) | ((with_reducible refine gate_dst (N := 5) rfl ?_); refine Yx 5 YN6 29 ?_; intro cf hg ep hbox hb; replace ab := Yw ab hb; replace ad := Yw ad hb; replace ah := Yw ah hb; replace ae := Yw ae hb; replace af := Yw af hb; replace ag := Yw ag hb; replace aG := Yw aG hb; replace aH := Yw aH hb; replace aI := Yw aI hb; replace aJ := Yw aJ hb; replace ao := Yw ao hb; replace ar := Yw ar hb; have aM := Ya hbox; have cg := Yg hg; replace HB := Yh hb; have au := Yn aa hg; have av := Ym aa hg; replace aa := Yb aa hb; have aw := Yn ac hg; have ax := Ym ac hg; replace ac := Yb ac hb; clear hb hbox hg; obtain ⟨db, dc, rfl⟩ := Z15 aG.1; have dH := av.1; have dI := au.1; have dJ := ax.1; have dK := aw.1; have d7 := Y6 aM.1; obtain ⟨dd, de, rfl⟩ := Z15 aH.1; obtain ⟨d8, d9, rfl⟩ := Z15 aI.1; obtain ⟨df, dg, rfl⟩ := Z15 aJ.1; obtain ⟨dh, cC, rfl⟩ := Z15 ao.1; obtain ⟨di, dj, rfl⟩ := Z15 ar.1; have ea := Y6 aa.1) | ((with_reducible refine gate_callee (f := 35) rfl ?_); refine Yz 41 Tryz.func35 #[.slice aX ai.length aY, .slice dh aT.length cC] ?_; (with_reducible refine (slices_Equal_int_int.calls aZ _ _ ai _ _ aT false _ ?ak bv.1 ?al (YL ao) dy.1).mono ?_); (case ak => exact Z19 bu.1 Q0); (case al => refine (Kd.R_reads' (e := 3) (base := w.heap.size) (ok := fun k_ => ((((((some k_ ≠ (.slice db a5.length dc : Value).ownBlock ∧ (some k_ ≠ (.slice dd a6.length de : Value).ownBlock ∧ (some k_ ≠ (.slice df a7.length dg : Value).ownBlock ∧ some k_ ≠ (.slice di a1.length dj : Value).ownBlock))) ∧ some k_ ≠ (.slice ct aq.length bX : Value).ownBlock) ∧ some k_ ≠ (.slice cu aP.length cv : Value).ownBlock) ∧ some k_ ≠ (.slice cw aQ.length cx : Value).ownBlock) ∧ some k_ ≠ (.slice cy aR.length cz : Value).ownBlock) ∧ some k_ ≠ (.slice cA aS.length cB : Value).ownBlock)) (n := aT.length) (c := cC) ?_).2.2; exact (Yj (Yf6 ao.1 aM.1) (fun _ h_ => h_.1))); rintro e w' ⟨rfl, ⟨nd, rfl⟩⟩; refine ⟨_, rfl, ?_⟩))
      go_ret
      exact ⟨Q2, Q12⟩
    ·obtain rfl := Option.some.inj H
     go_wp2_with (first | ((with_reducible refine gate_callee (f := 34) rfl ?_); refine Yz 19 Tryz.func34 #[.int .i64 (ai.length : Int)] ?_; (with_reducible refine (impl_startSwapper.calls aZ (ai.length : Int) aq aP bL aQ aR aS _ cR.1).mono ?_); rintro e eq ⟨b9, ca, cb, cc, cd, ce, rfl, aA, aB, aU, aC, aD, aE, hb⟩; refine ⟨_, rfl, ?_⟩; have ab := Yl aA; have ad := Yl aB; have ah := Yl aU; have ae := Yl aC; have af := Yl aD; have ag := Yl aE; replace aa := Yb aa hb; replace HB := Yh hb; (try clear hb aA aB aU aC aD aE)) | ((with_reducible refine gate_dst (N := 4) rfl ?_); refine Yx 4 YN6 29 ?_; intro bw hg er hbox hb; replace ab := Yw ab hb; replace ad := Yw ad hb; replace ah := Yw ah hb; replace ae := Yw ae hb; replace af := Yw af hb; replace ag := Yw ag hb; have ac := Ya hbox; have bx := Yg hg; replace HB := Yh hb; have aj := Yn aa hg; have an := Ym aa hg; replace aa := Yb aa hb; clear hb hbox hg; obtain ⟨dk, cD, rfl⟩ := Z15 ab.1; have dL := an.1; have dM := aj.1; have eb := Y6 ac.1; obtain ⟨dl, dm, rfl⟩ := Z15 ad.1; obtain ⟨ec, ed, rfl⟩ := Z15 ah.1; obtain ⟨dn, dp, rfl⟩ := Z15 ae.1; obtain ⟨dq, dr, rfl⟩ := Z15 af.1; obtain ⟨dt, du, rfl⟩ := Z15 ag.1; have ee := Y6 aa.1) | ((with_reducible refine gate_callee (f := 35) rfl ?_); refine Yz 26 Tryz.func35 #[.slice dk aq.length cD, .slice aN am.length aO] ?_; (with_reducible refine (slices_Equal_int_int.calls aZ _ _ aq _ _ am false _ ?ak (YL ab) ?al aL.1 cS.1).mono ?_); (case ak => refine (Kd.R_reads' (e := 3) (base := w.heap.size) (ok := fun k_ => (some k_ ≠ (.slice dl aP.length dm : Value).ownBlock ∧ (some k_ ≠ (.slice dn aQ.length dp : Value).ownBlock ∧ (some k_ ≠ (.slice dq aR.length dr : Value).ownBlock ∧ some k_ ≠ (.slice dt aS.length du : Value).ownBlock)))) (n := aq.length) (c := cD) ?_).2.2; exact (Yj (Yf6 ab.1 ac.1) (fun _ h_ => h_.1))); (case al => exact Z19 aK.1 Q0); rintro e w' ⟨rfl, ⟨nd, rfl⟩⟩; refine ⟨_, rfl, ?_⟩))
     go_ret
     exact ⟨Q2, Q12⟩
def impl_Focus_own.f (ac : List Int) (ad : List Int) (aa : List Bool) (ae : List Int) : Option (List Int × List Int × List Bool × List Int) := (impl_copied.f ac).bind fun af => ((impl_copied.f ad).bind fun ag => ((some (([] : List Bool) : List Bool)).bind fun ab => (if ab.length + aa.length < 140737488355328 then ((impl_copied.f ae).bind fun ah => (some (af, ag, (ab ++ aa), ah))) else (none))))
def impl_Focus_own.T1 : Bool × List (List Nat × List Nat) := (true, [([], []), ([0], [0]), ([1], [1]), ([], []), ([3], [3]), ([4, 2], [4]), ([], []), ([], []), ([7], [7]), ([6, 8, 5], [6, 8]), ([], []), ([10], [10]), ([11, 9], [11]), ([2, 5, 9, 12], [2, 5, 9, 12]), ([13, 12, 0, 1, 2, 3, 4, 5, 6, 7, 8, 9, 10, 11, 12, 13], [13])])
def impl_Focus_own.B1 : List Nat := [0, 1, 3, 0, 8, 31, 0, 0, 128, 511, 0, 1024, 4095, 8191, 16383]
theorem impl_Focus_own.tab1 : rtab .any (opsOf Tryz.f25 1) = impl_Focus_own.T1 := by kernel_rfl
theorem impl_Focus_own.bits1 : waitsOk impl_Focus_own.T1.2 impl_Focus_own.B1 = true := by kernel_rfl
theorem impl_Focus_own.calls (ar : Option Addr) (au : Nat) (ak : List Int) (ap : Option Addr) (aq : Nat) (ai : List Int) (aC : Option Addr) (aD : Nat) (aj : List Bool) (aw : Option Addr) (ax : Nat) (al : List Int) (r1 : List Int) (r2 : List Int) (r3 : List Bool) (r4 : List Int) (w : World) (aX : Kd.C (Kd.int .i64) w ar ak.length ak) (aY : ak.length ≤ au) (aZ : Kd.C (Kd.int .i64) w ap ai.length ai) (a0 : ai.length ≤ aq) (a1 : Kd.C Kd.bool w aC aj.length aj) (a2 : aj.length ≤ aD) (a3 : Kd.C (Kd.int .i64) w aw al.length al) (a4 : al.length ≤ ax) (h : impl_Focus_own.f ak ai aj al = some (r1, r2, r3, r4)) :
  Calls Tryz.prog 25 #[.agg #[.slice ar ak.length au, .slice ap ai.length aq, .slice aC aj.length aD, .slice aw al.length ax]] w fun e w' => ∃ v0_ v1_ v2_ v3_ : Value, e = .returned (.agg #[v0_, v1_, v2_, v3_]) ∧ Kd.R (Kd.int .i64) 3 w' w.heap.size (fun k_ => some k_ ≠ (v1_ : Value).ownBlock ∧ some k_ ≠ (v3_ : Value).ownBlock) v0_ r1 ∧ Kd.R (Kd.int .i64) 3 w' w.heap.size (fun k_ => some k_ ≠ (v0_ : Value).ownBlock ∧ some k_ ≠ (v3_ : Value).ownBlock) v1_ r2 ∧ Kd.R Kd.bool 4 w' w.heap.size (fun _ => True) v2_ r3 ∧ Kd.R (Kd.int .i64) 3 w' w.heap.size (fun k_ => some k_ ≠ (v0_ : Value).ownBlock ∧ some k_ ≠ (v1_ : Value).ownBlock) v3_ r4 ∧ Below w.heap.size w w' := by
 have hu27 := Tryz.underlying27
 have a5 := Ya aX
 have a6 := Ya aY
 clear aX aY
 have aP := Ya aZ
 have aQ := Ya a0
 clear aZ a0
 have a8 := Ya a1
 have bB := Ya a2
 clear a1 a2
 have a9 := Ya a3
 have ba := Ya a4
 clear a3 a4
 have HB := Ya (Below.refl w.heap.size w)
 have H : ((impl_copied.f ak).bind fun aE => ((impl_copied.f ai).bind fun ay => ((some (([] : List Bool) : List Bool)).bind fun az => (if az.length + aj.length < 140737488355328 then ((impl_copied.f al).bind fun aG => (some (aE, ay, (az ++ aj), aG))) else (none))))) = some (r1, r2, r3, r4) := h
 clear h
 replace H := YB H
 obtain ⟨aE, A2, H⟩ := H
 replace H := YB H
 obtain ⟨ay, A3, H⟩ := H
 obtain ⟨az, aH⟩ : ∃ y_ : List Bool, y_ = (([] : List Bool)) := ⟨_, rfl⟩
 replace H : (if az.length + aj.length < 140737488355328 then ((impl_copied.f al).bind fun aG => (some (aE, ay, (az ++ aj), aG))) else (none)) = some (r1, r2, r3, r4) := by first | (rw [aH]; with_reducible exact H) | (have H2_ := (Option.bind_some _ _).symm.trans H; rw [aH]; with_reducible exact H2_) | (have H2_ := (Option.bind_some _ _).symm.trans H; with_reducible exact H2_) | with_reducible exact H | (rw [aH]; exact H) | exact H
 have aA := Ya aH
 clear aH
 by_cases c4 : az.length + aj.length < 140737488355328
 ·rw [if_pos c4] at H
  have LMc4 := Ya c4
  clear c4
  obtain ⟨bb, aI⟩ : ∃ y_ : List Bool, y_ = (az ++ aj) := ⟨_, rfl⟩
  replace H : ((impl_copied.f al).bind fun aG => (some (aE, ay, bb, aG))) = some (r1, r2, r3, r4) := by first | (rw [aI]; with_reducible exact H) | (have H2_ := (Option.bind_some _ _).symm.trans H; rw [aI]; with_reducible exact H2_) | (have H2_ := (Option.bind_some _ _).symm.trans H; with_reducible exact H2_) | with_reducible exact H | (rw [aI]; exact H) | exact H
  have bc := Ya aI
  clear aI
  replace H := YB H
  obtain ⟨aG, A5, H⟩ := H
  simp only [Option.some.injEq, Prod.mk.injEq] at H
  obtain ⟨rfl, rfl, rfl, rfl⟩ := H
  go_enter Tryz.func25, Tryz.ntmps25
  try go_wp2_with (first | ((with_reducible refine gate_dst (N := 1) rfl ?_); refine Yx 1 #[.slice ar ak.length au, .slice ap ai.length aq, .slice aC aj.length aD, .slice aw al.length ax] 27 ?_; intro ag hg w6 hbox hb; have ab := Ya hbox; have bC := Yg hg; replace HB := Yh hb; clear hb hbox hg) | ((with_reducible refine gate_dst (N := 2) rfl ?_); refine Yx 2 YN4 27 ?_; intro ae hg w7 hbox hb; have ac := Ya hbox; have bD := Yg hg; replace HB := Yh hb; have aa := Yn ab hg; have ao := Ym ab hg; replace ab := Yb ab hb; clear hb hbox hg))
  replace ab := Ya (Z23 ab.1)
  replace ac := Ya (Z23 ac.1)
  replace HB := Ya (Z4 HB.1)
  refine start_ (n := 15) (S := fun w' => w'.cell? ⟨ag, 0, none⟩ = some (.slice ar ak.length au) ∧ w'.cell? ⟨ag, 1, none⟩ = some (.slice ap ai.length aq) ∧ w'.cell? ⟨ag, 2, none⟩ = some (.slice aC aj.length aD) ∧ w'.cell? ⟨ag, 3, none⟩ = some (.slice aw al.length ax)) (ds := []) (YA 15 0) (by kernel_rfl) rfl rfl (Yz4 ab.1) (fun hHeld => ?_); refine with_tabW impl_Focus_own.tab1 impl_Focus_own.bits1 (fun HT_ HW_ => ?_)
  generalize w7.drew = w8 at ab ac HB hHeld ⊢
  refine Yp 0 (some 3) (YA 15 1) rfl HT_.1 ?_
  refine Yp 3 (some 6) (YA 15 9) rfl HT_.1 ?_
  refine Yp 7 (some 10) (YA 15 137) rfl HT_.1 ?_
  refine Yp 10 (some 13) (YA 15 1161) rfl HT_.1 ?_
  refine Yt 1 (some 4) (YA 15 1163) rfl HT_.1 HW_.1 hHeld Q8 ?_
  refine Yt 4 (some 7) (YA 15 1179) rfl HT_.1 HW_.1 hHeld Q8 ?_
  refine Yt 8 (some 11) (YA 15 1435) rfl HT_.1 HW_.1 hHeld Q8 ?_
  refine Yt 11 (some 14) (YA 15 3483) rfl HT_.1 HW_.1 hHeld Q8 ?_
  refine join_ (σ := Value × Value × Value) 4 (YA 15 3583) (fun s_ => [(5, s_.1), (8, s_.2.1), (9, s_.2.2)]) (fun s_ w' => (w'.cell? ⟨ag, 0, none⟩ = some (.slice ar ak.length au) ∧ w'.cell? ⟨ag, 1, none⟩ = some (.slice ap ai.length aq) ∧ w'.cell? ⟨ag, 2, none⟩ = some (.slice aC aj.length aD) ∧ w'.cell? ⟨ag, 3, none⟩ = some (.slice aw al.length ax)) ∧ (Kd.R (Kd.int .i64) 3 w' w.heap.size (fun k_ => some k_ ≠ (s_.2.1 : Value).ownBlock) s_.1 aE) ∧ (Kd.R (Kd.int .i64) 3 w' w.heap.size (fun k_ => some k_ ≠ (s_.1 : Value).ownBlock) s_.2.1 ay) ∧ (Kd.R Kd.bool 4 w' w.heap.size (fun _ => True) s_.2.2 az) ∧ (w'.heap[ag]? = some (.cells #[.slice ar ak.length au, .slice ap ai.length aq, .slice aC aj.length aD, .slice aw al.length ax] 27 (0, 0))) ∧ (w'.heap[ae]? = some (.cells YN4 27 (0, 0))) ∧ (Below w.heap.size w w')) ?_ ?_
  rotate_left
  ·intro hCont
   refine two_ (i := 2) (j := 6) (Ni := some 5) (Nj := some 9) (YA 15 3487) (YA 15 3547) rfl rfl rfl rfl (two_of HT_.1 (by kernel_rfl)) (by decide) (by decide) (fun K hK => ?_) (fun K hK => ?_)
   ·skip
    refine goes_ Tryz.func26 (by kernel_rfl) rfl #[.slice ar ak.length au] (by rfl) rfl rfl Q20 ?_
    with_reducible refine (impl_copied.calls _ _ ak aE _ ?am ?an A2.1).mono ?_
    (case am => exact Yc (Z19 a5.1 HB.1))
    (case an => exact a6.1)
    rintro e w9 ⟨aM, rfl, av, hb⟩
    refine ⟨_, rfl, ?_⟩
    have ad := Yl av
    replace ab := Yb ab hb
    replace ac := Yb ac hb
    replace HB := Yh hb
    (try clear hb av)
    refine hK.out _ _ (Yz4 ab.1) (fun hHeld => ?_)
    clear hK K
    refine YNa 5 ?_
    refine two_ (i := 5) (j := 6) (Ni := some 8) (Nj := some 9) (YA 15 3519) (YA 15 3551) rfl rfl rfl rfl (two_of HT_.1 (by kernel_rfl)) (by decide) (by decide) (fun K hK => ?_) (fun K hK => ?_)
    ·skip
     refine goes_ Tryz.func26 (by kernel_rfl) rfl #[.slice ap ai.length aq] (by rfl) rfl rfl Q20 ?_
     with_reducible refine (impl_copied.calls _ _ ai ay _ ?am ?an A3.1).mono ?_
     (case am => exact Yc (Z19 aP.1 HB.1))
     (case an => exact aQ.1)
     rintro e bE ⟨aJ, rfl, av, hb⟩
     refine ⟨_, rfl, ?_⟩
     have ah := Yl (YW av ad)
     replace ad := YE ad av hb
     replace ab := Yb ab hb
     replace ac := Yb ac hb
     replace HB := Yh hb
     (try clear hb av)
     refine hK.out _ _ (Yz4 ab.1) (fun hHeld => ?_)
     clear hK K
     refine YNa 8 ?_
     refine one_ (i := 6) (N := some 9) (YA 15 3583) rfl rfl (one_of HT_.1 (by kernel_rfl)) (by decide) (fun K hK => ?_)
     refine Kd.R_lit_step Kd.bool _ 4 ?hg (N := 9) ?hd (xs := ([] : List Bool)) (inner := []) (ok := fun _ => True) (okp := fun _ => True) ?hr ?hp (fun _ hk => hk) trivial (Below.refl _ _) (Nat.le_refl _) (by simp) ?_; (case hd => rfl); (case hg => rfl); (case hr => first | (go_simp; done) | (go_simp; rfl)); (case hp => exact (Reps.none _ _))
     intro aK bF aT hb hg_ hnew_
     clear hg_ hnew_
     (first | rw [← aA.1] at aT | (simp only [Int.reduceToNat] at aT; rw [← aA.1] at aT))
     replace ad := Yw ad hb
     replace ah := Yw ah hb
     have af := Yl aT
     replace ab := Yb ab hb
     replace ac := Yb ac hb
     replace HB := Yh hb
     clear hb aT
     refine hK.out _ _ (Yz4 ab.1) (fun hHeld => ?_)
     clear hK K
     refine YNa 9 ?_
     exact norm_ Q34 (hCont (aM, aJ, aK) _ ⟨hHeld, (Yj ad.1 (fun _ hk => hk.2)), (Yj ah.1 (fun _ hk => hk.2)), (Yr af.1), (Yk ab.1), (Yk ac.1), Q0⟩)
    ·skip
     refine Kd.R_lit_step Kd.bool _ 4 ?hg (N := 9) ?hd (xs := ([] : List Bool)) (inner := []) (ok := fun _ => True) (okp := fun _ => True) ?hr ?hp (fun _ hk => hk) trivial (Below.refl _ _) (Nat.le_refl _) (by simp) ?_; (case hd => rfl); (case hg => rfl); (case hr => first | (go_simp; done) | (go_simp; rfl)); (case hp => exact (Reps.none _ _))
     intro aK bE aU hb hg_ hnew_
     clear hg_ hnew_
     (first | rw [← aA.1] at aU | (simp only [Int.reduceToNat] at aU; rw [← aA.1] at aU))
     replace ad := Yw ad hb
     have af := Yl aU
     replace ab := Yb ab hb
     replace ac := Yb ac hb
     replace HB := Yh hb
     clear hb aU
     refine hK.out _ _ (Yz4 ab.1) (fun hHeld => ?_)
     clear hK K
     refine YNa 9 ?_
     refine one_ (i := 5) (N := some 8) (YA 15 3583) rfl rfl (one_of HT_.1 (by kernel_rfl)) (by decide) (fun K hK => ?_)
     refine goes_ Tryz.func26 (by kernel_rfl) rfl #[.slice ap ai.length aq] (by rfl) rfl rfl Q20 ?_
     with_reducible refine (impl_copied.calls _ _ ai ay _ ?am ?an A3.1).mono ?_
     (case am => exact Yc (Z19 aP.1 HB.1))
     (case an => exact aQ.1)
     rintro e bG ⟨aJ, rfl, av, hb⟩
     refine ⟨_, rfl, ?_⟩
     replace af := Yw af hb
     have ah := Yl (YW av ad)
     replace ad := YE ad av hb
     replace ab := Yb ab hb
     replace ac := Yb ac hb
     replace HB := Yh hb
     (try clear hb av)
     refine hK.out _ _ (Yz4 ab.1) (fun hHeld => ?_)
     clear hK K
     refine YNa 8 ?_
     exact norm_ Q34 (hCont (aM, aJ, aK) _ ⟨hHeld, (Yj ad.1 (fun _ hk => hk.2)), (Yj ah.1 (fun _ hk => hk.2)), (Yr af.1), (Yk ab.1), (Yk ac.1), Q0⟩)
   ·skip
    refine Kd.R_lit_step Kd.bool _ 4 ?hg (N := 9) ?hd (xs := ([] : List Bool)) (inner := []) (ok := fun _ => True) (okp := fun _ => True) ?hr ?hp (fun _ hk => hk) trivial (Below.refl _ _) (Nat.le_refl _) (by simp) ?_; (case hd => rfl); (case hg => rfl); (case hr => first | (go_simp; done) | (go_simp; rfl)); (case hp => exact (Reps.none _ _))
    intro aK w9 aV hb hg_ hnew_
    clear hg_ hnew_
    (first | rw [← aA.1] at aV | (simp only [Int.reduceToNat] at aV; rw [← aA.1] at aV))
    have af := Yl aV
    replace ab := Yb ab hb
    replace ac := Yb ac hb
    replace HB := Yh hb
    clear hb aV
    refine hK.out _ _ (Yz4 ab.1) (fun hHeld => ?_)
    clear hK K
    refine YNa 9 ?_
    refine one_ (i := 2) (N := some 5) (YA 15 3551) rfl rfl (one_of HT_.1 (by kernel_rfl)) (by decide) (fun K hK => ?_)
    refine goes_ Tryz.func26 (by kernel_rfl) rfl #[.slice ar ak.length au] (by rfl) rfl rfl Q20 ?_
    with_reducible refine (impl_copied.calls _ _ ak aE _ ?am ?an A2.1).mono ?_
    (case am => exact Yc (Z19 a5.1 HB.1))
    (case an => exact a6.1)
    rintro e bF ⟨aM, rfl, av, hb⟩
    refine ⟨_, rfl, ?_⟩
    replace af := Yw af hb
    have ad := Yl av
    replace ab := Yb ab hb
    replace ac := Yb ac hb
    replace HB := Yh hb
    (try clear hb av)
    refine hK.out _ _ (Yz4 ab.1) (fun hHeld => ?_)
    clear hK K
    refine YNa 5 ?_
    refine one_ (i := 5) (N := some 8) (YA 15 3583) rfl rfl (one_of HT_.1 (by kernel_rfl)) (by decide) (fun K hK => ?_)
    refine goes_ Tryz.func26 (by kernel_rfl) rfl #[.slice ap ai.length aq] (by rfl) rfl rfl Q20 ?_
    with_reducible refine (impl_copied.calls _ _ ai ay _ ?am ?an A3.1).mono ?_
    (case am => exact Yc (Z19 aP.1 HB.1))
    (case an => exact aQ.1)
    rintro e bG ⟨aJ, rfl, av, hb⟩
    refine ⟨_, rfl, ?_⟩
    replace af := Yw af hb
    have ah := Yl (YW av ad)
    replace ad := YE ad av hb
    replace ab := Yb ab hb
    replace ac := Yb ac hb
    replace HB := Yh hb
    (try clear hb av)
    refine hK.out _ _ (Yz4 ab.1) (fun hHeld => ?_)
    clear hK K
    refine YNa 8 ?_
    exact norm_ Q34 (hCont (aM, aJ, aK) _ ⟨hHeld, (Yj ad.1 (fun _ hk => hk.2)), (Yj ah.1 (fun _ hk => hk.2)), (Yr af.1), (Yk ab.1), (Yk ac.1), Q0⟩)
  rintro ⟨aM, aJ, aK⟩ aW ⟨hS_, h0_, h1_, h2_, h3_, h4_, h5_⟩
  have ad : Aside0 (Kd.R (Kd.int .i64) 3 aW w.heap.size (fun k_ => some k_ ≠ (aJ : Value).ownBlock) aM aE) := ⟨h0_⟩
  have ah : Aside0 (Kd.R (Kd.int .i64) 3 aW w.heap.size (fun k_ => some k_ ≠ (aM : Value).ownBlock) aJ ay) := ⟨h1_⟩
  have af : Aside0 (Kd.R Kd.bool 4 aW w.heap.size (fun _ => True) aK az) := ⟨h2_⟩
  replace ab : Aside0 (aW.heap[ag]? = some (.cells #[.slice ar ak.length au, .slice ap ai.length aq, .slice aC aj.length aD, .slice aw al.length ax] 27 (0, 0))) := ⟨h3_⟩
  replace ac : Aside0 (aW.heap[ae]? = some (.cells YN4 27 (0, 0))) := ⟨h4_⟩
  replace HB : Aside0 (Below w.heap.size w aW) := ⟨h5_⟩
  clear h0_ h1_ h2_ h3_ h4_ h5_
  have hHeld : aW.cell? ⟨ag, 0, none⟩ = some (.slice ar ak.length au) ∧ aW.cell? ⟨ag, 1, none⟩ = some (.slice ap ai.length aq) ∧ aW.cell? ⟨ag, 2, none⟩ = some (.slice aC aj.length aD) ∧ aW.cell? ⟨ag, 3, none⟩ = some (.slice aw al.length ax) := hS_
  refine YNb ?_
  refine one_ (i := 9) (N := some 12) (YA 15 4095) rfl rfl (one_of HT_.1 (by kernel_rfl)) (by decide) (fun K hK => ?_)
  refine Kd.R_append_rows_step Kd.bool (w0 := w) w.heap.size (by rfl) (.tmp 9) (.tmp 11) 25 4 (.bool false) 1 rfl Tryz.underlying25 info4 rfl (by decide) (by omega) aK az aj _ _ _ (fun _ => True) (fun _ => False) rfl rfl ?aO ?aR (fun _ _ h => h) (fun _ h => h.elim) ?aF ?aB ?aS ?aL ?_
  (case aR => repeat (first | exact (Z19 a8.1 HB.1) | (with_reducible refine Z16 ?_ _) | (with_reducible refine Z17 ?_ _) | (with_reducible refine Z18 ?_)))
  (case aB => exact Q0)
  (case aF => exact (fun _ _ => trivial))
  (case aO => exact (Yr af.1))
  (case aS => exact (Z7 Q0))
  (case aL => have := LMc4.1; omega)
  intro bH bO ho hb hg hat
  rw [← bc.1] at ho
  replace ab := Ya (blk_grown (g := ag) (o := .cells #[.slice ar ak.length au, .slice ap ai.length aq, .slice aC aj.length aD, .slice aw al.length ax] 27 (0, 0)) (Yk ab.1) hg (Kd.R_ne af.1 ab.1 (by decide)))
  replace ac := Ya (blk_grown (g := ae) (o := .cells YN4 27 (0, 0)) (Yk ac.1) hg (Kd.R_ne af.1 ac.1 (by decide)))
  replace ad := Ya (Kd.R_over' (Yr ad.1) (Kd.R_typed (Yr af.1)) (by decide) hg)
  replace ah := Ya (Kd.R_over' (Yr ah.1) (Kd.R_typed (Yr af.1)) (by decide) hg)
  replace HB := Ya hb
  have aN := Ya ho
  clear af
  clear ho hb hg hat
  refine hK.out _ _ (Yz4 ab.1) (fun hHeld => ?_)
  clear hK K
  refine YNa 12 ?_
  refine one_ (i := 12) (N := some 15) (YA 15 8191) rfl rfl (one_of HT_.1 (by kernel_rfl)) (by decide) (fun K hK => ?_)
  refine goes_ Tryz.func26 (by kernel_rfl) rfl #[.slice aw al.length ax] (by rfl) rfl rfl Q20 ?_
  with_reducible refine (impl_copied.calls _ _ al aG _ ?am ?an A5.1).mono ?_
  (case am => exact Yc (Z19 a9.1 HB.1))
  (case an => exact ba.1)
  rintro e bh ⟨bI, rfl, av, hb⟩
  refine ⟨_, rfl, ?_⟩
  replace aN := Yw aN hb
  have a7 := Yl (YW (YW av ad) ah)
  replace ad := YE ad av hb
  replace ah := YE ah av hb
  replace ab := Yb ab hb
  replace ac := Yb ac hb
  replace HB := Yh hb
  (try clear hb av)
  obtain ⟨bq, br, bd⟩ := Z15 a7.1
  (first | subst bd | (injection bd with f1_ f2_ f3_; have f4_ := f1_.symm; have f5_ := f3_.symm; clear f1_ f2_ f3_; subst f4_; subst f5_))
  obtain ⟨bu, bv, be⟩ := Z15 aN.1
  (first | subst be | (injection be with f1_ f2_ f3_; have f4_ := f1_.symm; have f5_ := f3_.symm; clear f1_ f2_ f3_; subst f4_; subst f5_))
  obtain ⟨bw, bx, bf⟩ := Z15 ah.1
  (first | subst bf | (injection bf with f1_ f2_ f3_; have f4_ := f1_.symm; have f5_ := f3_.symm; clear f1_ f2_ f3_; subst f4_; subst f5_))
  obtain ⟨bz, bA, bg⟩ := Z15 ad.1
  (first | subst bg | (injection bg with f1_ f2_ f3_; have f4_ := f1_.symm; have f5_ := f3_.symm; clear f1_ f2_ f3_; subst f4_; subst f5_))
  refine hK.out _ _ (Yz4 ab.1) (fun hHeld => ?_)
  clear hK K
  refine YNa 15 ?_
  refine Yp 13 (some 16) (YA 15 16383) rfl HT_.1 ?_
  refine one_ (i := 14) (N := none) (YA 15 32767) rfl rfl (one_of HT_.1 (by kernel_rfl)) (by decide) (fun K hK => ?_)
  have bJ : bh.cell? ⟨ae, 0, none⟩ = some (.slice none 0 0) := (Z20 ac.1 0).trans rfl
  have hfs20 := Z21 ac.1 0
  have bi := aa.1
  have bj := ao.1
  have bK : bh.cell? ⟨ae, 1, none⟩ = some (.slice none 0 0) := (Z20 ac.1 1).trans rfl
  have hfs21 := Z21 ac.1 1
  have bk := aa.1
  have bl := ao.1
  have bL : bh.cell? ⟨ae, 2, none⟩ = some (.slice none 0 0) := (Z20 ac.1 2).trans rfl
  have hfs22 := Z21 ac.1 2
  have bm := aa.1
  have bn := ao.1
  have bN : bh.cell? ⟨ae, 3, none⟩ = some (.slice none 0 0) := (Z20 ac.1 3).trans rfl
  have hfs23 := Z21 ac.1 3
  have bo := aa.1
  have bp := ao.1
  refine YNc ?_
  refine hK.out _ _ ⟨((cell_far (p := ⟨ae, _, none⟩) aa.1 _).trans (((cell_far (p := ⟨ae, _, none⟩) aa.1 _).trans (((cell_far (p := ⟨ae, _, none⟩) aa.1 _).trans (((cell_far (p := ⟨ae, _, none⟩) aa.1 _).trans (hHeld.1)))))))), ((cell_far (p := ⟨ae, _, none⟩) aa.1 _).trans (((cell_far (p := ⟨ae, _, none⟩) aa.1 _).trans (((cell_far (p := ⟨ae, _, none⟩) aa.1 _).trans (((cell_far (p := ⟨ae, _, none⟩) aa.1 _).trans (hHeld.2.1)))))))), ((cell_far (p := ⟨ae, _, none⟩) aa.1 _).trans (((cell_far (p := ⟨ae, _, none⟩) aa.1 _).trans (((cell_far (p := ⟨ae, _, none⟩) aa.1 _).trans (((cell_far (p := ⟨ae, _, none⟩) aa.1 _).trans (hHeld.2.2.1)))))))), ((cell_far (p := ⟨ae, _, none⟩) aa.1 _).trans (((cell_far (p := ⟨ae, _, none⟩) aa.1 _).trans (((cell_far (p := ⟨ae, _, none⟩) aa.1 _).trans (((cell_far (p := ⟨ae, _, none⟩) aa.1 _).trans (hHeld.2.2.2))))))))⟩ (fun hHeld => ?_)
  clear hK K
  refine done_ (done_of HT_.1 (by kernel_rfl)) ?_
  try go_wp2
  refine bodyPost_ret (results_cell_row rfl _ _ ae 27 #[.slice bz aE.length bA, .slice bw ay.length bx, .slice bu bb.length bv, .slice bq aG.length br] (0, 0) _ rfl (Yk (Yv4 ac.1)) Tryz.underlying27 rfl (by kernel_rfl)) rfl ?_
  exact ⟨_, _, _, _, Q2, Yj (Yf4 ad.1 ac.1) (fun _ hk => ⟨hk.1.1, hk.1.2⟩), Yj (Yf4 ah.1 ac.1) (fun _ hk => ⟨hk.1.1, hk.1.2⟩), Yj (Yf4 aN.1 ac.1) (fun _ hk => trivial), Yj (Yf4 a7.1 ac.1) (fun _ hk => ⟨hk.1.1.2, hk.1.2⟩), Q12⟩
 ·rw [if_neg c4] at H
  exact absurd H (by simp)
end Go.Proofs.YtapbbmicfkbafaaGreat.MFnSwappers
