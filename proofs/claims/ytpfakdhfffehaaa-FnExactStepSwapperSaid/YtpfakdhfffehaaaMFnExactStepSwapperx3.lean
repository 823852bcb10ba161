import Derived.Test.YtpfakdhfffehaaaMFnExactStepSwapperx0
import Derived.Test.YtpfakdhfffehaaaMFnExactStepSwapperx2
namespace Go.Proofs.Ytpfakdhfffehaaa.MFnExactStepSwapper
open Go.RowKit Go.Proofs.YtpfakdhfffehaaaW.PrintWords Go.Proofs.YtpfakdhfffehaaaW.PrintLast Go.Proofs.YtpfakdhfffehaaaW.PrintMore
attribute [local go_sem] max2_int min2_int max_two min_two max_three min_three max_four min_four   
set_option linter.unusedVariables false
set_option linter.unusedSimpArgs false
def laws_toBoolS.l0 : Nat → List Bool → List Bool → Int → Option (List Bool)
 | 0, _, _, _ => none
 | k + 1, x0, x3, x4 => if x4 < (x0.length : Int) then (if 0 ≤ x4 then (if x4 < (x3.length : Int) then (laws_toBoolS.l0 k x0 (x3.set (x4 : Int).toNat (rdOf false x0 x4)) (wrap64 (x4 + 1))) else (none)) else (none)) else (some x3)
def laws_toBoolS.f (k : Nat) (l0 : List Bool) : Option (List Bool) := if 0 ≤ (l0.length : Int) then (if ((l0.length : Int) : Int).toNat ≤ 281474976710656 then (laws_toBoolS.l0 k l0 (List.replicate ((l0.length : Int) : Int).toNat false) 0) else (none)) else (none)
theorem laws_toBoolS.mono_l : ∀ k, (∀ y0 y1 y2, LeO (laws_toBoolS.l0 k y0 y1 y2) (laws_toBoolS.l0 (k + 1) y0 y1 y2))
 | 0 => fun _ _ _ r h => by simp [laws_toBoolS.l0] at h
 | k + 1 => by
  have ih0 := laws_toBoolS.mono_l k
  ·intro y0 y1 y2
   unfold laws_toBoolS.l0
   repeat' first
   | (with_reducible exact ih0 _ _ _)
   | (with_reducible exact LeO.refl _)
   | (with_reducible exact LeO.none _)
   | (with_reducible refine LeO.ite ?_ ?_)
   | (with_reducible refine LeO.bind ?_ (fun _ => ?_))
   | exact ih0 _ _ _
   | exact LeO.none _
   | refine LeO.ite ?_ ?_
   | refine LeO.bind ?_ (fun _ => ?_)
theorem laws_toBoolS.mono : ∀ a0 k, LeO (laws_toBoolS.f k a0) (laws_toBoolS.f (k + 1) a0) := by
 intro a0 k
 have ih0 := laws_toBoolS.mono_l k
 unfold laws_toBoolS.f
 repeat' first
   | (with_reducible exact ih0 _ _ _)
   | (with_reducible exact LeO.refl _)
   | (with_reducible exact LeO.none _)
   | (with_reducible refine LeO.ite ?_ ?_)
   | (with_reducible refine LeO.bind ?_ (fun _ => ?_))
   | exact ih0 _ _ _
   | exact LeO.none _
   | refine LeO.ite ?_ ?_
   | refine LeO.bind ?_ (fun _ => ?_)
set_option maxHeartbeats 8000000 in
set_option maxRecDepth 100000 in
theorem laws_toBoolS.calls (k : Nat) (A0 : Option Addr) (c0 : Nat) (l0 : List Bool) (r : List Bool) (w : World) (hr0 : Kd.C Kd.bool w A0 l0.length l0) (hc0 : l0.length ≤ c0) (h : laws_toBoolS.f k l0 = some r) :
  Calls Try.prog 33 #[.slice A0 l0.length c0] w fun e w' => ∃ v0_ : Value, e = .returned (v0_) ∧ Kd.R Kd.bool 4 w' w.heap.size (fun _ => True) v0_ r ∧ Below w.heap.size w w' := by
 have HR0 := Ya hr0
 have HC0 := Ya hc0
 clear hr0 hc0
 have HB := Ya (Below.refl w.heap.size w)
 have H : (if 0 ≤ (l0.length : Int) then (if ((l0.length : Int) : Int).toNat ≤ 281474976710656 then (laws_toBoolS.l0 k l0 (List.replicate ((l0.length : Int) : Int).toNat false) 0) else (none)) else (none)) = some r := h
 clear h
 by_cases c2 : 0 ≤ (l0.length : Int)
 ·rw [if_pos c2] at H
  have c2b0 := eq_true c2
  have c2b1 := Z38 c2
  have HLEc2 := Ya c2
  clear c2
  by_cases c3 : ((l0.length : Int) : Int).toNat ≤ 281474976710656
  ·rw [if_pos c3] at H
   have c3b0 := eq_true c3
   have c3b1 := Z38 c3
   clear c3
   obtain ⟨y162, hy162⟩ : ∃ y_ : List Bool, y_ = (List.replicate ((l0.length : Int) : Int).toNat false) := ⟨_, rfl⟩
   replace H : (laws_toBoolS.l0 k l0 y162 0) = some r := by first | (rw [hy162]; with_reducible exact H) | (have H2_ := (Option.bind_some _ _).symm.trans H; rw [hy162]; with_reducible exact H2_) | (have H2_ := (Option.bind_some _ _).symm.trans H; with_reducible exact H2_) | with_reducible exact H | (rw [hy162]; exact H) | exact H
   have Ny162 := Ya hy162
   clear hy162
   have H' := Ya H
   clear H
   go_enter Try.func33, Try.ntmps33
   go_wp2_with (first | ((with_reducible refine gate_dst (N := 7) rfl ?_); refine Kd.R_make Kd.bool _ 4 rfl (N := 7) rfl 23 _ _ rfl (l0.length : Int) rfl rfl Try.underlying23 (.bool false) 1 info4 rfl (by decide) (by omega) false (ok := fun _ => True) (okp := fun _ => True) rfl (fun _ hk => hk) trivial (Z30 Q1) (Nat.le_trans (Nat.mul_le_mul_right _ (Z30 Q1 : (l0.length : Int).toNat ≤ 281474976710656)) (by omega)) (Below.refl _ _) (Nat.le_refl _) ?_; intro v163 w4 ho5 hb hg_ hnew_; clear hg_ hnew_; (first | rw [← Ny162.out] at ho5 | (simp only [Int.reduceToNat] at ho5; rw [← Ny162.out] at ho5)); have HO164 := Yl ho5; replace HB := Yh hb; clear hb ho5))
   go_loopg [4] k (fun kq v4 w' => ∃ (x3_1 : List Bool) (x4_1 : Int), v4 = .int .i64 x4_1 ∧ Aside0 (laws_toBoolS.l0 kq l0 x3_1 x4_1 = some r) ∧ Aside0 (kq ≤ k) ∧ Aside0 (Kd.R Kd.bool 4 w' w.heap.size (fun _ => True) v163 x3_1) ∧ Aside0 (Below w.heap.size w w'))
   case atStart => exact ⟨(y162), (0), Q8, H', ⟨Nat.le_refl _⟩, ⟨by (with_reducible repeat (first | apply Z9 | apply Z10 | apply Z11)); exact HO164.out⟩, ⟨Q12⟩⟩
   case round =>
    clear H'
    try clear c2
    try clear c2b0
    try clear c2b1
    try clear p2
    try clear c3
    try clear c3b0
    try clear c3b1
    obtain ⟨x3_1, x4_1, rfl, HA, HK1, HO_3, HB⟩ := hrel
    cases gk with
    | zero => exact absurd HA.out (by simp [laws_toBoolS.l0])
    | succ k1 =>
     have H := HA.out
     clear HA
     simp only [laws_toBoolS.l0] at H
     by_cases c6 : x4_1 < (l0.length : Int)
     ·rw [if_pos c6] at H
      have c6b0 := Z38 c6
      clear c6
      by_cases c7 : 0 ≤ x4_1
      ·rw [if_pos c7] at H
       have c7b0 := Z38 c7
       clear c7
       by_cases c8 : x4_1 < (x3_1.length : Int)
       ·rw [if_pos c8] at H
        have c8b0 := Z38 c8
        clear c8
        obtain ⟨y166, hy166⟩ : ∃ y_ : List Bool, y_ = (x3_1.set (x4_1 : Int).toNat (rdOf false l0 x4_1)) := ⟨_, rfl⟩
        replace H : (laws_toBoolS.l0 k1 l0 y166 (wrap64 (x4_1 + 1))) = some r := by first | (rw [hy166]; with_reducible exact H) | (have H2_ := (Option.bind_some _ _).symm.trans H; rw [hy166]; with_reducible exact H2_) | (have H2_ := (Option.bind_some _ _).symm.trans H; with_reducible exact H2_) | with_reducible exact H | (rw [hy166]; exact H) | exact H
        have Ny166 := Ya hy166
        clear hy166
        have H' := Ya H
        clear H
        have p165 : 0 ≤ (x4_1 : Int) := Z30 Q1
        have q165 : x4_1 < (l0.length : Int) := Z30 Q1
        obtain ⟨ad165, e165, hx165_0⟩ := Kd.at_bool HR0.out x4_1 p165 q165
        cases e165
        try replace hx165_0 := (HB.out.cell (World.block_lt_of_cell? w _ hx165_0)).trans hx165_0
        replace p165 := eq_true p165
        replace q165 := eq_true q165
        have p9 : 0 ≤ (x4_1 : Int) := Z30 Q1
        have q9 : (x4_1 : Int) < ((x3_1.length : Int) : Int) := Z30 Q1
        obtain ⟨go9, co9, eo9, gb9, gl9, cl9, HG9⟩ := Kd.R_form HO_3.out (by omega)
        (first | cases eo9 | (injection eo9 with ea_ en_ ec_; (first | subst ea_ | (injection ea_ with ea_; subst ea_)); subst ec_; clear en_))
        have GB9 := Ya gb9
        have GG9 := Ya HG9
        clear gb9 gl9 HG9
        obtain ⟨hx9_0, hf9_0⟩ := Kd.R_celln false HO_3.out (x4_1 : Int) p9 q9
        replace p9 := eq_true p9
        replace q9 := eq_true q9
        have HP10 := Kd.R_putg HO_3.out (x4_1 : Int) (rdOf false l0 x4_1)
        go_wp2_with (first | ((with_reducible refine gate_store (t := 4) (p := 20) rfl ?_); refine store_event (t := 4) (p := 20) (v := ?vo_w11) (w1 := (wr.setCell ⟨go9, (x4_1 : Int).toNat, none⟩ (.bool (rdOf false l0 x4_1)))) ?hg ?ho ?hn ?hr ?_; (case ho => rfl); (case hg => rfl); (case hn => rfl); (case hr => first | (go_simp; done) | (go_simp; rfl)); intro w11 hw; have hg : wr.grownBy w11 (some go9) := (by rw [hw]; exact HP10.2); have hp_ : Kd.R Kd.bool 4 w11 w.heap.size (fun _ => True) (.slice (some ⟨go9, 0, none⟩) x3_1.length co9) y166 := (by rw [hw, Ny166.out]; exact HP10.1); clear HP10; replace HO_3 := Ya hp_; replace HB := Ya ((by rw [hw]; exact Z6 (HB.out) GB9.out : Below w.heap.size w w11)); clear hg hw hp_))
        go_roundg k1
        case measure => have := HK1.out; omega
        case rel => exact ⟨(y166), (wrap64 (x4_1 + 1)), Q8, H', ⟨Q20⟩, ⟨Q25⟩, ⟨Q12⟩⟩
       ·rw [if_neg c8] at H
        exact absurd H (by simp)
      ·rw [if_neg c7] at H
       exact absurd H (by simp)
     ·rw [if_neg c6] at H
      have c6b0 := Z37 c6
      clear c6
      obtain rfl := Option.some.inj H
      go_wp2
      go_ret
      exact ⟨_, Q2, Q25, Q12⟩
  ·rw [if_neg c3] at H
   exact absurd H (by simp)
 ·rw [if_neg c2] at H
  exact absurd H (by simp)
def laws_toFocus.f (k : Nat) (l0_0 : List Int) (l0_1 : List Int) (l0_2 : List Bool) (l0_3 : List Int) : Option (List Int × List Int × List Bool × List Int) := (laws_toIntS.f k l0_0).bind fun t170 => ((laws_toIntS.f k l0_1).bind fun t173 => ((laws_toBoolS.f k l0_2).bind fun t176 => ((laws_toIntS.f k l0_3).bind fun t179 => (some (t170, t173, t176, t179)))))
theorem laws_toFocus.mono : ∀ a0 a1 a2 a3 k, LeO (laws_toFocus.f k a0 a1 a2 a3) (laws_toFocus.f (k + 1) a0 a1 a2 a3) := by
 intro a0 a1 a2 a3 k
 unfold laws_toFocus.f
 repeat' first
   | (with_reducible exact laws_toBoolS.mono _ _)
   | (with_reducible exact laws_toIntS.mono _ _)
   | (with_reducible exact LeO.refl _)
   | (with_reducible exact LeO.none _)
   | (with_reducible refine LeO.ite ?_ ?_)
   | (with_reducible refine LeO.bind ?_ (fun _ => ?_))
   | exact laws_toBoolS.mono _ _
   | exact laws_toIntS.mono _ _
   | exact LeO.none _
   | refine LeO.ite ?_ ?_
   | refine LeO.bind ?_ (fun _ => ?_)
set_option maxHeartbeats 8000000 in
set_option maxRecDepth 100000 in
theorem laws_toFocus.calls (k : Nat) (A0_0 : Option Addr) (c0_0 : Nat) (l0_0 : List Int) (A0_1 : Option Addr) (c0_1 : Nat) (l0_1 : List Int) (A0_2 : Option Addr) (c0_2 : Nat) (l0_2 : List Bool) (A0_3 : Option Addr) (c0_3 : Nat) (l0_3 : List Int) (r1 : List Int) (r2 : List Int) (r3 : List Bool) (r4 : List Int) (w : World) (hr0_0 : Kd.C (Kd.int .i64) w A0_0 l0_0.length l0_0) (hc0_0 : l0_0.length ≤ c0_0) (hr0_1 : Kd.C (Kd.int .i64) w A0_1 l0_1.length l0_1) (hc0_1 : l0_1.length ≤ c0_1) (hr0_2 : Kd.C Kd.bool w A0_2 l0_2.length l0_2) (hc0_2 : l0_2.length ≤ c0_2) (hr0_3 : Kd.C (Kd.int .i64) w A0_3 l0_3.length l0_3) (hc0_3 : l0_3.length ≤ c0_3) (h : laws_toFocus.f k l0_0 l0_1 l0_2 l0_3 = some (r1, r2, r3, r4)) :
  Calls Try.prog 10 #[.agg #[.slice A0_0 l0_0.length c0_0, .slice A0_1 l0_1.length c0_1, .slice A0_2 l0_2.length c0_2, .slice A0_3 l0_3.length c0_3]] w fun e w' => ∃ v0_ v1_ v2_ v3_ : Value, e = .returned (.agg #[v0_, v1_, v2_, v3_]) ∧ Kd.R (Kd.int .i64) 3 w' w.heap.size (fun k_ => some k_ ≠ (v1_ : Value).ownBlock ∧ some k_ ≠ (v3_ : Value).ownBlock) v0_ r1 ∧ Kd.R (Kd.int .i64) 3 w' w.heap.size (fun k_ => some k_ ≠ (v0_ : Value).ownBlock ∧ some k_ ≠ (v3_ : Value).ownBlock) v1_ r2 ∧ Kd.R Kd.bool 4 w' w.heap.size (fun _ => True) v2_ r3 ∧ Kd.R (Kd.int .i64) 3 w' w.heap.size (fun k_ => some k_ ≠ (v0_ : Value).ownBlock ∧ some k_ ≠ (v1_ : Value).ownBlock) v3_ r4 ∧ Below w.heap.size w w' := by
 have hu25 := Try.underlying25
 have hu27 := Try.underlying27
 have HR0_0 := Ya hr0_0
 have HC0_0 := Ya hc0_0
 clear hr0_0 hc0_0
 have HR0_1 := Ya hr0_1
 have HC0_1 := Ya hc0_1
 clear hr0_1 hc0_1
 have HR0_2 := Ya hr0_2
 have HC0_2 := Ya hc0_2
 clear hr0_2 hc0_2
 have HR0_3 := Ya hr0_3
 have HC0_3 := Ya hc0_3
 clear hr0_3 hc0_3
 have HB := Ya (Below.refl w.heap.size w)
 have H : ((laws_toIntS.f k l0_0).bind fun t170 => ((laws_toIntS.f k l0_1).bind fun t173 => ((laws_toBoolS.f k l0_2).bind fun t176 => ((laws_toIntS.f k l0_3).bind fun t179 => (some (t170, t173, t176, t179)))))) = some (r1, r2, r3, r4) := h
 clear h
 replace H := Z36.mp H
 obtain ⟨t170, A20, H⟩ := H
 replace H : ((laws_toIntS.f k l0_1).bind fun t173 => ((laws_toBoolS.f k l0_2).bind fun t176 => ((laws_toIntS.f k l0_3).bind fun t179 => (some (t170, t173, t176, t179))))) = some (r1, r2, r3, r4) := H
 have A2 := Ya A20
 clear A20
 replace H := Z36.mp H
 obtain ⟨t173, A30, H⟩ := H
 replace H : ((laws_toBoolS.f k l0_2).bind fun t176 => ((laws_toIntS.f k l0_3).bind fun t179 => (some (t170, t173, t176, t179)))) = some (r1, r2, r3, r4) := H
 have A3 := Ya A30
 clear A30
 replace H := Z36.mp H
 obtain ⟨t176, A40, H⟩ := H
 replace H : ((laws_toIntS.f k l0_3).bind fun t179 => (some (t170, t173, t176, t179))) = some (r1, r2, r3, r4) := H
 have A4 := Ya A40
 clear A40
 replace H := Z36.mp H
 obtain ⟨t179, A50, H⟩ := H
 replace H : (some (t170, t173, t176, t179)) = some (r1, r2, r3, r4) := H
 have A5 := Ya A50
 clear A50
 simp only [Option.some.injEq, Prod.mk.injEq] at H
 obtain ⟨rfl, rfl, rfl, rfl⟩ := H
 go_enter Try.func10, Try.ntmps10
 go_wp2_with (first | ((with_reducible refine gate_dst (N := 1) rfl ?_); refine Yx 1 #[.slice A0_0 l0_0.length c0_0, .slice A0_1 l0_1.length c0_1, .slice A0_2 l0_2.length c0_2, .slice A0_3 l0_3.length c0_3] 25 ?_; intro gb167 hg w6 hbox hb; have BK167 := Ya hbox; have GE167 := Yg hg; replace HB := Yh hb; clear hb hbox hg) | ((with_reducible refine gate_dst (N := 2) rfl ?_); refine Yx 2 YN4 27 ?_; intro gb168 hg w7 hbox hb; have BK168 := Ya hbox; have GE168 := Yg hg; replace HB := Yh hb; have NB167_168 := Yn BK167 hg; have NB168_167 := Ym BK167 hg; replace BK167 := Yb BK167 hb; clear hb hbox hg) | ((with_reducible refine gate_dst (N := 3) rfl ?_); refine Yx 3 YN4 27 ?_; intro gb169 hg w8 hbox hb; have BK169 := Ya hbox; have GE169 := Yg hg; replace HB := Yh hb; have NB167_169 := Yn BK167 hg; have NB169_167 := Ym BK167 hg; replace BK167 := Yb BK167 hb; have NB168_169 := Yn BK168 hg; have NB169_168 := Ym BK168 hg; replace BK168 := Yb BK168 hb; clear hb hbox hg; have hnb9 := NB167_168.out; have hnc9 := NB168_167.out; have hnb10 := NB167_169.out; have hnc10 := NB169_167.out; have hz11 := Y4 BK167.out) | ((with_reducible refine gate_callee (f := 32) rfl ?_); refine Yz 6 Try.func32 #[.slice A0_0 l0_0.length c0_0] ?_; (with_reducible refine (laws_toIntS.calls k _ _ l0_0 t170 _ (Yc (Z22 HR0_0.out HB.out)) HC0_0.out A2.out).mono ?_); rintro e w12 ⟨v171, rfl, ho0, hb⟩; refine ⟨_, rfl, ?_⟩; have HO172 := Yl ho0; replace BK167 := Yb BK167 hb; replace BK168 := Yb BK168 hb; replace BK169 := Yb BK169 hb; replace HB := Yh hb; (try clear hb ho0); obtain ⟨Ao13, co13, rfl⟩ := Z19 HO172.out; have hnb14 := NB169_168.out; have hnc14 := NB168_169.out; have hz15 := Y4 BK169.out; have hz16 := Y4 BK167.out) | ((with_reducible refine gate_callee (f := 32) rfl ?_); refine Yz 10 Try.func32 #[.slice A0_1 l0_1.length c0_1] ?_; (with_reducible refine (laws_toIntS.calls k _ _ l0_1 t173 _ ?side1 HC0_1.out A3.out).mono ?_); (case side1 => exact Z22 HR0_1.out Q0); rintro e w17 ⟨v174, rfl, ho0, hb⟩; refine ⟨_, rfl, ?_⟩; have HO175 := Yl (Kd.R_new' ho0 (Z18 (Yj (Z13 (p := ⟨gb169, 0, none⟩) (Z15 HO172.out BK169.out (by decide)) (fun _ hk => hk.2) (.slice Ao13 t170.length co13)) (fun _ h_ => h_.1)))); replace HO172 := Ya (Kd.R_elder' (Yj (Z13 (p := ⟨gb169, 0, none⟩) (Z15 HO172.out BK169.out (by decide)) (fun _ hk => hk.2) (.slice Ao13 t170.length co13)) (fun _ h_ => h_.1)) (Kd.R_base ho0) hb); replace BK167 := Ya (Z28 (g := gb167) (o := .cells #[.slice A0_0 l0_0.length c0_0, .slice A0_1 l0_1.length c0_1, .slice A0_2 l0_2.length c0_2, .slice A0_3 l0_3.length c0_3] 25 (0, 0)) (Yk (blk_far BK167.out NB167_169.out _)) hb); replace BK168 := Ya (Z28 (g := gb168) (o := .cells YN4 27 (0, 0)) (Yk (blk_far BK168.out NB168_169.out _)) hb); replace BK169 := Ya (Z28 (g := gb169) (o := .cells #[.slice Ao13 t170.length co13, .slice none 0 0, .slice none 0 0, .slice none 0 0] 27 (0, 0)) (by (with_reducible repeat (first | refine Z25 ?_ _ | refine Z26 ?_ | refine Z27 ?_ _)); refine Z29 (cs := YN4) ?_ 0 _ rfl; (with_reducible repeat (first | refine Z25 ?_ _ | refine Z26 ?_ | refine Z27 ?_ _)); exact BK169.out) hb); replace HB := Yh hb; (try clear hb ho0); obtain ⟨Ao18, co18, rfl⟩ := Z19 HO175.out; have hz19 := Y4 BK169.out; have hz20 := Y4 BK167.out) | ((with_reducible refine gate_callee (f := 33) rfl ?_); refine Yz 14 Try.func33 #[.slice A0_2 l0_2.length c0_2] ?_; (with_reducible refine (laws_toBoolS.calls k _ _ l0_2 t176 _ ?side1 HC0_2.out A4.out).mono ?_); (case side1 => exact Z22 HR0_2.out Q0); rintro e w21 ⟨v177, rfl, ho0, hb⟩; refine ⟨_, rfl, ?_⟩; replace HO172 := Ya (Z14 (Yj (Z13 (p := ⟨gb169, 1, none⟩) (Z15 HO172.out BK169.out (by decide)) (fun _ hk => hk.2) (.slice Ao18 t173.length co18)) (fun _ h_ => h_.1)) hb); replace HO175 := Ya (Z14 (Yj (Z13 (p := ⟨gb169, 1, none⟩) (Z15 HO175.out BK169.out (by decide)) (fun _ hk => hk.2) (.slice Ao18 t173.length co18)) (fun _ h_ => h_.1)) hb); have HO178 := Yl ho0; replace BK167 := Ya (Z28 (g := gb167) (o := .cells #[.slice A0_0 l0_0.length c0_0, .slice A0_1 l0_1.length c0_1, .slice A0_2 l0_2.length c0_2, .slice A0_3 l0_3.length c0_3] 25 (0, 0)) (Yk (blk_far BK167.out NB167_169.out _)) hb); replace BK168 := Ya (Z28 (g := gb168) (o := .cells YN4 27 (0, 0)) (Yk (blk_far BK168.out NB168_169.out _)) hb); replace BK169 := Ya (Z28 (g := gb169) (o := .cells #[.slice Ao13 t170.length co13, .slice Ao18 t173.length co18, .slice none 0 0, .slice none 0 0] 27 (0, 0)) (by (with_reducible repeat (first | refine Z25 ?_ _ | refine Z26 ?_ | refine Z27 ?_ _)); refine Z29 (cs := #[.slice Ao13 t170.length co13, .slice none 0 0, .slice none 0 0, .slice none 0 0]) ?_ 1 _ rfl; (with_reducible repeat (first | refine Z25 ?_ _ | refine Z26 ?_ | refine Z27 ?_ _)); exact BK169.out) hb); replace HB := Yh hb; (try clear hb ho0); obtain ⟨Ao22, co22, rfl⟩ := Z19 HO178.out; have hz23 := Y4 BK169.out; have hz24 := Y4 BK167.out) | ((with_reducible refine gate_callee (f := 32) rfl ?_); refine Yz 18 Try.func32 #[.slice A0_3 l0_3.length c0_3] ?_; (with_reducible refine (laws_toIntS.calls k _ _ l0_3 t179 _ ?side1 HC0_3.out A5.out).mono ?_); (case side1 => exact Z22 HR0_3.out Q0); rintro e w25 ⟨v180, rfl, ho0, hb⟩; refine ⟨_, rfl, ?_⟩; replace HO178 := Ya (Z14 (Yj (Z13 (p := ⟨gb169, 2, none⟩) (Z15 HO178.out BK169.out (by decide)) (fun _ hk => hk.2) (.slice Ao22 t176.length co22)) (fun _ h_ => h_.1)) hb); have HO181 := Yl (Kd.R_new' (Kd.R_new' ho0 (Z18 (Yj (Z13 (p := ⟨gb169, 2, none⟩) (Z15 HO172.out BK169.out (by decide)) (fun _ hk => hk.2) (.slice Ao22 t176.length co22)) (fun _ h_ => h_.1)))) (Z18 (Yj (Z13 (p := ⟨gb169, 2, none⟩) (Z15 HO175.out BK169.out (by decide)) (fun _ hk => hk.2) (.slice Ao22 t176.length co22)) (fun _ h_ => h_.1)))); replace HO172 := Ya (Kd.R_elder' (Yj (Z13 (p := ⟨gb169, 2, none⟩) (Z15 HO172.out BK169.out (by decide)) (fun _ hk => hk.2) (.slice Ao22 t176.length co22)) (fun _ h_ => h_.1)) (Kd.R_base ho0) hb); replace HO175 := Ya (Kd.R_elder' (Yj (Z13 (p := ⟨gb169, 2, none⟩) (Z15 HO175.out BK169.out (by decide)) (fun _ hk => hk.2) (.slice Ao22 t176.length co22)) (fun _ h_ => h_.1)) (Kd.R_base ho0) hb); replace BK167 := Ya (Z28 (g := gb167) (o := .cells #[.slice A0_0 l0_0.length c0_0, .slice A0_1 l0_1.length c0_1, .slice A0_2 l0_2.length c0_2, .slice A0_3 l0_3.length c0_3] 25 (0, 0)) (Yk (blk_far BK167.out NB167_169.out _)) hb); replace BK168 := Ya (Z28 (g := gb168) (o := .cells YN4 27 (0, 0)) (Yk (blk_far BK168.out NB168_169.out _)) hb); replace BK169 := Ya (Z28 (g := gb169) (o := .cells #[.slice Ao13 t170.length co13, .slice Ao18 t173.length co18, .slice Ao22 t176.length co22, .slice none 0 0] 27 (0, 0)) (by (with_reducible repeat (first | refine Z25 ?_ _ | refine Z26 ?_ | refine Z27 ?_ _)); refine Z29 (cs := #[.slice Ao13 t170.length co13, .slice Ao18 t173.length co18, .slice none 0 0, .slice none 0 0]) ?_ 2 _ rfl; (with_reducible repeat (first | refine Z25 ?_ _ | refine Z26 ?_ | refine Z27 ?_ _)); exact BK169.out) hb); replace HB := Yh hb; (try clear hb ho0); obtain ⟨Ao26, co26, rfl⟩ := Z19 HO181.out; have hz27 := Y4 BK169.out; have hz28 := Y4 BK168.out))
 refine bodyPost_ret (results_cell_row rfl _ _ gb168 27 #[.slice Ao13 t170.length co13, .slice Ao18 t173.length co18, .slice Ao22 t176.length co22, .slice Ao26 t179.length co26] (0, 0) _ rfl (Yk (Yv4 (blk_far BK168.out NB168_169.out _))) Try.underlying27 rfl (by kernel_rfl)) rfl ?_
 exact ⟨_, _, _, _, Q2, Yj (Z13 (p := ⟨gb168, 3, none⟩) (Z13 (p := ⟨gb168, 2, none⟩) (Z13 (p := ⟨gb168, 1, none⟩) (Z13 (p := ⟨gb168, 0, none⟩) (Z13 (p := ⟨gb169, 3, none⟩) (Z15 (Z15 HO172.out BK169.out (by decide)) BK168.out (by decide)) (fun _ hk => hk.1.2) (.slice Ao26 t179.length co26)) (fun _ hk => hk.2) (.slice Ao13 t170.length co13)) (fun _ hk => hk.2) (.slice Ao18 t173.length co18)) (fun _ hk => hk.2) (.slice Ao22 t176.length co22)) (fun _ hk => hk.2) (.slice Ao26 t179.length co26)) (fun _ hk => ⟨hk.1.1.1.2, hk.1.1.2⟩), Yj (Z13 (p := ⟨gb168, 3, none⟩) (Z13 (p := ⟨gb168, 2, none⟩) (Z13 (p := ⟨gb168, 1, none⟩) (Z13 (p := ⟨gb168, 0, none⟩) (Z13 (p := ⟨gb169, 3, none⟩) (Z15 (Z15 HO175.out BK169.out (by decide)) BK168.out (by decide)) (fun _ hk => hk.1.2) (.slice Ao26 t179.length co26)) (fun _ hk => hk.2) (.slice Ao13 t170.length co13)) (fun _ hk => hk.2) (.slice Ao18 t173.length co18)) (fun _ hk => hk.2) (.slice Ao22 t176.length co22)) (fun _ hk => hk.2) (.slice Ao26 t179.length co26)) (fun _ hk => ⟨hk.1.1.1.2, hk.1.1.2⟩), Yj (Z13 (p := ⟨gb168, 3, none⟩) (Z13 (p := ⟨gb168, 2, none⟩) (Z13 (p := ⟨gb168, 1, none⟩) (Z13 (p := ⟨gb168, 0, none⟩) (Z13 (p := ⟨gb169, 3, none⟩) (Z15 (Z15 HO178.out BK169.out (by decide)) BK168.out (by decide)) (fun _ hk => hk.1.2) (.slice Ao26 t179.length co26)) (fun _ hk => hk.2) (.slice Ao13 t170.length co13)) (fun _ hk => hk.2) (.slice Ao18 t173.length co18)) (fun _ hk => hk.2) (.slice Ao22 t176.length co22)) (fun _ hk => hk.2) (.slice Ao26 t179.length co26)) (fun _ hk => trivial), Yj (Z13 (p := ⟨gb168, 3, none⟩) (Z13 (p := ⟨gb168, 2, none⟩) (Z13 (p := ⟨gb168, 1, none⟩) (Z13 (p := ⟨gb168, 0, none⟩) (Z13 (p := ⟨gb169, 3, none⟩) (Z15 (Z15 HO181.out BK169.out (by decide)) BK168.out (by decide)) (fun _ hk => hk.1.2) (.slice Ao26 t179.length co26)) (fun _ hk => hk.2) (.slice Ao13 t170.length co13)) (fun _ hk => hk.2) (.slice Ao18 t173.length co18)) (fun _ hk => hk.2) (.slice Ao22 t176.length co22)) (fun _ hk => hk.2) (.slice Ao26 t179.length co26)) (fun _ hk => ⟨hk.1.1.1.2, hk.1.1.2⟩), Q12⟩
def laws_toSwapper.f (k : Nat) (l0_0 : List Int) (l0_1 : List Int) (l0_2 : List Bool) (l0_3 : List Int) (l0_4 : List Int) (l0_5 : List Int) : Option (List Int × List Int × List Bool × List Int × List Int × List Int) := (laws_toFocus.f k l0_0 l0_1 l0_2 l0_3).bind fun bt185 => ((laws_toIntS.f k l0_4).bind fun t197 => ((laws_toIntS.f k l0_5).bind fun t200 => (some (bt185.1, bt185.2.1, bt185.2.2.1, bt185.2.2.2, t197, t200))))
theorem laws_toSwapper.mono : ∀ a0 a1 a2 a3 a4 a5 k, LeO (laws_toSwapper.f k a0 a1 a2 a3 a4 a5) (laws_toSwapper.f (k + 1) a0 a1 a2 a3 a4 a5) := by
 intro a0 a1 a2 a3 a4 a5 k
 unfold laws_toSwapper.f
 repeat' first
   | (with_reducible exact laws_toFocus.mono _ _ _ _ _)
   | (with_reducible exact laws_toIntS.mono _ _)
   | (with_reducible exact LeO.refl _)
   | (with_reducible exact LeO.none _)
   | (with_reducible refine LeO.ite ?_ ?_)
   | (with_reducible refine LeO.bind ?_ (fun _ => ?_))
   | exact laws_toFocus.mono _ _ _ _ _
   | exact laws_toIntS.mono _ _
   | exact LeO.none _
   | refine LeO.ite ?_ ?_
   | refine LeO.bind ?_ (fun _ => ?_)
set_option maxHeartbeats 8000000 in
set_option maxRecDepth 100000 in
theorem laws_toSwapper.calls (k : Nat) (A0_0 : Option Addr) (c0_0 : Nat) (l0_0 : List Int) (A0_1 : Option Addr) (c0_1 : Nat) (l0_1 : List Int) (A0_2 : Option Addr) (c0_2 : Nat) (l0_2 : List Bool) (A0_3 : Option Addr) (c0_3 : Nat) (l0_3 : List Int) (A0_4 : Option Addr) (c0_4 : Nat) (l0_4 : List Int) (A0_5 : Option Addr) (c0_5 : Nat) (l0_5 : List Int) (r1 : List Int) (r2 : List Int) (r3 : List Bool) (r4 : List Int) (r5 : List Int) (r6 : List Int) (w : World) (hr0_0 : Kd.C (Kd.int .i64) w A0_0 l0_0.length l0_0) (hc0_0 : l0_0.length ≤ c0_0) (hr0_1 : Kd.C (Kd.int .i64) w A0_1 l0_1.length l0_1) (hc0_1 : l0_1.length ≤ c0_1) (hr0_2 : Kd.C Kd.bool w A0_2 l0_2.length l0_2) (hc0_2 : l0_2.length ≤ c0_2) (hr0_3 : Kd.C (Kd.int .i64) w A0_3 l0_3.length l0_3) (hc0_3 : l0_3.length ≤ c0_3) (hr0_4 : Kd.C (Kd.int .i64) w A0_4 l0_4.length l0_4) (hc0_4 : l0_4.length ≤ c0_4) (hr0_5 : Kd.C (Kd.int .i64) w A0_5 l0_5.length l0_5) (hc0_5 : l0_5.length ≤ c0_5) (h : laws_toSwapper.f k l0_0 l0_1 l0_2 l0_3 l0_4 l0_5 = some (r1, r2, r3, r4, r5, r6)) :
  Calls Try.prog 22 #[.agg #[.slice A0_0 l0_0.length c0_0, .slice A0_1 l0_1.length c0_1, .slice A0_2 l0_2.length c0_2, .slice A0_3 l0_3.length c0_3, .slice A0_4 l0_4.length c0_4, .slice A0_5 l0_5.length c0_5]] w fun e w' => ∃ v0_ v1_ v2_ v3_ v4_ v5_ : Value, e = .returned (.agg #[v0_, v1_, v2_, v3_, v4_, v5_]) ∧ Kd.R (Kd.int .i64) 3 w' w.heap.size (fun k_ => some k_ ≠ (v1_ : Value).ownBlock ∧ some k_ ≠ (v3_ : Value).ownBlock ∧ some k_ ≠ (v4_ : Value).ownBlock ∧ some k_ ≠ (v5_ : Value).ownBlock) v0_ r1 ∧ Kd.R (Kd.int .i64) 3 w' w.heap.size (fun k_ => some k_ ≠ (v0_ : Value).ownBlock ∧ some k_ ≠ (v3_ : Value).ownBlock ∧ some k_ ≠ (v4_ : Value).ownBlock ∧ some k_ ≠ (v5_ : Value).ownBlock) v1_ r2 ∧ Kd.R Kd.bool 4 w' w.heap.size (fun _ => True) v2_ r3 ∧ Kd.R (Kd.int .i64) 3 w' w.heap.size (fun k_ => some k_ ≠ (v0_ : Value).ownBlock ∧ some k_ ≠ (v1_ : Value).ownBlock ∧ some k_ ≠ (v4_ : Value).ownBlock ∧ some k_ ≠ (v5_ : Value).ownBlock) v3_ r4 ∧ Kd.R (Kd.int .i64) 3 w' w.heap.size (fun k_ => some k_ ≠ (v0_ : Value).ownBlock ∧ some k_ ≠ (v1_ : Value).ownBlock ∧ some k_ ≠ (v3_ : Value).ownBlock ∧ some k_ ≠ (v5_ : Value).ownBlock) v4_ r5 ∧ Kd.R (Kd.int .i64) 3 w' w.heap.size (fun k_ => some k_ ≠ (v0_ : Value).ownBlock ∧ some k_ ≠ (v1_ : Value).ownBlock ∧ some k_ ≠ (v3_ : Value).ownBlock ∧ some k_ ≠ (v4_ : Value).ownBlock) v5_ r6 ∧ Below w.heap.size w w' := by
 have hu42 := Try.underlying42
 have hu35 := Try.underlying35
 have hu25 := Try.underlying25
 have hu27 := Try.underlying27
 have HR0_0 := Ya hr0_0
 have HC0_0 := Ya hc0_0
 clear hr0_0 hc0_0
 have HR0_1 := Ya hr0_1
 have HC0_1 := Ya hc0_1
 clear hr0_1 hc0_1
 have HR0_2 := Ya hr0_2
 have HC0_2 := Ya hc0_2
 clear hr0_2 hc0_2
 have HR0_3 := Ya hr0_3
 have HC0_3 := Ya hc0_3
 clear hr0_3 hc0_3
 have HR0_4 := Ya hr0_4
 have HC0_4 := Ya hc0_4
 clear hr0_4 hc0_4
 have HR0_5 := Ya hr0_5
 have HC0_5 := Ya hc0_5
 clear hr0_5 hc0_5
 have HB := Ya (Below.refl w.heap.size w)
 have H : ((laws_toFocus.f k l0_0 l0_1 l0_2 l0_3).bind fun bt185 => ((laws_toIntS.f k l0_4).bind fun t197 => ((laws_toIntS.f k l0_5).bind fun t200 => (some (bt185.1, bt185.2.1, bt185.2.2.1, bt185.2.2.2, t197, t200))))) = some (r1, r2, r3, r4, r5, r6) := h
 clear h
 replace H := Z36.mp H
 obtain ⟨⟨t185, t188, t191, t194⟩, A20, H⟩ := H
 replace H : ((laws_toIntS.f k l0_4).bind fun t197 => ((laws_toIntS.f k l0_5).bind fun t200 => (some (t185, t188, t191, t194, t197, t200)))) = some (r1, r2, r3, r4, r5, r6) := H
 have A2 := Ya A20
 clear A20
 replace H := Z36.mp H
 obtain ⟨t197, A30, H⟩ := H
 replace H : ((laws_toIntS.f k l0_5).bind fun t200 => (some (t185, t188, t191, t194, t197, t200))) = some (r1, r2, r3, r4, r5, r6) := H
 have A3 := Ya A30
 clear A30
 replace H := Z36.mp H
 obtain ⟨t200, A40, H⟩ := H
 replace H : (some (t185, t188, t191, t194, t197, t200)) = some (r1, r2, r3, r4, r5, r6) := H
 have A4 := Ya A40
 clear A40
 simp only [Option.some.injEq, Prod.mk.injEq] at H
 obtain ⟨rfl, rfl, rfl, rfl, rfl, rfl⟩ := H
 go_enter Try.func22, Try.ntmps22
 go_wp2_with (first | ((with_reducible refine gate_dst (N := 1) rfl ?_); refine Yx 1 #[.slice A0_0 l0_0.length c0_0, .slice A0_1 l0_1.length c0_1, .slice A0_2 l0_2.length c0_2, .slice A0_3 l0_3.length c0_3, .slice A0_4 l0_4.length c0_4, .slice A0_5 l0_5.length c0_5] 42 ?_; intro gb182 hg w5 hbox hb; have BK182 := Ya hbox; have GE182 := Yg hg; replace HB := Yh hb; clear hb hbox hg) | ((with_reducible refine gate_dst (N := 2) rfl ?_); refine Yx 2 #[.slice none 0 0, .slice none 0 0, .slice none 0 0, .slice none 0 0, .slice none 0 0, .slice none 0 0] 35 ?_; intro gb183 hg w6 hbox hb; have BK183 := Ya hbox; have GE183 := Yg hg; replace HB := Yh hb; have NB182_183 := Yn BK182 hg; have NB183_182 := Ym BK182 hg; replace BK182 := Yb BK182 hb; clear hb hbox hg) | ((with_reducible refine gate_dst (N := 3) rfl ?_); refine Yx 3 #[.slice none 0 0, .slice none 0 0, .slice none 0 0, .slice none 0 0, .slice none 0 0, .slice none 0 0] 35 ?_; intro gb184 hg w7 hbox hb; have BK184 := Ya hbox; have GE184 := Yg hg; replace HB := Yh hb; have NB182_184 := Yn BK182 hg; have NB184_182 := Ym BK182 hg; replace BK182 := Yb BK182 hb; have NB183_184 := Yn BK183 hg; have NB184_183 := Ym BK183 hg; replace BK183 := Yb BK183 hb; clear hb hbox hg; have hnb8 := NB182_183.out; have hnc8 := NB183_182.out; have hnb9 := NB182_184.out; have hnc9 := NB184_182.out; have hz10 := Y6 BK182.out) | ((with_reducible refine gate_callee (f := 10) rfl ?_); refine Yz 6 Try.func10 #[.agg #[.slice A0_0 l0_0.length c0_0, .slice A0_1 l0_1.length c0_1, .slice A0_2 l0_2.length c0_2, .slice A0_3 l0_3.length c0_3]] ?_; (with_reducible refine (laws_toFocus.calls k _ _ l0_0 _ _ l0_1 _ _ l0_2 _ _ l0_3 t185 t188 t191 t194 _ (Yc (Z22 HR0_0.out HB.out)) HC0_0.out (Yc (Z22 HR0_1.out HB.out)) HC0_1.out (Yc (Z22 HR0_2.out HB.out)) HC0_2.out (Yc (Z22 HR0_3.out HB.out)) HC0_3.out A2.out).mono ?_); rintro e w11 ⟨v186, v189, v192, v195, rfl, ho0, ho1, ho2, ho3, hb⟩; refine ⟨_, rfl, ?_⟩; have HO187 := Yl ho0; have HO190 := Yl ho1; have HO193 := Yl ho2; have HO196 := Yl ho3; replace BK182 := Yb BK182 hb; replace BK183 := Yb BK183 hb; replace BK184 := Yb BK184 hb; replace HB := Yh hb; (try clear hb ho0 ho1 ho2 ho3); obtain ⟨Ao12, co12, rfl⟩ := Z19 HO187.out; have hnb13 := NB184_183.out; have hnc13 := NB183_184.out; have hz14 := Y6 BK184.out; obtain ⟨Ao15, co15, rfl⟩ := Z19 HO190.out; obtain ⟨Ao16, co16, rfl⟩ := Z19 HO193.out; obtain ⟨Ao17, co17, rfl⟩ := Z19 HO196.out; have hz18 := Y6 BK182.out) | ((with_reducible refine gate_callee (f := 32) rfl ?_); refine Yz 10 Try.func32 #[.slice A0_4 l0_4.length c0_4] ?_; (with_reducible refine (laws_toIntS.calls k _ _ l0_4 t197 _ ?side1 HC0_4.out A3.out).mono ?_); (case side1 => exact Z22 HR0_4.out Q0); rintro e w19 ⟨v198, rfl, ho0, hb⟩; refine ⟨_, rfl, ?_⟩; replace HO193 := Ya (Z14 (Yj (Yf4 HO193.out BK184.out) (fun _ h_ => h_.1)) hb); have HO199 := Yl (Kd.R_new' (Kd.R_new' (Kd.R_new' ho0 (Z18 (Yj (Yf4 HO187.out BK184.out) (fun _ h_ => h_.1)))) (Z18 (Yj (Yf4 HO190.out BK184.out) (fun _ h_ => h_.1)))) (Z18 (Yj (Yf4 HO196.out BK184.out) (fun _ h_ => h_.1)))); replace HO187 := Ya (Kd.R_elder' (Yj (Yf4 HO187.out BK184.out) (fun _ h_ => h_.1)) (Kd.R_base ho0) hb); replace HO190 := Ya (Kd.R_elder' (Yj (Yf4 HO190.out BK184.out) (fun _ h_ => h_.1)) (Kd.R_base ho0) hb); replace HO196 := Ya (Kd.R_elder' (Yj (Yf4 HO196.out BK184.out) (fun _ h_ => h_.1)) (Kd.R_base ho0) hb); replace BK182 := Yb ⟨Yo4 BK182.out NB182_184.out⟩ hb; replace BK183 := Yb ⟨Yo4 BK183.out NB183_184.out⟩ hb; replace BK184 := Yb ⟨Yv4x6 BK184.out⟩ hb; replace HB := Yh hb; (try clear hb ho0); obtain ⟨Ao20, co20, rfl⟩ := Z19 HO199.out; have hz21 := Y6 BK184.out; have hz22 := Y6 BK182.out) | ((with_reducible refine gate_callee (f := 32) rfl ?_); refine Yz 14 Try.func32 #[.slice A0_5 l0_5.length c0_5] ?_; (with_reducible refine (laws_toIntS.calls k _ _ l0_5 t200 _ ?side1 HC0_5.out A4.out).mono ?_); (case side1 => exact Z22 HR0_5.out Q0); rintro e w23 ⟨v201, rfl, ho0, hb⟩; refine ⟨_, rfl, ?_⟩; replace HO193 := Ya (Z14 (Yj (Z13 (p := ⟨gb184, 4, none⟩) (Z15 HO193.out BK184.out (by decide)) (fun _ hk => hk.2) (.slice Ao20 t197.length co20)) (fun _ h_ => h_.1)) hb); have HO202 := Yl (Kd.R_new' (Kd.R_new' (Kd.R_new' (Kd.R_new' ho0 (Z18 (Yj (Z13 (p := ⟨gb184, 4, none⟩) (Z15 HO187.out BK184.out (by decide)) (fun _ hk => hk.2) (.slice Ao20 t197.length co20)) (fun _ h_ => h_.1)))) (Z18 (Yj (Z13 (p := ⟨gb184, 4, none⟩) (Z15 HO190.out BK184.out (by decide)) (fun _ hk => hk.2) (.slice Ao20 t197.length co20)) (fun _ h_ => h_.1)))) (Z18 (Yj (Z13 (p := ⟨gb184, 4, none⟩) (Z15 HO196.out BK184.out (by decide)) (fun _ hk => hk.2) (.slice Ao20 t197.length co20)) (fun _ h_ => h_.1)))) (Z18 (Yj (Z13 (p := ⟨gb184, 4, none⟩) (Z15 HO199.out BK184.out (by decide)) (fun _ hk => hk.2) (.slice Ao20 t197.length co20)) (fun _ h_ => h_.1)))); replace HO187 := Ya (Kd.R_elder' (Yj (Z13 (p := ⟨gb184, 4, none⟩) (Z15 HO187.out BK184.out (by decide)) (fun _ hk => hk.2) (.slice Ao20 t197.length co20)) (fun _ h_ => h_.1)) (Kd.R_base ho0) hb); replace HO190 := Ya (Kd.R_elder' (Yj (Z13 (p := ⟨gb184, 4, none⟩) (Z15 HO190.out BK184.out (by decide)) (fun _ hk => hk.2) (.slice Ao20 t197.length co20)) (fun _ h_ => h_.1)) (Kd.R_base ho0) hb); replace HO196 := Ya (Kd.R_elder' (Yj (Z13 (p := ⟨gb184, 4, none⟩) (Z15 HO196.out BK184.out (by decide)) (fun _ hk => hk.2) (.slice Ao20 t197.length co20)) (fun _ h_ => h_.1)) (Kd.R_base ho0) hb); replace HO199 := Ya (Kd.R_elder' (Yj (Z13 (p := ⟨gb184, 4, none⟩) (Z15 HO199.out BK184.out (by decide)) (fun _ hk => hk.2) (.slice Ao20 t197.length co20)) (fun _ h_ => h_.1)) (Kd.R_base ho0) hb); replace BK182 := Ya (Z28 (g := gb182) (o := .cells #[.slice A0_0 l0_0.length c0_0, .slice A0_1 l0_1.length c0_1, .slice A0_2 l0_2.length c0_2, .slice A0_3 l0_3.length c0_3, .slice A0_4 l0_4.length c0_4, .slice A0_5 l0_5.length c0_5] 42 (0, 0)) (Yk (blk_far BK182.out NB182_184.out _)) hb); replace BK183 := Ya (Z28 (g := gb183) (o := .cells #[.slice none 0 0, .slice none 0 0, .slice none 0 0, .slice none 0 0, .slice none 0 0, .slice none 0 0] 35 (0, 0)) (Yk (blk_far BK183.out NB183_184.out _)) hb); replace BK184 := Ya (Z28 (g := gb184) (o := .cells #[.slice Ao12 t185.length co12, .slice Ao15 t188.length co15, .slice Ao16 t191.length co16, .slice Ao17 t194.length co17, .slice Ao20 t197.length co20, .slice none 0 0] 35 (0, 0)) (by (with_reducible repeat (first | refine Z25 ?_ _ | refine Z26 ?_ | refine Z27 ?_ _)); refine Z29 (cs := #[.slice Ao12 t185.length co12, .slice Ao15 t188.length co15, .slice Ao16 t191.length co16, .slice Ao17 t194.length co17, .slice none 0 0, .slice none 0 0]) ?_ 4 _ rfl; (with_reducible repeat (first | refine Z25 ?_ _ | refine Z26 ?_ | refine Z27 ?_ _)); exact BK184.out) hb); replace HB := Yh hb; (try clear hb ho0); obtain ⟨Ao24, co24, rfl⟩ := Z19 HO202.out; have hz25 := Y6 BK184.out; have hz26 := Y6 BK183.out))
 refine bodyPost_ret (results_cell_row rfl _ _ gb183 35 #[.slice Ao12 t185.length co12, .slice Ao15 t188.length co15, .slice Ao16 t191.length co16, .slice Ao17 t194.length co17, .slice Ao20 t197.length co20, .slice Ao24 t200.length co24] (0, 0) _ rfl (Yk (Yv6 (blk_far BK183.out NB183_184.out _))) Try.underlying35 rfl (by kernel_rfl)) rfl ?_
 exact ⟨_, _, _, _, _, _, Q2, Yj (Z13 (p := ⟨gb183, 5, none⟩) (Z13 (p := ⟨gb183, 4, none⟩) (Z13 (p := ⟨gb183, 3, none⟩) (Z13 (p := ⟨gb183, 2, none⟩) (Z13 (p := ⟨gb183, 1, none⟩) (Z13 (p := ⟨gb183, 0, none⟩) (Z13 (p := ⟨gb184, 5, none⟩) (Z15 (Z15 HO187.out BK184.out (by decide)) BK183.out (by decide)) (fun _ hk => hk.1.2) (.slice Ao24 t200.length co24)) (fun _ hk => hk.2) (.slice Ao12 t185.length co12)) (fun _ hk => hk.2) (.slice Ao15 t188.length co15)) (fun _ hk => hk.2) (.slice Ao16 t191.length co16)) (fun _ hk => hk.2) (.slice Ao17 t194.length co17)) (fun _ hk => hk.2) (.slice Ao20 t197.length co20)) (fun _ hk => hk.2) (.slice Ao24 t200.length co24)) (fun _ hk => ⟨hk.1.1.1.1.1, ⟨hk.1.1.1.1.2, ⟨hk.1.1.1.2, hk.1.1.2⟩⟩⟩), Yj (Z13 (p := ⟨gb183, 5, none⟩) (Z13 (p := ⟨gb183, 4, none⟩) (Z13 (p := ⟨gb183, 3, none⟩) (Z13 (p := ⟨gb183, 2, none⟩) (Z13 (p := ⟨gb183, 1, none⟩) (Z13 (p := ⟨gb183, 0, none⟩) (Z13 (p := ⟨gb184, 5, none⟩) (Z15 (Z15 HO190.out BK184.out (by decide)) BK183.out (by decide)) (fun _ hk => hk.1.2) (.slice Ao24 t200.length co24)) (fun _ hk => hk.2) (.slice Ao12 t185.length co12)) (fun _ hk => hk.2) (.slice Ao15 t188.length co15)) (fun _ hk => hk.2) (.slice Ao16 t191.length co16)) (fun _ hk => hk.2) (.slice Ao17 t194.length co17)) (fun _ hk => hk.2) (.slice Ao20 t197.length co20)) (fun _ hk => hk.2) (.slice Ao24 t200.length co24)) (fun _ hk => ⟨hk.1.1.1.1.1, ⟨hk.1.1.1.1.2, ⟨hk.1.1.1.2, hk.1.1.2⟩⟩⟩), Yj (Z13 (p := ⟨gb183, 5, none⟩) (Z13 (p := ⟨gb183, 4, none⟩) (Z13 (p := ⟨gb183, 3, none⟩) (Z13 (p := ⟨gb183, 2, none⟩) (Z13 (p := ⟨gb183, 1, none⟩) (Z13 (p := ⟨gb183, 0, none⟩) (Z13 (p := ⟨gb184, 5, none⟩) (Z15 (Z15 HO193.out BK184.out (by decide)) BK183.out (by decide)) (fun _ hk => hk.1.2) (.slice Ao24 t200.length co24)) (fun _ hk => hk.2) (.slice Ao12 t185.length co12)) (fun _ hk => hk.2) (.slice Ao15 t188.length co15)) (fun _ hk => hk.2) (.slice Ao16 t191.length co16)) (fun _ hk => hk.2) (.slice Ao17 t194.length co17)) (fun _ hk => hk.2) (.slice Ao20 t197.length co20)) (fun _ hk => hk.2) (.slice Ao24 t200.length co24)) (fun _ hk => trivial), Yj (Z13 (p := ⟨gb183, 5, none⟩) (Z13 (p := ⟨gb183, 4, none⟩) (Z13 (p := ⟨gb183, 3, none⟩) (Z13 (p := ⟨gb183, 2, none⟩) (Z13 (p := ⟨gb183, 1, none⟩) (Z13 (p := ⟨gb183, 0, none⟩) (Z13 (p := ⟨gb184, 5, none⟩) (Z15 (Z15 HO196.out BK184.out (by decide)) BK183.out (by decide)) (fun _ hk => hk.1.2) (.slice Ao24 t200.length co24)) (fun _ hk => hk.2) (.slice Ao12 t185.length co12)) (fun _ hk => hk.2) (.slice Ao15 t188.length co15)) (fun _ hk => hk.2) (.slice Ao16 t191.length co16)) (fun _ hk => hk.2) (.slice Ao17 t194.length co17)) (fun _ hk => hk.2) (.slice Ao20 t197.length co20)) (fun _ hk => hk.2) (.slice Ao24 t200.length co24)) (fun _ hk => ⟨hk.1.1.1.1.1, ⟨hk.1.1.1.1.2, ⟨hk.1.1.1.2, hk.1.1.2⟩⟩⟩), Yj (Z13 (p := ⟨gb183, 5, none⟩) (Z13 (p := ⟨gb183, 4, none⟩) (Z13 (p := ⟨gb183, 3, none⟩) (Z13 (p := ⟨gb183, 2, none⟩) (Z13 (p := ⟨gb183, 1, none⟩) (Z13 (p := ⟨gb183, 0, none⟩) (Z13 (p := ⟨gb184, 5, none⟩) (Z15 (Z15 HO199.out BK184.out (by decide)) BK183.out (by decide)) (fun _ hk => hk.1.2) (.slice Ao24 t200.length co24)) (fun _ hk => hk.2) (.slice Ao12 t185.length co12)) (fun _ hk => hk.2) (.slice Ao15 t188.length co15)) (fun _ hk => hk.2) (.slice Ao16 t191.length co16)) (fun _ hk => hk.2) (.slice Ao17 t194.length co17)) (fun _ hk => hk.2) (.slice Ao20 t197.length co20)) (fun _ hk => hk.2) (.slice Ao24 t200.length co24)) (fun _ hk => ⟨hk.1.1.1.1.1.2, ⟨hk.1.1.1.1.2, ⟨hk.1.1.1.2, hk.1.1.2⟩⟩⟩), Yj (Z13 (p := ⟨gb183, 5, none⟩) (Z13 (p := ⟨gb183, 4, none⟩) (Z13 (p := ⟨gb183, 3, none⟩) (Z13 (p := ⟨gb183, 2, none⟩) (Z13 (p := ⟨gb183, 1, none⟩) (Z13 (p := ⟨gb183, 0, none⟩) (Z13 (p := ⟨gb184, 5, none⟩) (Z15 (Z15 HO202.out BK184.out (by decide)) BK183.out (by decide)) (fun _ hk => hk.1.2) (.slice Ao24 t200.length co24)) (fun _ hk => hk.2) (.slice Ao12 t185.length co12)) (fun _ hk => hk.2) (.slice Ao15 t188.length co15)) (fun _ hk => hk.2) (.slice Ao16 t191.length co16)) (fun _ hk => hk.2) (.slice Ao17 t194.length co17)) (fun _ hk => hk.2) (.slice Ao20 t197.length co20)) (fun _ hk => hk.2) (.slice Ao24 t200.length co24)) (fun _ hk => ⟨hk.1.1.1.1.1.2, ⟨hk.1.1.1.1.2, ⟨hk.1.1.1.2, hk.1.1.2⟩⟩⟩), Q12⟩
def spec_raProduct.l0 : Nat → Int → List Int → Int → Int → Option (Int)
 | 0, _, _, _, _ => none
 | k + 1, x3, x6, x7, x8 => if x8 < x7 then (if 0 ≤ x8 then (if x8 < (x6.length : Int) then (if (wrap64 (x3 * (rd x6 x8))) > 1000000 then (some (wrap64 (x3 * (rd x6 x8)))) else (spec_raProduct.l0 k (wrap64 (x3 * (rd x6 x8))) x6 x7 (wrap64 (x8 + 1)))) else (none)) else (none)) else (some x3)
def spec_raProduct.f (k : Nat) (l0 : List Int) : Option (Int) := spec_raProduct.l0 k 1 l0 (l0.length : Int) 0
theorem spec_raProduct.mono_l : ∀ k, (∀ y0 y1 y2 y3, LeO (spec_raProduct.l0 k y0 y1 y2 y3) (spec_raProduct.l0 (k + 1) y0 y1 y2 y3))
 | 0 => fun _ _ _ _ r h => by simp [spec_raProduct.l0] at h
 | k + 1 => by
  have ih0 := spec_raProduct.mono_l k
  ·intro y0 y1 y2 y3
   unfold spec_raProduct.l0
   repeat' first
   | (with_reducible exact ih0 _ _ _ _)
   | (with_reducible exact LeO.refl _)
   | (with_reducible exact LeO.none _)
   | (with_reducible refine LeO.ite ?_ ?_)
   | (with_reducible refine LeO.bind ?_ (fun _ => ?_))
   | exact ih0 _ _ _ _
   | exact LeO.none _
   | refine LeO.ite ?_ ?_
   | refine LeO.bind ?_ (fun _ => ?_)
theorem spec_raProduct.mono : ∀ a0 k, LeO (spec_raProduct.f k a0) (spec_raProduct.f (k + 1) a0) := by
 intro a0 k
 have ih0 := spec_raProduct.mono_l k
 unfold spec_raProduct.f
 repeat' first
   | (with_reducible exact ih0 _ _ _ _)
   | (with_reducible exact LeO.refl _)
   | (with_reducible exact LeO.none _)
   | (with_reducible refine LeO.ite ?_ ?_)
   | (with_reducible refine LeO.bind ?_ (fun _ => ?_))
   | exact ih0 _ _ _ _
   | exact LeO.none _
   | refine LeO.ite ?_ ?_
   | refine LeO.bind ?_ (fun _ => ?_)
set_option maxHeartbeats 8000000 in
set_option maxRecDepth 100000 in
theorem spec_raProduct.calls (k : Nat) (A0 : Option Addr) (c0 : Nat) (l0 : List Int) (r : Int) (w : World) (hr0 : Kd.C (Kd.int .i64) w A0 l0.length l0) (hc0 : l0.length ≤ c0) (h : spec_raProduct.f k l0 = some r) :
  Calls Try.prog 77 #[.slice A0 l0.length c0] w fun e w' => e = .returned (.int .i64 r) ∧ Drawn0 w w' := by
 have HR0 := Ya hr0
 have HC0 := Ya hc0
 clear hr0 hc0
 have H : (spec_raProduct.l0 k 1 l0 (l0.length : Int) 0) = some r := h
 clear h
 have H' := Ya H
 clear H
 go_enter Try.func77, Try.ntmps77
 go_wp2
 go_loopg [3, 8] k (fun kq v3 v8 w' => ∃ (x3_1 : Int) (x8_1 : Int), v3 = .int .i64 x3_1 ∧ v8 = .int .i64 x8_1 ∧ Aside0 (spec_raProduct.l0 kq x3_1 l0 (l0.length : Int) x8_1 = some r) ∧ Aside0 (kq ≤ k) ∧ Drawn0 w w')
 case atStart => exact ⟨(1), (0), Q8, Q8, H', ⟨Nat.le_refl _⟩, Q5⟩
 case round =>
  clear H'
  obtain ⟨x3_1, x8_1, rfl, rfl, HA, HK1, ⟨m1, rfl⟩⟩ := hrel
  cases gk with
  | zero => exact absurd HA.out (by simp [spec_raProduct.l0])
  | succ k1 =>
   have H := HA.out
   clear HA
   simp only [spec_raProduct.l0] at H
   by_cases c2 : x8_1 < (l0.length : Int)
   ·rw [if_pos c2] at H
    have c2b0 := Z38 c2
    clear c2
    by_cases c3 : 0 ≤ x8_1
    ·rw [if_pos c3] at H
     have c3b0 := Z38 c3
     clear c3
     by_cases c4 : x8_1 < (l0.length : Int)
     ·rw [if_pos c4] at H
      have c4b0 := Z38 c4
      clear c4
      by_cases c5 : (wrap64 (x3_1 * (rd l0 x8_1))) > 1000000
      ·rw [if_pos c5] at H
       have c5b0 : decide (1000000 < (wrap64 (x3_1 * (rd l0 x8_1)))) = true := Z38 c5
       clear c5
       obtain rfl := Option.some.inj H
       have p203 : 0 ≤ (x8_1 : Int) := Z30 Q1
       have q203 : x8_1 < (l0.length : Int) := Z30 Q1
       obtain ⟨ad203, e203, hx203_0⟩ := Kd.at_int HR0.out x8_1 p203 q203
       cases e203
       replace p203 := eq_true p203
       replace q203 := eq_true q203
       go_wp2
       go_ret
       exact ⟨Q13, Q5⟩
      ·rw [if_neg c5] at H
       have c5b0 : decide (1000000 < (wrap64 (x3_1 * (rd l0 x8_1)))) = false := Z37 c5
       clear c5
       have H' := Ya H
       clear H
       have p203 : 0 ≤ (x8_1 : Int) := Z30 Q1
       have q203 : x8_1 < (l0.length : Int) := Z30 Q1
       obtain ⟨ad203, e203, hx203_0⟩ := Kd.at_int HR0.out x8_1 p203 q203
       cases e203
       replace p203 := eq_true p203
       replace q203 := eq_true q203
       go_wp2
       go_roundg k1
       case measure => have := HK1.out; omega
       case rel => exact ⟨(wrap64 (x3_1 * (rd l0 x8_1))), (wrap64 (x8_1 + 1)), Q8, Q8, H', ⟨Q20⟩, Q5⟩
     ·rw [if_neg c4] at H
      exact absurd H (by simp)
    ·rw [if_neg c3] at H
     exact absurd H (by simp)
   ·rw [if_neg c2] at H
    have c2b0 := Z37 c2
    clear c2
    obtain rfl := Option.some.inj H
    go_wp2
    go_ret
    exact ⟨Q13, Q5⟩
def spec_l1In.f (a0 : Int) (a1 : Int) (a2 : Int) : Option (Bool) := if a0 ≥ a1 then (some (decide (a0 ≤ a2))) else (some false)
set_option maxHeartbeats 8000000 in
set_option maxRecDepth 100000 in
theorem spec_l1In.calls (a0 : Int) (a1 : Int) (a2 : Int) (r : Bool) (w : World) (h : spec_l1In.f a0 a1 a2 = some r) :
  Calls Try.prog 44 #[.int .i64 a0, .int .i64 a1, .int .i64 a2] w fun e w' => e = .returned (.bool r) ∧ Drawn0 w w' := by
 have H : (if a0 ≥ a1 then (some (decide (a0 ≤ a2))) else (some false)) = some r := h
 clear h
 by_cases c4 : a0 ≥ a1
 ·rw [if_pos c4] at H
  have c4b0 : decide (a1 ≤ a0) = true := Z38 c4
  clear c4
  obtain rfl := Option.some.inj H
  go_enter Try.func44, Try.ntmps44
  go_wp2
  go_ret
  exact ⟨Q13, Q5⟩
 ·rw [if_neg c4] at H
  have c4b0 : decide (a1 ≤ a0) = false := Z37 c4
  clear c4
  obtain rfl := Option.some.inj H
  go_enter Try.func44, Try.ntmps44
  go_wp2
  go_ret
  exact ⟨Q13, Q5⟩
def spec_l1All.l0 : Nat → Int → Int → List Int → Int → Int → Option (Bool)
 | 0, _, _, _, _, _ => none
 | k + 1, x1, x2, x9, x10, x11 => if x11 < x10 then (if 0 ≤ x11 then (if x11 < (x9.length : Int) then ((spec_l1In.f (rd x9 x11) x1 x2).bind fun t205 => (if t205 = true then (spec_l1All.l0 k x1 x2 x9 x10 (wrap64 (x11 + 1))) else (some false))) else (none)) else (none)) else (some true)
def spec_l1All.f (k : Nat) (l0 : List Int) (a1 : Int) (a2 : Int) : Option (Bool) := spec_l1All.l0 k a1 a2 l0 (l0.length : Int) 0
theorem spec_l1All.mono_l : ∀ k, (∀ y0 y1 y2 y3 y4, LeO (spec_l1All.l0 k y0 y1 y2 y3 y4) (spec_l1All.l0 (k + 1) y0 y1 y2 y3 y4))
 | 0 => fun _ _ _ _ _ r h => by simp [spec_l1All.l0] at h
 | k + 1 => by
  have ih0 := spec_l1All.mono_l k
  ·intro y0 y1 y2 y3 y4
   unfold spec_l1All.l0
   repeat' first
   | (with_reducible exact ih0 _ _ _ _ _)
   | (with_reducible exact LeO.refl _)
   | (with_reducible exact LeO.none _)
   | (with_reducible refine LeO.ite ?_ ?_)
   | (with_reducible refine LeO.bind ?_ (fun _ => ?_))
   | exact ih0 _ _ _ _ _
   | exact LeO.none _
   | refine LeO.ite ?_ ?_
   | refine LeO.bind ?_ (fun _ => ?_)
theorem spec_l1All.mono : ∀ a0 a1 a2 k, LeO (spec_l1All.f k a0 a1 a2) (spec_l1All.f (k + 1) a0 a1 a2) := by
 intro a0 a1 a2 k
 have ih0 := spec_l1All.mono_l k
 unfold spec_l1All.f
 repeat' first
   | (with_reducible exact ih0 _ _ _ _ _)
   | (with_reducible exact LeO.refl _)
   | (with_reducible exact LeO.none _)
   | (with_reducible refine LeO.ite ?_ ?_)
   | (with_reducible refine LeO.bind ?_ (fun _ => ?_))
   | exact ih0 _ _ _ _ _
   | exact LeO.none _
   | refine LeO.ite ?_ ?_
   | refine LeO.bind ?_ (fun _ => ?_)
set_option maxHeartbeats 8000000 in
set_option maxRecDepth 100000 in
theorem spec_l1All.calls (k : Nat) (A0 : Option Addr) (c0 : Nat) (l0 : List Int) (a1 : Int) (a2 : Int) (r : Bool) (w : World) (hr0 : Kd.C (Kd.int .i64) w A0 l0.length l0) (hc0 : l0.length ≤ c0) (h : spec_l1All.f k l0 a1 a2 = some r) :
  Calls Try.prog 84 #[.slice A0 l0.length c0, .int .i64 a1, .int .i64 a2] w fun e w' => e = .returned (.bool r) ∧ Drawn0 w w' := by
 have HR0 := Ya hr0
 have HC0 := Ya hc0
 clear hr0 hc0
 have H : (spec_l1All.l0 k a1 a2 l0 (l0.length : Int) 0) = some r := h
 clear h
 have H' := Ya H
 clear H
 go_enter Try.func84, Try.ntmps84
 go_wp2
 go_loopg [11] k (fun kq v11 w' => ∃ (x11_1 : Int), v11 = .int .i64 x11_1 ∧ Aside0 (spec_l1All.l0 kq a1 a2 l0 (l0.length : Int) x11_1 = some r) ∧ Aside0 (kq ≤ k) ∧ Drawn0 w w')
 case atStart => exact ⟨(0), Q8, H', ⟨Nat.le_refl _⟩, Q5⟩
 case round =>
  clear H'
  try clear p2
  obtain ⟨x11_1, rfl, HA, HK1, ⟨m1, rfl⟩⟩ := hrel
  cases gk with
  | zero => exact absurd HA.out (by simp [spec_l1All.l0])
  | succ k1 =>
   have H := HA.out
   clear HA
   simp only [spec_l1All.l0] at H
   by_cases c4 : x11_1 < (l0.length : Int)
   ·rw [if_pos c4] at H
    have c4b0 := Z38 c4
    clear c4
    by_cases c5 : 0 ≤ x11_1
    ·rw [if_pos c5] at H
     have c5b0 := Z38 c5
     clear c5
     by_cases c6 : x11_1 < (l0.length : Int)
     ·rw [if_pos c6] at H
      have c6b0 := Z38 c6
      clear c6
      replace H := Z36.mp H
      obtain ⟨t205, A70, H⟩ := H
      replace H : (if t205 = true then (spec_l1All.l0 k1 a1 a2 l0 (l0.length : Int) (wrap64 (x11_1 + 1))) else (some false)) = some r := H
      have A7 := Ya A70
      clear A70
      by_cases c8 : t205 = true
      ·subst c8
       have H1 : (spec_l1All.l0 k1 a1 a2 l0 (l0.length : Int) (wrap64 (x11_1 + 1))) = some r := by rw [if_pos rfl] at H; exact H
       clear H
       have H := H1
       clear H1
       have H' := Ya H
       clear H
       have p204 : 0 ≤ (x11_1 : Int) := Z30 Q1
       have q204 : x11_1 < (l0.length : Int) := Z30 Q1
       obtain ⟨ad204, e204, hx204_0⟩ := Kd.at_int HR0.out x11_1 p204 q204
       cases e204
       replace p204 := eq_true p204
       replace q204 := eq_true q204
       go_wp2_with (first | ((with_reducible refine gate_callee (f := 44) rfl ?_); refine Yz 18 Try.func44 #[.int .i64 (rd l0 x11_1), .int .i64 a1, .int .i64 a2] ?_; (with_reducible refine (spec_l1In.calls (rd l0 x11_1) a1 a2 true _ A7.out).mono ?_); rintro e w' ⟨rfl, ⟨nd, rfl⟩⟩; refine ⟨_, rfl, ?_⟩))
       go_roundg k1
       case measure => have := HK1.out; omega
       case rel => exact ⟨(wrap64 (x11_1 + 1)), Q8, H', ⟨Q20⟩, Q5⟩
      ·replace c8 := Bool.eq_false_iff.mpr c8
       subst c8
       have H1 : (some false) = some r := by rw [if_neg (show ¬ (false = true) by decide)] at H; exact H
       clear H
       have H := H1
       clear H1
       obtain rfl := Option.some.inj H
       have p204 : 0 ≤ (x11_1 : Int) := Z30 Q1
       have q204 : x11_1 < (l0.length : Int) := Z30 Q1
       obtain ⟨ad204, e204, hx204_0⟩ := Kd.at_int HR0.out x11_1 p204 q204
       cases e204
       replace p204 := eq_true p204
       replace q204 := eq_true q204
       go_wp2_with (first | ((with_reducible refine gate_callee (f := 44) rfl ?_); refine Yz 18 Try.func44 #[.int .i64 (rd l0 x11_1), .int .i64 a1, .int .i64 a2] ?_; (with_reducible refine (spec_l1In.calls (rd l0 x11_1) a1 a2 false _ A7.out).mono ?_); rintro e w' ⟨rfl, ⟨nd, rfl⟩⟩; refine ⟨_, rfl, ?_⟩))
       go_ret
       exact ⟨Q13, Q5⟩
     ·rw [if_neg c6] at H
      exact absurd H (by simp)
    ·rw [if_neg c5] at H
     exact absurd H (by simp)
   ·rw [if_neg c4] at H
    have c4b0 := Z37 c4
    clear c4
    obtain rfl := Option.some.inj H
    go_wp2
    go_ret
    exact ⟨Q13, Q5⟩
def spec_raBases.f (k : Nat) (l0 : List Int) : Option (Bool) := if (l0.length : Int) ≤ 12 then ((spec_l1All.f k l0 2 12).bind fun t206 => (if t206 = true then ((spec_raProduct.f k l0).bind fun t207 => (some (decide (t207 ≤ 1000000)))) else (some false))) else (some false)
theorem spec_raBases.mono : ∀ a0 k, LeO (spec_raBases.f k a0) (spec_raBases.f (k + 1) a0) := by
 intro a0 k
 unfold spec_raBases.f
 repeat' first
   | (with_reducible exact spec_l1All.mono _ _ _ _)
   | (with_reducible exact spec_raProduct.mono _ _)
   | (with_reducible exact LeO.refl _)
   | (with_reducible exact LeO.none _)
   | (with_reducible refine LeO.ite ?_ ?_)
   | (with_reducible refine LeO.bind ?_ (fun _ => ?_))
   | exact spec_l1All.mono _ _ _ _
   | exact spec_raProduct.mono _ _
   | exact LeO.none _
   | refine LeO.ite ?_ ?_
   | refine LeO.bind ?_ (fun _ => ?_)
set_option maxHeartbeats 8000000 in
set_option maxRecDepth 100000 in
theorem spec_raBases.calls (k : Nat) (A0 : Option Addr) (c0 : Nat) (l0 : List Int) (r : Bool) (w : World) (hr0 : Kd.C (Kd.int .i64) w A0 l0.length l0) (hc0 : l0.length ≤ c0) (h : spec_raBases.f k l0 = some r) :
  Calls Try.prog 76 #[.slice A0 l0.length c0] w fun e w' => e = .returned (.bool r) ∧ Drawn0 w w' := by
 have HR0 := Ya hr0
 have HC0 := Ya hc0
 clear hr0 hc0
 have H : (if (l0.length : Int) ≤ 12 then ((spec_l1All.f k l0 2 12).bind fun t206 => (if t206 = true then ((spec_raProduct.f k l0).bind fun t207 => (some (decide (t207 ≤ 1000000)))) else (some false))) else (some false)) = some r := h
 clear h
 by_cases c2 : (l0.length : Int) ≤ 12
 ·rw [if_pos c2] at H
  have c2b0 := Z38 c2
  have c2b1 : decide (l0.length ≤ 12) = true := Z38 (by omega)
  clear c2
  replace H := Z36.mp H
  obtain ⟨t206, A30, H⟩ := H
  replace H : (if t206 = true then ((spec_raProduct.f k l0).bind fun t207 => (some (decide (t207 ≤ 1000000)))) else (some false)) = some r := H
  have A3 := Ya A30
  clear A30
  by_cases c4 : t206 = true
  ·subst c4
   have H1 : ((spec_raProduct.f k l0).bind fun t207 => (some (decide (t207 ≤ 1000000)))) = some r := by rw [if_pos rfl] at H; exact H
   clear H
   have H := H1
   clear H1
   replace H := Z36.mp H
   obtain ⟨t207, A50, H⟩ := H
   replace H : (some (decide (t207 ≤ 1000000))) = some r := H
   have A5 := Ya A50
   clear A50
   obtain rfl := Option.some.inj H
   go_enter Try.func76, Try.ntmps76
   go_wp2_with (first | (go_at_call 84; (with_reducible refine (spec_l1All.calls k _ _ l0 2 12 true _ (Yc HR0.out) HC0.out A3.out).mono ?_); rintro e w' ⟨rfl, ⟨nd, rfl⟩⟩) | (go_at_call 77; (with_reducible refine (spec_raProduct.calls k _ _ l0 t207 _ (Yc HR0.out) HC0.out A5.out).mono ?_); rintro e w' ⟨rfl, ⟨nd, rfl⟩⟩))
   go_ret
   exact ⟨Q13, Q5⟩
  ·replace c4 := Bool.eq_false_iff.mpr c4
   subst c4
   have H1 : (some false) = some r := by rw [if_neg (show ¬ (false = true) by decide)] at H; exact H
   clear H
   have H := H1
   clear H1
   obtain rfl := Option.some.inj H
   go_enter Try.func76, Try.ntmps76
   go_wp2_with (first | (go_at_call 84; (with_reducible refine (spec_l1All.calls k _ _ l0 2 12 false _ (Yc HR0.out) HC0.out A3.out).mono ?_); rintro e w' ⟨rfl, ⟨nd, rfl⟩⟩))
   go_ret
   exact ⟨Q13, Q5⟩
 ·rw [if_neg c2] at H
  have c2b0 := Z37 c2
  have c2b1 : decide (l0.length ≤ 12) = false := Z37 (by omega)
  clear c2
  obtain rfl := Option.some.inj H
  go_enter Try.func76, Try.ntmps76
  go_wp2
  go_ret
  exact ⟨Q13, Q5⟩
def spec_foBases.f (k : Nat) (l0 : List Int) : Option (Bool) := (spec_raBases.f k l0).bind fun t208 => (if t208 = true then ((spec_raProduct.f k l0).bind fun t209 => (some (decide (t209 ≤ 5040)))) else (some false))
theorem spec_foBases.mono : ∀ a0 k, LeO (spec_foBases.f k a0) (spec_foBases.f (k + 1) a0) := by
 intro a0 k
 unfold spec_foBases.f
 repeat' first
   | (with_reducible exact spec_raBases.mono _ _)
   | (with_reducible exact spec_raProduct.mono _ _)
   | (with_reducible exact LeO.refl _)
   | (with_reducible exact LeO.none _)
   | (with_reducible refine LeO.ite ?_ ?_)
   | (with_reducible refine LeO.bind ?_ (fun _ => ?_))
   | exact spec_raBases.mono _ _
   | exact spec_raProduct.mono _ _
   | exact LeO.none _
   | refine LeO.ite ?_ ?_
   | refine LeO.bind ?_ (fun _ => ?_)
set_option maxHeartbeats 8000000 in
set_option maxRecDepth 100000 in
theorem spec_foBases.calls (k : Nat) (A0 : Option Addr) (c0 : Nat) (l0 : List Int) (r : Bool) (w : World) (hr0 : Kd.C (Kd.int .i64) w A0 l0.length l0) (hc0 : l0.length ≤ c0) (h : spec_foBases.f k l0 = some r) :
  Calls Try.prog 58 #[.slice A0 l0.length c0] w fun e w' => e = .returned (.bool r) ∧ Drawn0 w w' := by
 have HR0 := Ya hr0
 have HC0 := Ya hc0
 clear hr0 hc0
 have H : ((spec_raBases.f k l0).bind fun t208 => (if t208 = true then ((spec_raProduct.f k l0).bind fun t209 => (some (decide (t209 ≤ 5040)))) else (some false))) = some r := h
 clear h
 replace H := Z36.mp H
 obtain ⟨t208, A20, H⟩ := H
 replace H : (if t208 = true then ((spec_raProduct.f k l0).bind fun t209 => (some (decide (t209 ≤ 5040)))) else (some false)) = some r := H
 have A2 := Ya A20
 clear A20
 by_cases c3 : t208 = true
 ·subst c3
  have H1 : ((spec_raProduct.f k l0).bind fun t209 => (some (decide (t209 ≤ 5040)))) = some r := by rw [if_pos rfl] at H; exact H
  clear H
  have H := H1
  clear H1
  replace H := Z36.mp H
  obtain ⟨t209, A40, H⟩ := H
  replace H : (some (decide (t209 ≤ 5040))) = some r := H
  have A4 := Ya A40
  clear A40
  obtain rfl := Option.some.inj H
  go_enter Try.func58, Try.ntmps58
  go_wp2_with (first | ((with_reducible refine gate_callee (f := 76) rfl ?_); refine Yz 4 Try.func76 #[.slice A0 l0.length c0] ?_; (with_reducible refine (spec_raBases.calls k _ _ l0 true _ (Yc HR0.out) HC0.out A2.out).mono ?_); rintro e w' ⟨rfl, ⟨nd, rfl⟩⟩; refine ⟨_, rfl, ?_⟩) | (go_at_call 77; (with_reducible refine (spec_raProduct.calls k _ _ l0 t209 _ (Yc HR0.out) HC0.out A4.out).mono ?_); rintro e w' ⟨rfl, ⟨nd, rfl⟩⟩))
  go_ret
  exact ⟨Q13, Q5⟩
 ·replace c3 := Bool.eq_false_iff.mpr c3
  subst c3
  have H1 : (some false) = some r := by rw [if_neg (show ¬ (false = true) by decide)] at H; exact H
  clear H
  have H := H1
  clear H1
  obtain rfl := Option.some.inj H
  go_enter Try.func58, Try.ntmps58
  go_wp2_with (first | ((with_reducible refine gate_callee (f := 76) rfl ?_); refine Yz 4 Try.func76 #[.slice A0 l0.length c0] ?_; (with_reducible refine (spec_raBases.calls k _ _ l0 false _ (Yc HR0.out) HC0.out A2.out).mono ?_); rintro e w' ⟨rfl, ⟨nd, rfl⟩⟩; refine ⟨_, rfl, ?_⟩))
  go_ret
  exact ⟨Q13, Q5⟩
def spec_raAreDigits.l0 : Nat → List Int → List Int → Int → Int → Option (Bool)
 | 0, _, _, _, _ => none
 | k + 1, x0, x12, x13, x14 => if x14 < x13 then (if 0 ≤ x14 then (if x14 < (x12.length : Int) then (if x14 < (x0.length : Int) then ((spec_l1In.f (rd x12 x14) 0 (wrap64 ((rd x0 x14) - 1))).bind fun t212 => (if t212 = true then (spec_raAreDigits.l0 k x0 x12 x13 (wrap64 (x14 + 1))) else (some false))) else (none)) else (none)) else (none)) else (some true)
def spec_raAreDigits.f (k : Nat) (l0 : List Int) (l1 : List Int) : Option (Bool) := if (l1.length : Int) = (l0.length : Int) then (spec_raAreDigits.l0 k l0 l1 (l1.length : Int) 0) else (some false)
theorem spec_raAreDigits.mono_l : ∀ k, (∀ y0 y1 y2 y3, LeO (spec_raAreDigits.l0 k y0 y1 y2 y3) (spec_raAreDigits.l0 (k + 1) y0 y1 y2 y3))
 | 0 => fun _ _ _ _ r h => by simp [spec_raAreDigits.l0] at h
 | k + 1 => by
  have ih0 := spec_raAreDigits.mono_l k
  ·intro y0 y1 y2 y3
   unfold spec_raAreDigits.l0
   repeat' first
   | (with_reducible exact ih0 _ _ _ _)
   | (with_reducible exact LeO.refl _)
   | (with_reducible exact LeO.none _)
   | (with_reducible refine LeO.ite ?_ ?_)
   | (with_reducible refine LeO.bind ?_ (fun _ => ?_))
   | exact ih0 _ _ _ _
   | exact LeO.none _
   | refine LeO.ite ?_ ?_
   | refine LeO.bind ?_ (fun _ => ?_)
theorem spec_raAreDigits.mono : ∀ a0 a1 k, LeO (spec_raAreDigits.f k a0 a1) (spec_raAreDigits.f (k + 1) a0 a1) := by
 intro a0 a1 k
 have ih0 := spec_raAreDigits.mono_l k
 unfold spec_raAreDigits.f
 repeat' first
   | (with_reducible exact ih0 _ _ _ _)
   | (with_reducible exact LeO.refl _)
   | (with_reducible exact LeO.none _)
   | (with_reducible refine LeO.ite ?_ ?_)
   | (with_reducible refine LeO.bind ?_ (fun _ => ?_))
   | exact ih0 _ _ _ _
   | exact LeO.none _
   | refine LeO.ite ?_ ?_
   | refine LeO.bind ?_ (fun _ => ?_)
set_option maxHeartbeats 8000000 in
set_option maxRecDepth 100000 in
theorem spec_raAreDigits.calls (k : Nat) (A0 : Option Addr) (c0 : Nat) (l0 : List Int) (A1 : Option Addr) (c1 : Nat) (l1 : List Int) (r : Bool) (w : World) (hr0 : Kd.C (Kd.int .i64) w A0 l0.length l0) (hc0 : l0.length ≤ c0) (hr1 : Kd.C (Kd.int .i64) w A1 l1.length l1) (hc1 : l1.length ≤ c1) (h : spec_raAreDigits.f k l0 l1 = some r) :
  Calls Try.prog 59 #[.slice A0 l0.length c0, .slice A1 l1.length c1] w fun e w' => e = .returned (.bool r) ∧ Drawn0 w w' := by
 have HR0 := Ya hr0
 have HC0 := Ya hc0
 clear hr0 hc0
 have HR1 := Ya hr1
 have HC1 := Ya hc1
 clear hr1 hc1
 have H : (if (l1.length : Int) = (l0.length : Int) then (spec_raAreDigits.l0 k l0 l1 (l1.length : Int) 0) else (some false)) = some r := h
 clear h
 by_cases c3 : (l1.length : Int) = (l0.length : Int)
 ·rw [if_pos c3] at H
  have c3b0 : ((l1.length : Int) == (l0.length : Int)) = true := beq_iff_eq.mpr c3
  have c3b1 : ((l1.length : Int) != (l0.length : Int)) = false := bne_eq_false_iff_eq.mpr c3
  have c3b2 : (l1.length == l0.length) = true := by first | simpa using c3 | (simp at c3 ⊢; omega)
  clear c3
  have H' := Ya H
  clear H
  go_enter Try.func59, Try.ntmps59
  go_wp2
  go_loopg [14] k (fun kq v14 w' => ∃ (x14_1 : Int), v14 = .int .i64 x14_1 ∧ Aside0 (spec_raAreDigits.l0 kq l0 l1 (l1.length : Int) x14_1 = some r) ∧ Aside0 (kq ≤ k) ∧ Drawn0 w w')
  case atStart => exact ⟨(0), Q8, H', ⟨Nat.le_refl _⟩, Q5⟩
  case round =>
   clear H'
   try clear c1
   try clear p2
   try clear c3
   try clear c3b0
   try clear c3b1
   try clear c3b2
   obtain ⟨x14_1, rfl, HA, HK1, ⟨m1, rfl⟩⟩ := hrel
   cases gk with
   | zero => exact absurd HA.out (by simp [spec_raAreDigits.l0])
   | succ k1 =>
    have H := HA.out
    clear HA
    simp only [spec_raAreDigits.l0] at H
    by_cases c4 : x14_1 < (l1.length : Int)
    ·rw [if_pos c4] at H
     have c4b0 := Z38 c4
     clear c4
     by_cases c5 : 0 ≤ x14_1
     ·rw [if_pos c5] at H
      have c5b0 := Z38 c5
      clear c5
      by_cases c6 : x14_1 < (l1.length : Int)
      ·rw [if_pos c6] at H
       have c6b0 := Z38 c6
       clear c6
       by_cases c7 : x14_1 < (l0.length : Int)
       ·rw [if_pos c7] at H
        have c7b0 := Z38 c7
        clear c7
        replace H := Z36.mp H
        obtain ⟨t212, A80, H⟩ := H
        replace H : (if t212 = true then (spec_raAreDigits.l0 k1 l0 l1 (l1.length : Int) (wrap64 (x14_1 + 1))) else (some false)) = some r := H
        have A8 := Ya A80
        clear A80
        by_cases c9 : t212 = true
        ·subst c9
         have H1 : (spec_raAreDigits.l0 k1 l0 l1 (l1.length : Int) (wrap64 (x14_1 + 1))) = some r := by rw [if_pos rfl] at H; exact H
         clear H
         have H := H1
         clear H1
         have H' := Ya H
         clear H
         have p210 : 0 ≤ (x14_1 : Int) := Z30 Q1
         have q210 : x14_1 < (l1.length : Int) := Z30 Q1
         obtain ⟨ad210, e210, hx210_0⟩ := Kd.at_int HR1.out x14_1 p210 q210
         cases e210
         replace p210 := eq_true p210
         replace q210 := eq_true q210
         have p211 : 0 ≤ (x14_1 : Int) := Z30 Q1
         have q211 : x14_1 < (l0.length : Int) := Z30 Q1
         obtain ⟨ad211, e211, hx211_0⟩ := Kd.at_int HR0.out x14_1 p211 q211
         cases e211
         replace p211 := eq_true p211
         replace q211 := eq_true q211
         go_wp2_with (first | ((with_reducible refine gate_callee (f := 44) rfl ?_); refine Yz 25 Try.func44 #[.int .i64 (rd l1 x14_1), .int .i64 0, .int .i64 (wrap64 ((rd l0 x14_1) - 1))] ?_; (with_reducible refine (spec_l1In.calls (rd l1 x14_1) 0 (wrap64 ((rd l0 x14_1) - 1)) true _ A8.out).mono ?_); rintro e w' ⟨rfl, ⟨nd, rfl⟩⟩; refine ⟨_, rfl, ?_⟩))
         go_roundg k1
         case measure => have := HK1.out; omega
         case rel => exact ⟨(wrap64 (x14_1 + 1)), Q8, H', ⟨Q20⟩, Q5⟩
        ·replace c9 := Bool.eq_false_iff.mpr c9
         subst c9
         have H1 : (some false) = some r := by rw [if_neg (show ¬ (false = true) by decide)] at H; exact H
         clear H
         have H := H1
         clear H1
         obtain rfl := Option.some.inj H
         have p210 : 0 ≤ (x14_1 : Int) := Z30 Q1
         have q210 : x14_1 < (l1.length : Int) := Z30 Q1
         obtain ⟨ad210, e210, hx210_0⟩ := Kd.at_int HR1.out x14_1 p210 q210
         cases e210
         replace p210 := eq_true p210
         replace q210 := eq_true q210
         have p211 : 0 ≤ (x14_1 : Int) := Z30 Q1
         have q211 : x14_1 < (l0.length : Int) := Z30 Q1
         obtain ⟨ad211, e211, hx211_0⟩ := Kd.at_int HR0.out x14_1 p211 q211
         cases e211
         replace p211 := eq_true p211
         replace q211 := eq_true q211
         go_wp2_with (first | ((with_reducible refine gate_callee (f := 44) rfl ?_); refine Yz 25 Try.func44 #[.int .i64 (rd l1 x14_1), .int .i64 0, .int .i64 (wrap64 ((rd l0 x14_1) - 1))] ?_; (with_reducible refine (spec_l1In.calls (rd l1 x14_1) 0 (wrap64 ((rd l0 x14_1) - 1)) false _ A8.out).mono ?_); rintro e w' ⟨rfl, ⟨nd, rfl⟩⟩; refine ⟨_, rfl, ?_⟩))
         go_ret
         exact ⟨Q13, Q5⟩
       ·rw [if_neg c7] at H
        exact absurd H (by simp)
      ·rw [if_neg c6] at H
       exact absurd H (by simp)
     ·rw [if_neg c5] at H
      exact absurd H (by simp)
    ·rw [if_neg c4] at H
     have c4b0 := Z37 c4
     clear c4
     obtain rfl := Option.some.inj H
     go_wp2
     go_ret
     exact ⟨Q13, Q5⟩
 ·rw [if_neg c3] at H
  have c3b0 : ((l1.length : Int) == (l0.length : Int)) = false := beq_eq_false_iff_ne.mpr c3
  have c3b1 : ((l1.length : Int) != (l0.length : Int)) = true := bne_iff_ne.mpr c3
  have c3b2 : (l1.length == l0.length) = false := by first | simpa using c3 | (simp at c3 ⊢; omega)
  obtain rfl := Option.some.inj H
  go_enter Try.func59, Try.ntmps59
  go_wp2
  go_ret
  exact ⟨Q13, Q5⟩
def spec_l1Own.f (l0 : List Int) : Option (List Int) := (some (([] : List Int) : List Int)).bind fun y213 => (if y213.length + l0.length < 17592186044416 then (some (y213 ++ l0)) else (none))
set_option maxHeartbeats 8000000 in
set_option maxRecDepth 100000 in
theorem spec_l1Own.calls (A0 : Option Addr) (c0 : Nat) (l0 : List Int) (r : List Int) (w : World) (hr0 : Kd.C (Kd.int .i64) w A0 l0.length l0) (hc0 : l0.length ≤ c0) (h : spec_l1Own.f l0 = some r) :
  Calls Try.prog 79 #[.slice A0 l0.length c0] w fun e w' => ∃ v0_ : Value, e = .returned (v0_) ∧ Kd.R (Kd.int .i64) 3 w' w.heap.size (fun _ => True) v0_ r ∧ Below w.heap.size w w' := by
 have HR0 := Ya hr0
 have HC0 := Ya hc0
 clear hr0 hc0
 have HB := Ya (Below.refl w.heap.size w)
 have H : ((some (([] : List Int) : List Int)).bind fun y213 => (if y213.length + l0.length < 17592186044416 then (some (y213 ++ l0)) else (none))) = some r := h
 clear h
 obtain ⟨y213, hy213⟩ : ∃ y_ : List Int, y_ = (([] : List Int)) := ⟨_, rfl⟩
 replace H : (if y213.length + l0.length < 17592186044416 then (some (y213 ++ l0)) else (none)) = some r := by first | (rw [hy213]; with_reducible exact H) | (have H2_ := (Option.bind_some _ _).symm.trans H; rw [hy213]; with_reducible exact H2_) | (have H2_ := (Option.bind_some _ _).symm.trans H; with_reducible exact H2_) | with_reducible exact H | (rw [hy213]; exact H) | exact H
 have Ny213 := Ya hy213
 clear hy213
 by_cases c2 : y213.length + l0.length < 17592186044416
 ·rw [if_pos c2] at H
  have LMc2 := Ya c2
  clear c2
  obtain ⟨y216, hy216⟩ : ∃ y_ : List Int, y_ = (y213 ++ l0) := ⟨_, rfl⟩
  replace H : (some y216) = some r := by first | (rw [hy216]; with_reducible exact H) | (have H2_ := (Option.bind_some _ _).symm.trans H; rw [hy216]; with_reducible exact H2_) | (have H2_ := (Option.bind_some _ _).symm.trans H; with_reducible exact H2_) | with_reducible exact H | (rw [hy216]; exact H) | exact H
  have Ny216 := Ya hy216
  clear hy216
  obtain rfl := Option.some.inj H
  go_enter Try.func79, Try.ntmps79
  go_wp2_with (first | ((with_reducible refine gate_dst (N := 3) rfl ?_); refine Kd.R_lit (Kd.int .i64) _ 3 ?hg (N := 3) ?hd (xs := ([] : List Int)) (inner := []) (ok := fun _ => True) (okp := fun _ => True) ?hr ?hp (fun _ hk => hk) trivial (Below.refl _ _) (Nat.le_refl _) (by simp) ?_; (case hd => rfl); (case hg => rfl); (case hr => first | (go_simp; done) | (go_simp; rfl)); (case hp => exact (Reps.none _ _)); intro v214 w3 ho4 hb hg_ hnew_; clear hg_ hnew_; (first | rw [← Ny213.out] at ho4 | (simp only [Int.reduceToNat] at ho4; rw [← Ny213.out] at ho4)); have HO215 := Yl ho4; replace HB := Yh hb; clear hb ho4) | ((with_reducible refine gate_builtin (b := .append) (xs := #[.tmp 3, .tmp 4]) rfl ?_); at_builtin; refine Kd.R_append_rows (Kd.int .i64) (w0 := w) w.heap.size rfl (.tmp 3) (.tmp 4) 22 3 (.int .i64 0) 8 rfl Try.underlying22 info3 rfl (by decide) (by omega) v214 y213 l0 _ _ _ (fun _ => True) (fun _ => False) rfl rfl ?aO ?aR (fun _ _ h => h) (fun _ h => h.elim) ?aF ?aB ?aS ?aL ?_; (case aR => repeat (first | exact (Z22 HR0.out HB.out) | (with_reducible refine Z20 ?_ _) | (with_reducible refine Z21 ?_ _) | (with_reducible refine Kd.C_drew ?_))); (case aB => exact Q0); (case aF => exact (fun _ _ => trivial)); (case aO => exact (Yr HO215.out)); (case aS => exact (Z7 Q0)); (case aL => have := LMc2.out; omega); intro v217 w5 ho hb hg hat; rw [← Ny216.out] at ho; replace HB := Ya hb; have HO218 := Ya ho; clear HO215; clear ho hb hg hat))
  go_ret
  exact ⟨_, Q2, by (with_reducible repeat (first | apply Z9 | apply Z10 | apply Z11)); exact HO218.out, Q12⟩
 ·rw [if_neg c2] at H
  exact absurd H (by simp)
def spec_foOwn.f (l0_0 : List Int) (l0_1 : List Int) (l0_2 : List Bool) (l0_3 : List Int) : Option (List Int × List Int × List Bool × List Int) := (spec_l1Own.f l0_0).bind fun t221 => ((spec_l1Own.f l0_1).bind fun t224 => ((some (([] : List Bool) : List Bool)).bind fun y227 => (if y227.length + l0_2.length < 140737488355328 then ((spec_l1Own.f l0_3).bind fun t233 => (some (t221, t224, (y227 ++ l0_2), t233))) else (none))))
def spec_foOwn.T1 : Bool × List (List Nat × List Nat) := (true, [([], []), ([0], [0]), ([1], [1]), ([], []), ([3], [3]), ([4, 2], [4]), ([], []), ([], []), ([7], [7]), ([6, 8, 5], [6, 8]), ([], []), ([10], [10]), ([11, 9], [11]), ([2, 5, 9, 12], [2, 5, 9, 12]), ([13, 12, 0, 1, 2, 3, 4, 5, 6, 7, 8, 9, 10, 11, 12, 13], [13])])
def spec_foOwn.B1 : List Nat := [0, 1, 3, 0, 8, 31, 0, 0, 128, 511, 0, 1024, 4095, 8191, 16383]
theorem spec_foOwn.tab1 : rtab .any (opsOf Try.f63 1) = spec_foOwn.T1 := by kernel_rfl
theorem spec_foOwn.bits1 : waitsOk spec_foOwn.T1.2 spec_foOwn.B1 = true := by kernel_rfl
set_option maxHeartbeats 8000000 in
set_option maxRecDepth 100000 in
theorem spec_foOwn.calls (A0_0 : Option Addr) (c0_0 : Nat) (l0_0 : List Int) (A0_1 : Option Addr) (c0_1 : Nat) (l0_1 : List Int) (A0_2 : Option Addr) (c0_2 : Nat) (l0_2 : List Bool) (A0_3 : Option Addr) (c0_3 : Nat) (l0_3 : List Int) (r1 : List Int) (r2 : List Int) (r3 : List Bool) (r4 : List Int) (w : World) (hr0_0 : Kd.C (Kd.int .i64) w A0_0 l0_0.length l0_0) (hc0_0 : l0_0.length ≤ c0_0) (hr0_1 : Kd.C (Kd.int .i64) w A0_1 l0_1.length l0_1) (hc0_1 : l0_1.length ≤ c0_1) (hr0_2 : Kd.C Kd.bool w A0_2 l0_2.length l0_2) (hc0_2 : l0_2.length ≤ c0_2) (hr0_3 : Kd.C (Kd.int .i64) w A0_3 l0_3.length l0_3) (hc0_3 : l0_3.length ≤ c0_3) (h : spec_foOwn.f l0_0 l0_1 l0_2 l0_3 = some (r1, r2, r3, r4)) :
  Calls Try.prog 63 #[.agg #[.slice A0_0 l0_0.length c0_0, .slice A0_1 l0_1.length c0_1, .slice A0_2 l0_2.length c0_2, .slice A0_3 l0_3.length c0_3]] w fun e w' => ∃ v0_ v1_ v2_ v3_ : Value, e = .returned (.agg #[v0_, v1_, v2_, v3_]) ∧ Kd.R (Kd.int .i64) 3 w' w.heap.size (fun k_ => some k_ ≠ (v1_ : Value).ownBlock ∧ some k_ ≠ (v3_ : Value).ownBlock) v0_ r1 ∧ Kd.R (Kd.int .i64) 3 w' w.heap.size (fun k_ => some k_ ≠ (v0_ : Value).ownBlock ∧ some k_ ≠ (v3_ : Value).ownBlock) v1_ r2 ∧ Kd.R Kd.bool 4 w' w.heap.size (fun _ => True) v2_ r3 ∧ Kd.R (Kd.int .i64) 3 w' w.heap.size (fun k_ => some k_ ≠ (v0_ : Value).ownBlock ∧ some k_ ≠ (v1_ : Value).ownBlock) v3_ r4 ∧ Below w.heap.size w w' := by
 have hu27 := Try.underlying27
 have HR0_0 := Ya hr0_0
 have HC0_0 := Ya hc0_0
 clear hr0_0 hc0_0
 have HR0_1 := Ya hr0_1
 have HC0_1 := Ya hc0_1
 clear hr0_1 hc0_1
 have HR0_2 := Ya hr0_2
 have HC0_2 := Ya hc0_2
 clear hr0_2 hc0_2
 have HR0_3 := Ya hr0_3
 have HC0_3 := Ya hc0_3
 clear hr0_3 hc0_3
 have HB := Ya (Below.refl w.heap.size w)
 have H : ((spec_l1Own.f l0_0).bind fun t221 => ((spec_l1Own.f l0_1).bind fun t224 => ((some (([] : List Bool) : List Bool)).bind fun y227 => (if y227.length + l0_2.length < 140737488355328 then ((spec_l1Own.f l0_3).bind fun t233 => (some (t221, t224, (y227 ++ l0_2), t233))) else (none))))) = some (r1, r2, r3, r4) := h
 clear h
 replace H := Z36.mp H
 obtain ⟨t221, A20, H⟩ := H
 replace H : ((spec_l1Own.f l0_1).bind fun t224 => ((some (([] : List Bool) : List Bool)).bind fun y227 => (if y227.length + l0_2.length < 140737488355328 then ((spec_l1Own.f l0_3).bind fun t233 => (some (t221, t224, (y227 ++ l0_2), t233))) else (none)))) = some (r1, r2, r3, r4) := H
 have A2 := Ya A20
 clear A20
 replace H := Z36.mp H
 obtain ⟨t224, A30, H⟩ := H
 replace H : ((some (([] : List Bool) : List Bool)).bind fun y227 => (if y227.length + l0_2.length < 140737488355328 then ((spec_l1Own.f l0_3).bind fun t233 => (some (t221, t224, (y227 ++ l0_2), t233))) else (none))) = some (r1, r2, r3, r4) := H
 have A3 := Ya A30
 clear A30
 obtain ⟨y227, hy227⟩ : ∃ y_ : List Bool, y_ = (([] : List Bool)) := ⟨_, rfl⟩
 replace H : (if y227.length + l0_2.length < 140737488355328 then ((spec_l1Own.f l0_3).bind fun t233 => (some (t221, t224, (y227 ++ l0_2), t233))) else (none)) = some (r1, r2, r3, r4) := by first | (rw [hy227]; with_reducible exact H) | (have H2_ := (Option.bind_some _ _).symm.trans H; rw [hy227]; with_reducible exact H2_) | (have H2_ := (Option.bind_some _ _).symm.trans H; with_reducible exact H2_) | with_reducible exact H | (rw [hy227]; exact H) | exact H
 have Ny227 := Ya hy227
 clear hy227
 by_cases c4 : y227.length + l0_2.length < 140737488355328
 ·rw [if_pos c4] at H
  have LMc4 := Ya c4
  clear c4
  obtain ⟨y230, hy230⟩ : ∃ y_ : List Bool, y_ = (y227 ++ l0_2) := ⟨_, rfl⟩
  replace H : ((spec_l1Own.f l0_3).bind fun t233 => (some (t221, t224, y230, t233))) = some (r1, r2, r3, r4) := by first | (rw [hy230]; with_reducible exact H) | (have H2_ := (Option.bind_some _ _).symm.trans H; rw [hy230]; with_reducible exact H2_) | (have H2_ := (Option.bind_some _ _).symm.trans H; with_reducible exact H2_) | with_reducible exact H | (rw [hy230]; exact H) | exact H
  have Ny230 := Ya hy230
  clear hy230
  replace H := Z36.mp H
  obtain ⟨t233, A50, H⟩ := H
  replace H : (some (t221, t224, y230, t233)) = some (r1, r2, r3, r4) := H
  have A5 := Ya A50
  clear A50
  simp only [Option.some.injEq, Prod.mk.injEq] at H
  obtain ⟨rfl, rfl, rfl, rfl⟩ := H
  go_enter Try.func63, Try.ntmps63
  try go_wp2_with (first | ((with_reducible refine gate_dst (N := 1) rfl ?_); refine Yx 1 #[.slice A0_0 l0_0.length c0_0, .slice A0_1 l0_1.length c0_1, .slice A0_2 l0_2.length c0_2, .slice A0_3 l0_3.length c0_3] 27 ?_; intro gb219 hg w6 hbox hb; have BK219 := Ya hbox; have GE219 := Yg hg; replace HB := Yh hb; clear hb hbox hg) | ((with_reducible refine gate_dst (N := 2) rfl ?_); refine Yx 2 YN4 27 ?_; intro gb220 hg w7 hbox hb; have BK220 := Ya hbox; have GE220 := Yg hg; replace HB := Yh hb; have NB219_220 := Yn BK219 hg; have NB220_219 := Ym BK219 hg; replace BK219 := Yb BK219 hb; clear hb hbox hg))
  replace BK219 := Ya (Z26 BK219.out)
  replace BK220 := Ya (Z26 BK220.out)
  replace HB := Ya (Z4 HB.out)
  refine start_ (n := 15) (S := fun w' => w'.cell? ⟨gb219, 0, none⟩ = some (.slice A0_0 l0_0.length c0_0) ∧ w'.cell? ⟨gb219, 1, none⟩ = some (.slice A0_1 l0_1.length c0_1) ∧ w'.cell? ⟨gb219, 2, none⟩ = some (.slice A0_2 l0_2.length c0_2) ∧ w'.cell? ⟨gb219, 3, none⟩ = some (.slice A0_3 l0_3.length c0_3)) (ds := []) (YA 15 0) (by kernel_rfl) rfl rfl (Yz4 BK219.out) (fun hHeld => ?_); refine with_tabW spec_foOwn.tab1 spec_foOwn.bits1 (fun HT_ HW_ => ?_)
  generalize w7.drew = w8 at BK219 BK220 HB hHeld ⊢
  refine Yp 0 (some 3) (YA 15 1) rfl HT_.out ?_
  refine Yp 3 (some 6) (YA 15 9) rfl HT_.out ?_
  refine Yp 7 (some 10) (YA 15 137) rfl HT_.out ?_
  refine Yp 10 (some 13) (YA 15 1161) rfl HT_.out ?_
  refine Yt 1 (some 4) (YA 15 1163) rfl HT_.out HW_.out hHeld Q3 ?_
  refine Yt 4 (some 7) (YA 15 1179) rfl HT_.out HW_.out hHeld Q3 ?_
  refine Yt 8 (some 11) (YA 15 1435) rfl HT_.out HW_.out hHeld Q3 ?_
  refine Yt 11 (some 14) (YA 15 3483) rfl HT_.out HW_.out hHeld Q3 ?_
  refine join_ (σ := Value × Value × Value) 4 (YA 15 3583) (fun s_ => [(5, s_.1), (8, s_.2.1), (9, s_.2.2)]) (fun s_ w' => (w'.cell? ⟨gb219, 0, none⟩ = some (.slice A0_0 l0_0.length c0_0) ∧ w'.cell? ⟨gb219, 1, none⟩ = some (.slice A0_1 l0_1.length c0_1) ∧ w'.cell? ⟨gb219, 2, none⟩ = some (.slice A0_2 l0_2.length c0_2) ∧ w'.cell? ⟨gb219, 3, none⟩ = some (.slice A0_3 l0_3.length c0_3)) ∧ (Kd.R (Kd.int .i64) 3 w' w.heap.size (fun k_ => some k_ ≠ (s_.2.1 : Value).ownBlock) s_.1 t221) ∧ (Kd.R (Kd.int .i64) 3 w' w.heap.size (fun k_ => some k_ ≠ (s_.1 : Value).ownBlock) s_.2.1 t224) ∧ (Kd.R Kd.bool 4 w' w.heap.size (fun _ => True) s_.2.2 y227) ∧ (w'.heap[gb219]? = some (.cells #[.slice A0_0 l0_0.length c0_0, .slice A0_1 l0_1.length c0_1, .slice A0_2 l0_2.length c0_2, .slice A0_3 l0_3.length c0_3] 27 (0, 0))) ∧ (w'.heap[gb220]? = some (.cells YN4 27 (0, 0))) ∧ (Below w.heap.size w w')) ?_ ?_
  rotate_left
  ·intro hCont
   refine two_ (i := 2) (j := 6) (Ni := some 5) (Nj := some 9) (YA 15 3487) (YA 15 3547) rfl rfl rfl rfl (two_of HT_.out (by kernel_rfl)) (by decide) (by decide) (fun K hK => ?_) (fun K hK => ?_)
   ·skip
    refine goes_ Try.func79 (by kernel_rfl) rfl #[.slice A0_0 l0_0.length c0_0] (by rfl) rfl rfl Q7 ?_
    with_reducible refine (spec_l1Own.calls _ _ l0_0 t221 _ ?side1 ?side2 A2.out).mono ?_
    (case side1 => exact Yc (Z22 HR0_0.out HB.out))
    (case side2 => exact HC0_0.out)
    rintro e w9 ⟨v222, rfl, ho0, hb⟩
    refine ⟨_, rfl, ?_⟩
    have HO223 := Yl ho0
    replace BK219 := Yb BK219 hb
    replace BK220 := Yb BK220 hb
    replace HB := Yh hb
    (try clear hb ho0)
    refine hK.out _ _ (Yz4 BK219.out) (fun hHeld => ?_)
    clear hK K
    refine norm_ (a' := ?_) ?_ ?_
    rotate_left
    ·show Act.put _ (some 5) _ = _
     simp only [Act.put, Z0, Z1, Z2, i64_w, i32_w]
     rfl
    refine two_ (i := 5) (j := 6) (Ni := some 8) (Nj := some 9) (YA 15 3519) (YA 15 3551) rfl rfl rfl rfl (two_of HT_.out (by kernel_rfl)) (by decide) (by decide) (fun K hK => ?_) (fun K hK => ?_)
    ·skip
     refine goes_ Try.func79 (by kernel_rfl) rfl #[.slice A0_1 l0_1.length c0_1] (by rfl) rfl rfl Q7 ?_
     with_reducible refine (spec_l1Own.calls _ _ l0_1 t224 _ ?side1 ?side2 A3.out).mono ?_
     (case side1 => exact Yc (Z22 HR0_1.out HB.out))
     (case side2 => exact HC0_1.out)
     rintro e w10 ⟨v225, rfl, ho0, hb⟩
     refine ⟨_, rfl, ?_⟩
     have HO226 := Yl (Kd.R_new' ho0 (Z18 (Yr HO223.out)))
     replace HO223 := Ya (Kd.R_elder' (Yr HO223.out) (Kd.R_base ho0) hb)
     replace BK219 := Yb BK219 hb
     replace BK220 := Yb BK220 hb
     replace HB := Yh hb
     (try clear hb ho0)
     refine hK.out _ _ (Yz4 BK219.out) (fun hHeld => ?_)
     clear hK K
     refine norm_ (a' := ?_) ?_ ?_
     rotate_left
     ·show Act.put _ (some 8) _ = _
      simp only [Act.put, Z0, Z1, Z2, i64_w, i32_w]
      rfl
     refine one_ (i := 6) (N := some 9) (YA 15 3583) rfl rfl (one_of HT_.out (by kernel_rfl)) (by decide) (fun K hK => ?_)
     refine Kd.R_lit_step Kd.bool _ 4 ?hg (N := 9) ?hd (xs := ([] : List Bool)) (inner := []) (ok := fun _ => True) (okp := fun _ => True) ?hr ?hp (fun _ hk => hk) trivial (Below.refl _ _) (Nat.le_refl _) (by simp) ?_; (case hd => rfl); (case hg => rfl); (case hr => first | (go_simp; done) | (go_simp; rfl)); (case hp => exact (Reps.none _ _))
     intro v228 w11 ho12 hb hg_ hnew_
     clear hg_ hnew_
     (first | rw [← Ny227.out] at ho12 | (simp only [Int.reduceToNat] at ho12; rw [← Ny227.out] at ho12))
     replace HO223 := Yw HO223 hb
     replace HO226 := Yw HO226 hb
     have HO229 := Yl ho12
     replace BK219 := Yb BK219 hb
     replace BK220 := Yb BK220 hb
     replace HB := Yh hb
     clear hb ho12
     refine hK.out _ _ (Yz4 BK219.out) (fun hHeld => ?_)
     clear hK K
     refine norm_ (a' := ?_) ?_ ?_
     rotate_left
     ·show Act.put _ (some 9) _ = _
      simp only [Act.put, Z0, Z1, Z2, i64_w, i32_w]
      rfl
     exact norm_ Q30 (hCont (v222, v225, v228) _ ⟨hHeld, (Yj HO223.out (fun _ hk => hk.2)), (Yj HO226.out (fun _ hk => hk.2)), (Yr HO229.out), (Yk BK219.out), (Yk BK220.out), Q0⟩)
    ·skip
     refine Kd.R_lit_step Kd.bool _ 4 ?hg (N := 9) ?hd (xs := ([] : List Bool)) (inner := []) (ok := fun _ => True) (okp := fun _ => True) ?hr ?hp (fun _ hk => hk) trivial (Below.refl _ _) (Nat.le_refl _) (by simp) ?_; (case hd => rfl); (case hg => rfl); (case hr => first | (go_simp; done) | (go_simp; rfl)); (case hp => exact (Reps.none _ _))
     intro v228 w10 ho11 hb hg_ hnew_
     clear hg_ hnew_
     (first | rw [← Ny227.out] at ho11 | (simp only [Int.reduceToNat] at ho11; rw [← Ny227.out] at ho11))
     replace HO223 := Yw HO223 hb
     have HO229 := Yl ho11
     replace BK219 := Yb BK219 hb
     replace BK220 := Yb BK220 hb
     replace HB := Yh hb
     clear hb ho11
     refine hK.out _ _ (Yz4 BK219.out) (fun hHeld => ?_)
     clear hK K
     refine norm_ (a' := ?_) ?_ ?_
     rotate_left
     ·show Act.put _ (some 9) _ = _
      simp only [Act.put, Z0, Z1, Z2, i64_w, i32_w]
      rfl
     refine one_ (i := 5) (N := some 8) (YA 15 3583) rfl rfl (one_of HT_.out (by kernel_rfl)) (by decide) (fun K hK => ?_)
     refine goes_ Try.func79 (by kernel_rfl) rfl #[.slice A0_1 l0_1.length c0_1] (by rfl) rfl rfl Q7 ?_
     with_reducible refine (spec_l1Own.calls _ _ l0_1 t224 _ ?side1 ?side2 A3.out).mono ?_
     (case side1 => exact Yc (Z22 HR0_1.out HB.out))
     (case side2 => exact HC0_1.out)
     rintro e w12 ⟨v225, rfl, ho0, hb⟩
     refine ⟨_, rfl, ?_⟩
     replace HO229 := Yw HO229 hb
     have HO226 := Yl (Kd.R_new' ho0 (Z18 (Yr HO223.out)))
     replace HO223 := Ya (Kd.R_elder' (Yr HO223.out) (Kd.R_base ho0) hb)
     replace BK219 := Yb BK219 hb
     replace BK220 := Yb BK220 hb
     replace HB := Yh hb
     (try clear hb ho0)
     refine hK.out _ _ (Yz4 BK219.out) (fun hHeld => ?_)
     clear hK K
     refine norm_ (a' := ?_) ?_ ?_
     rotate_left
     ·show Act.put _ (some 8) _ = _
      simp only [Act.put, Z0, Z1, Z2, i64_w, i32_w]
      rfl
     exact norm_ Q30 (hCont (v222, v225, v228) _ ⟨hHeld, (Yj HO223.out (fun _ hk => hk.2)), (Yj HO226.out (fun _ hk => hk.2)), (Yr HO229.out), (Yk BK219.out), (Yk BK220.out), Q0⟩)
   ·skip
    refine Kd.R_lit_step Kd.bool _ 4 ?hg (N := 9) ?hd (xs := ([] : List Bool)) (inner := []) (ok := fun _ => True) (okp := fun _ => True) ?hr ?hp (fun _ hk => hk) trivial (Below.refl _ _) (Nat.le_refl _) (by simp) ?_; (case hd => rfl); (case hg => rfl); (case hr => first | (go_simp; done) | (go_simp; rfl)); (case hp => exact (Reps.none _ _))
    intro v228 w9 ho10 hb hg_ hnew_
    clear hg_ hnew_
    (first | rw [← Ny227.out] at ho10 | (simp only [Int.reduceToNat] at ho10; rw [← Ny227.out] at ho10))
    have HO229 := Yl ho10
    replace BK219 := Yb BK219 hb
    replace BK220 := Yb BK220 hb
    replace HB := Yh hb
    clear hb ho10
    refine hK.out _ _ (Yz4 BK219.out) (fun hHeld => ?_)
    clear hK K
    refine norm_ (a' := ?_) ?_ ?_
    rotate_left
    ·show Act.put _ (some 9) _ = _
     simp only [Act.put, Z0, Z1, Z2, i64_w, i32_w]
     rfl
    refine one_ (i := 2) (N := some 5) (YA 15 3551) rfl rfl (one_of HT_.out (by kernel_rfl)) (by decide) (fun K hK => ?_)
    refine goes_ Try.func79 (by kernel_rfl) rfl #[.slice A0_0 l0_0.length c0_0] (by rfl) rfl rfl Q7 ?_
    with_reducible refine (spec_l1Own.calls _ _ l0_0 t221 _ ?side1 ?side2 A2.out).mono ?_
    (case side1 => exact Yc (Z22 HR0_0.out HB.out))
    (case side2 => exact HC0_0.out)
    rintro e w11 ⟨v222, rfl, ho0, hb⟩
    refine ⟨_, rfl, ?_⟩
    replace HO229 := Yw HO229 hb
    have HO223 := Yl ho0
    replace BK219 := Yb BK219 hb
    replace BK220 := Yb BK220 hb
    replace HB := Yh hb
    (try clear hb ho0)
    refine hK.out _ _ (Yz4 BK219.out) (fun hHeld => ?_)
    clear hK K
    refine norm_ (a' := ?_) ?_ ?_
    rotate_left
    ·show Act.put _ (some 5) _ = _
     simp only [Act.put, Z0, Z1, Z2, i64_w, i32_w]
     rfl
    refine one_ (i := 5) (N := some 8) (YA 15 3583) rfl rfl (one_of HT_.out (by kernel_rfl)) (by decide) (fun K hK => ?_)
    refine goes_ Try.func79 (by kernel_rfl) rfl #[.slice A0_1 l0_1.length c0_1] (by rfl) rfl rfl Q7 ?_
    with_reducible refine (spec_l1Own.calls _ _ l0_1 t224 _ ?side1 ?side2 A3.out).mono ?_
    (case side1 => exact Yc (Z22 HR0_1.out HB.out))
    (case side2 => exact HC0_1.out)
    rintro e w12 ⟨v225, rfl, ho0, hb⟩
    refine ⟨_, rfl, ?_⟩
    replace HO229 := Yw HO229 hb
    have HO226 := Yl (Kd.R_new' ho0 (Z18 (Yr HO223.out)))
    replace HO223 := Ya (Kd.R_elder' (Yr HO223.out) (Kd.R_base ho0) hb)
    replace BK219 := Yb BK219 hb
    replace BK220 := Yb BK220 hb
    replace HB := Yh hb
    (try clear hb ho0)
    refine hK.out _ _ (Yz4 BK219.out) (fun hHeld => ?_)
    clear hK K
    refine norm_ (a' := ?_) ?_ ?_
    rotate_left
    ·show Act.put _ (some 8) _ = _
     simp only [Act.put, Z0, Z1, Z2, i64_w, i32_w]
     rfl
    exact norm_ Q30 (hCont (v222, v225, v228) _ ⟨hHeld, (Yj HO223.out (fun _ hk => hk.2)), (Yj HO226.out (fun _ hk => hk.2)), (Yr HO229.out), (Yk BK219.out), (Yk BK220.out), Q0⟩)
  rintro ⟨v222, v225, v228⟩ w13 ⟨hS_, h0_, h1_, h2_, h3_, h4_, h5_⟩
  have HO223 : Aside0 (Kd.R (Kd.int .i64) 3 w13 w.heap.size (fun k_ => some k_ ≠ (v225 : Value).ownBlock) v222 t221) := ⟨h0_⟩
  have HO226 : Aside0 (Kd.R (Kd.int .i64) 3 w13 w.heap.size (fun k_ => some k_ ≠ (v222 : Value).ownBlock) v225 t224) := ⟨h1_⟩
  have HO229 : Aside0 (Kd.R Kd.bool 4 w13 w.heap.size (fun _ => True) v228 y227) := ⟨h2_⟩
  replace BK219 : Aside0 (w13.heap[gb219]? = some (.cells #[.slice A0_0 l0_0.length c0_0, .slice A0_1 l0_1.length c0_1, .slice A0_2 l0_2.length c0_2, .slice A0_3 l0_3.length c0_3] 27 (0, 0))) := ⟨h3_⟩
  replace BK220 : Aside0 (w13.heap[gb220]? = some (.cells YN4 27 (0, 0))) := ⟨h4_⟩
  replace HB : Aside0 (Below w.heap.size w w13) := ⟨h5_⟩
  clear h0_ h1_ h2_ h3_ h4_ h5_
  have hHeld : w13.cell? ⟨gb219, 0, none⟩ = some (.slice A0_0 l0_0.length c0_0) ∧ w13.cell? ⟨gb219, 1, none⟩ = some (.slice A0_1 l0_1.length c0_1) ∧ w13.cell? ⟨gb219, 2, none⟩ = some (.slice A0_2 l0_2.length c0_2) ∧ w13.cell? ⟨gb219, 3, none⟩ = some (.slice A0_3 l0_3.length c0_3) := hS_
  refine norm_ (a' := ?_) ?_ ?_
  rotate_left
  ·simp only [putAll, Act.put, Z0, Z1, Z2]
   rfl
  refine one_ (i := 9) (N := some 12) (YA 15 4095) rfl rfl (one_of HT_.out (by kernel_rfl)) (by decide) (fun K hK => ?_)
  refine Kd.R_append_rows_step Kd.bool (w0 := w) w.heap.size (by rfl) (.tmp 9) (.tmp 11) 23 4 (.bool false) 1 rfl Try.underlying23 info4 rfl (by decide) (by omega) v228 y227 l0_2 _ _ _ (fun _ => True) (fun _ => False) rfl rfl ?aO ?aR (fun _ _ h => h) (fun _ h => h.elim) ?aF ?aB ?aS ?aL ?_
  (case aR => repeat (first | exact (Z22 HR0_2.out HB.out) | (with_reducible refine Z20 ?_ _) | (with_reducible refine Z21 ?_ _) | (with_reducible refine Kd.C_drew ?_)))
  (case aB => exact Q0)
  (case aF => exact (fun _ _ => trivial))
  (case aO => exact (Yr HO229.out))
  (case aS => exact (Z7 Q0))
  (case aL => have := LMc4.out; omega)
  intro v231 w14 ho hb hg hat
  rw [← Ny230.out] at ho
  replace BK219 := Ya (blk_grown (g := gb219) (o := .cells #[.slice A0_0 l0_0.length c0_0, .slice A0_1 l0_1.length c0_1, .slice A0_2 l0_2.length c0_2, .slice A0_3 l0_3.length c0_3] 27 (0, 0)) (Yk BK219.out) hg (Kd.R_ne HO229.out BK219.out (by decide)))
  replace BK220 := Ya (blk_grown (g := gb220) (o := .cells YN4 27 (0, 0)) (Yk BK220.out) hg (Kd.R_ne HO229.out BK220.out (by decide)))
  replace HO223 := Ya (Kd.R_over' (Yr HO223.out) (Kd.R_typed (Yr HO229.out)) (by decide) hg)
  replace HO226 := Ya (Kd.R_over' (Yr HO226.out) (Kd.R_typed (Yr HO229.out)) (by decide) hg)
  replace HB := Ya hb
  have HO232 := Ya ho
  clear HO229
  clear ho hb hg hat
  refine hK.out _ _ (Yz4 BK219.out) (fun hHeld => ?_)
  clear hK K
  refine norm_ (a' := ?_) ?_ ?_
  rotate_left
  ·show Act.put _ (some 12) _ = _
   simp only [Act.put, Z0, Z1, Z2, i64_w, i32_w]
   rfl
  refine one_ (i := 12) (N := some 15) (YA 15 8191) rfl rfl (one_of HT_.out (by kernel_rfl)) (by decide) (fun K hK => ?_)
  refine goes_ Try.func79 (by kernel_rfl) rfl #[.slice A0_3 l0_3.length c0_3] (by rfl) rfl rfl Q7 ?_
  with_reducible refine (spec_l1Own.calls _ _ l0_3 t233 _ ?side1 ?side2 A5.out).mono ?_
  (case side1 => exact Yc (Z22 HR0_3.out HB.out))
  (case side2 => exact HC0_3.out)
  rintro e w15 ⟨v234, rfl, ho0, hb⟩
  refine ⟨_, rfl, ?_⟩
  replace HO232 := Yw HO232 hb
  have HO235 := Yl (Kd.R_new' (Kd.R_new' ho0 (Z18 (Yr HO223.out))) (Z18 (Yr HO226.out)))
  replace HO223 := Ya (Kd.R_elder' (Yr HO223.out) (Kd.R_base ho0) hb)
  replace HO226 := Ya (Kd.R_elder' (Yr HO226.out) (Kd.R_base ho0) hb)
  replace BK219 := Yb BK219 hb
  replace BK220 := Yb BK220 hb
  replace HB := Yh hb
  (try clear hb ho0)
  obtain ⟨Ao16, co16, eo16⟩ := Z19 HO235.out
  (first | subst eo16 | (injection eo16 with f1_ f2_ f3_; have f4_ := f1_.symm; have f5_ := f3_.symm; clear f1_ f2_ f3_; subst f4_; subst f5_))
  obtain ⟨Ao17, co17, eo17⟩ := Z19 HO232.out
  (first | subst eo17 | (injection eo17 with f1_ f2_ f3_; have f4_ := f1_.symm; have f5_ := f3_.symm; clear f1_ f2_ f3_; subst f4_; subst f5_))
  obtain ⟨Ao18, co18, eo18⟩ := Z19 HO226.out
  (first | subst eo18 | (injection eo18 with f1_ f2_ f3_; have f4_ := f1_.symm; have f5_ := f3_.symm; clear f1_ f2_ f3_; subst f4_; subst f5_))
  obtain ⟨Ao19, co19, eo19⟩ := Z19 HO223.out
  (first | subst eo19 | (injection eo19 with f1_ f2_ f3_; have f4_ := f1_.symm; have f5_ := f3_.symm; clear f1_ f2_ f3_; subst f4_; subst f5_))
  refine hK.out _ _ (Yz4 BK219.out) (fun hHeld => ?_)
  clear hK K
  refine norm_ (a' := ?_) ?_ ?_
  rotate_left
  ·show Act.put _ (some 15) _ = _
   simp only [Act.put, Z0, Z1, Z2, i64_w, i32_w]
   rfl
  refine Yp 13 (some 16) (YA 15 16383) rfl HT_.out ?_
  refine one_ (i := 14) (N := none) (YA 15 32767) rfl rfl (one_of HT_.out (by kernel_rfl)) (by decide) (fun K hK => ?_)
  have hs20 : w15.cell? ⟨gb220, 0, none⟩ = some (.slice none 0 0) := (Z23 BK220.out 0).trans rfl
  have hfs20 := Z24 BK220.out 0
  have hns20_0 := NB219_220.out
  have hms20_0 := NB220_219.out
  have hs21 : w15.cell? ⟨gb220, 1, none⟩ = some (.slice none 0 0) := (Z23 BK220.out 1).trans rfl
  have hfs21 := Z24 BK220.out 1
  have hns21_0 := NB219_220.out
  have hms21_0 := NB220_219.out
  have hs22 : w15.cell? ⟨gb220, 2, none⟩ = some (.slice none 0 0) := (Z23 BK220.out 2).trans rfl
  have hfs22 := Z24 BK220.out 2
  have hns22_0 := NB219_220.out
  have hms22_0 := NB220_219.out
  have hs23 : w15.cell? ⟨gb220, 3, none⟩ = some (.slice none 0 0) := (Z23 BK220.out 3).trans rfl
  have hfs23 := Z24 BK220.out 3
  have hns23_0 := NB219_220.out
  have hms23_0 := NB220_219.out
  refine skip_ (w1 := ?_) (by rfl) rfl ?_ ?_
  rotate_left
  ·go_simp
   rfl
  refine hK.out _ _ ⟨((cell_far (p := ⟨gb220, _, none⟩) NB219_220.out _).trans (((cell_far (p := ⟨gb220, _, none⟩) NB219_220.out _).trans (((cell_far (p := ⟨gb220, _, none⟩) NB219_220.out _).trans (((cell_far (p := ⟨gb220, _, none⟩) NB219_220.out _).trans (hHeld.1)))))))), ((cell_far (p := ⟨gb220, _, none⟩) NB219_220.out _).trans (((cell_far (p := ⟨gb220, _, none⟩) NB219_220.out _).trans (((cell_far (p := ⟨gb220, _, none⟩) NB219_220.out _).trans (((cell_far (p := ⟨gb220, _, none⟩) NB219_220.out _).trans (hHeld.2.1)))))))), ((cell_far (p := ⟨gb220, _, none⟩) NB219_220.out _).trans (((cell_far (p := ⟨gb220, _, none⟩) NB219_220.out _).trans (((cell_far (p := ⟨gb220, _, none⟩) NB219_220.out _).trans (((cell_far (p := ⟨gb220, _, none⟩) NB219_220.out _).trans (hHeld.2.2.1)))))))), ((cell_far (p := ⟨gb220, _, none⟩) NB219_220.out _).trans (((cell_far (p := ⟨gb220, _, none⟩) NB219_220.out _).trans (((cell_far (p := ⟨gb220, _, none⟩) NB219_220.out _).trans (((cell_far (p := ⟨gb220, _, none⟩) NB219_220.out _).trans (hHeld.2.2.2))))))))⟩ (fun hHeld => ?_)
  clear hK K
  refine done_ (done_of HT_.out (by kernel_rfl)) ?_
  try go_wp2
  refine bodyPost_ret (results_cell_row rfl _ _ gb220 27 #[.slice Ao19 t221.length co19, .slice Ao18 t224.length co18, .slice Ao17 y230.length co17, .slice Ao16 t233.length co16] (0, 0) _ rfl (Yk (Yv4 BK220.out)) Try.underlying27 rfl (by kernel_rfl)) rfl ?_
  exact ⟨_, _, _, _, Q2, Yj (Yf4 HO223.out BK220.out) (fun _ hk => ⟨hk.1.1, hk.1.2⟩), Yj (Yf4 HO226.out BK220.out) (fun _ hk => ⟨hk.1.1, hk.1.2⟩), Yj (Yf4 HO232.out BK220.out) (fun _ hk => trivial), Yj (Yf4 HO235.out BK220.out) (fun _ hk => ⟨hk.1.1.2, hk.1.2⟩), Q12⟩
 ·rw [if_neg c4] at H
  exact absurd H (by simp)
end Go.Proofs.Ytpfakdhfffehaaa.MFnExactStepSwapper
