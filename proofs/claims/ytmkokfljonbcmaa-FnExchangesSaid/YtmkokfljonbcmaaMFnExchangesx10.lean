import Derived.Test.YtmkokfljonbcmaaMFnExchangesx0
import Derived.Test.YtmkokfljonbcmaaMFnExchangesx1
import Derived.Test.YtmkokfljonbcmaaMFnExchangesx2
import Derived.Test.YtmkokfljonbcmaaMFnExchangesx3
import Derived.Test.YtmkokfljonbcmaaMFnExchangesx4
import Derived.Test.YtmkokfljonbcmaaMFnExchangesx5
import Derived.Test.YtmkokfljonbcmaaMFnExchangesx7
import Derived.Test.YtmkokfljonbcmaaMFnExchangesx8
import Derived.Test.YtmkokfljonbcmaaMFnExchangesx9
namespace Go.Proofs.Ytmkokfljonbcmaa.MFnExchanges
open Go.RowKit Go.Proofs.YtmkokfljonbcmaaW.PrintWords Go.Proofs.YtmkokfljonbcmaaW.PrintLast Go.Proofs.YtmkokfljonbcmaaW.PrintMore
attribute [local go_sem] max2_int min2_int max_two min_two max_three min_three max_four min_four   
set_option linter.unusedVariables false
set_option linter.unusedSimpArgs false
theorem impl_IsExchangeList.zeroB (w : World) : (zeroValue 4).run Try.prog w = .ok (.bool false) w := by kernel_rfl
theorem impl_IsExchangeList.mt : Try.prog.underlying 77 = some (.map 3 4) := Try.underlying77
theorem impl_IsExchangeList.mk_ : Try.prog.underlying 3 = some (.int .i64) := Try.underlying3
theorem impl_IsExchangeList.me : Try.prog.underlying 4 = some .bool := Try.underlying4
def impl_IsExchangeList.g0 : Nat → Int → Int → List (List Int) → Int → List Int → Option Bool
 | 0, _, _, _, _, _ => none
 | k + 1, n, kk, L, i, met => if i < (L.length : Int) then (if 0 ≤ i then (if i < 1000000 then (if ((rd_L2 L i).length : Int) = kk then ((impl_combinationRank.f k n (rd_L2 L i)).bind fun r => (if (Lit.int .i64 r).wf = true then (if r ∈ met then (some false) else (if met.length < 1000000 then (if i = 0 then (impl_IsExchangeList.g0 k n kk L (wrap64 (i + 1)) (r :: met)) else ((impl_exchange.f k (rd_L2 L (i - 1)) (rd_L2 L i)).bind fun x => (if x.2.2 = true then ((impl_anyExchange.f x.1 x.2.1).bind fun m => (if m = true then (impl_IsExchangeList.g0 k n kk L (wrap64 (i + 1)) (r :: met)) else (some false))) else (some false)))) else none)) else none)) else (some false)) else none) else none) else ((impl_binomial.f k n kk).bind fun b => (some ((L.length : Int) == b)))
theorem impl_IsExchangeList.g0_mono : ∀ k n kk L i met, LeO (impl_IsExchangeList.g0 k n kk L i met) (impl_IsExchangeList.g0 (k + 1) n kk L i met)
 | 0, _, _, _, _, _ => fun r h => by simp [impl_IsExchangeList.g0] at h
 | k + 1, n, kk, L, i, met => by
  unfold impl_IsExchangeList.g0
  exact LeO.ite (LeO.ite (LeO.ite (LeO.ite (LeO.bind (impl_combinationRank.mono _ _ _) (fun _ => LeO.ite (LeO.ite (LeO.refl _) (LeO.ite (LeO.ite (impl_IsExchangeList.g0_mono k _ _ _ _ _) (LeO.bind (impl_exchange.mono _ _ _) (fun _ => LeO.ite (LeO.bind (LeO.refl _) (fun _ => LeO.ite (impl_IsExchangeList.g0_mono k _ _ _ _ _) (LeO.refl _))) (LeO.refl _)))) (LeO.none _))) (LeO.none _))) (LeO.refl _)) (LeO.none _)) (LeO.none _)) (LeO.bind (impl_binomial.mono _ _ _) (fun _ => LeO.refl _))
open Go.Proofs.Ytmkokfljonbcmaa.MapSet in
set_option maxHeartbeats 8000000 in
set_option maxRecDepth 100000 in
theorem impl_IsExchangeList.goes (k : Nat) (n kk : Int) (A2 : Option Addr) (c2 : Nat) (L : List (List Int)) (r : Bool) (w : World) (hr2 : Kd.C (Kd.slice 3 (Kd.int .i64)) w A2 L.length L) (hc2 : L.length ≤ c2) (h : impl_IsExchangeList.g0 k n kk L 0 [] = some r) :
  Calls Try.prog 48 #[.int .i64 n, .int .i64 kk, .slice A2 L.length c2, .func (Fn.func 64) #[] #[]] w fun e w' => e = .returned (.bool r) ∧ Below w.heap.size w w' := by
 have HR := Aside0.mk hr2
 have HC := Aside0.mk hc2
 have H' := Aside0.mk h
 have hmm := @run_makeMap Try.prog
 clear hr2 hc2 h
 go_enter Try.func48, Try.ntmps48
 go_wp2
 have HM := Aside0.mk (MSet.made w Try.prog 3 4)
 have HB := Aside0.mk (below_alloc (Below.refl w.heap.size w) (.map #[] 0))
 clear hmm
 go_loopg [18] k (fun kq v18 w' => ∃ (i : Int) (met : List Int), v18 = .int .i64 i ∧ Aside0 (impl_IsExchangeList.g0 kq n kk L i met = some r) ∧ Aside0 (kq ≤ k) ∧ Aside0 (MSet Try.prog 3 4 w' w.heap.size met) ∧ Aside0 (Below w.heap.size w w'))
 case atStart => exact ⟨0, [], rfl, H', ⟨Nat.le_refl _⟩, HM, HB⟩
 case round =>
  clear H' HM HB
  obtain ⟨i, met, rfl, HA, HK1, HM, HB⟩ := hrel
  cases gk with
  | zero => exact absurd HA.out (by simp [impl_IsExchangeList.g0])
  | succ k1 =>
   have H := HA.out
   clear HA
   simp only [impl_IsExchangeList.g0] at H
   by_cases c : i < (L.length : Int)
   rotate_left
   ·rw [if_neg c] at H
    have cb : decide (i < (L.length : Int)) = false := decide_eq_false c
    clear c
    obtain ⟨b, hb, H⟩ := Option.bind_eq_some_iff.mp H
    obtain rfl := Option.some.inj H
    have HBN := Aside0.mk hb
    clear hb H
    go_wp2_with fail
    refine (impl_binomial.calls k1 n kk b _ HBN.out).mono ?_
    rintro e w3 ⟨rfl, hd⟩
    have HB3 := Aside0.mk (HB.out.trans ((Drawn0.below hd).mono HB.out.size))
    clear hd
    go_wp2
    go_ret
    exact ⟨by first | rfl | simp, HB3.out⟩
   rw [if_pos c] at H
   have cb : decide (i < (L.length : Int)) = true := decide_eq_true c
   by_cases p : 0 ≤ i
   rotate_left
   ·rw [if_neg p] at H; cases H
   rw [if_pos p] at H
   by_cases p3 : i < 1000000
   rotate_left
   ·rw [if_neg p3] at H; cases H
   rw [if_pos p3] at H
   obtain ⟨ad, Ai, ci, ead, hxe, hle, hie⟩ := at_L2 HR.out i p c
   cases ead
   have HIE := Aside0.mk hie
   have HLE := Aside0.mk hle
   have HXE := Aside0.mk hxe
   replace hxe := (HB.out.cell (World.block_lt_of_cell? w _ hxe)).trans hxe
   have pb : (0 ≤ i) = True := eq_true p
   have qb : (i < (L.length : Int)) = True := eq_true c
   have P0 := Aside0.mk p
   have PC := Aside0.mk c
   have P3 := Aside0.mk p3
   clear p c p3 hle hie
   by_cases cl : ((rd_L2 L i).length : Int) = kk
   rotate_left
   ·rw [if_neg cl] at H
    have cb1 : (((rd_L2 L i).length : Int) == kk) = false := beq_eq_false_iff_ne.mpr cl
    have cb2 : (((rd_L2 L i).length : Int) != kk) = true := by simp [cb1, bne]
    clear cl
    obtain rfl := Option.some.inj H
    clear H
    go_wp2
    go_ret
    exact ⟨rfl, HB.out⟩
   rw [if_pos cl] at H
   have cb1 : (((rd_L2 L i).length : Int) == kk) = true := beq_iff_eq.mpr cl
   have cb2 : (((rd_L2 L i).length : Int) != kk) = false := by simp [cb1, bne]
   clear cl
   obtain ⟨q, hq, H⟩ := Option.bind_eq_some_iff.mp H
   by_cases cw : (Lit.int .i64 q).wf = true
   rotate_left
   ·rw [if_neg cw] at H; cases H
   rw [if_pos cw] at H
   have HQ := Aside0.mk hq
   have HW := Aside0.mk cw
   clear hq cw
   by_cases cm : q ∈ met
   ·rw [if_pos cm] at H
    have cm1 : decide (q ∈ met) = true := decide_eq_true cm
    clear cm
    obtain rfl := Option.some.inj H
    clear H
    go_wp2_with fail
    refine (impl_combinationRank.calls k1 n Ai ci (rd_L2 L i) q _ (Kd.C_below HIE.out HB.out) HLE.out HQ.out).mono ?_
    rintro e w3 ⟨rfl, hd⟩
    have HB3 := Aside0.mk (HB.out.trans ((Drawn0.below hd).mono HB.out.size))
    have HM3 := Aside0.mk (HM.out.below (Drawn0.below hd))
    clear hd hxe HB HM
    go_wp2_with (first | ((try (refine gate_guard (by rfl) ?_; dsimp only)); (with_reducible refine wpList_lookup rfl (.tmp 28) (.tmp 31) rfl impl_IsExchangeList.mt impl_IsExchangeList.mk_ impl_IsExchangeList.me (impl_IsExchangeList.zeroB _) rfl HM3.out q HW.out rfl ?_); rw [cm1]))
    go_ret
    exact ⟨rfl, HB3.out⟩
   rw [if_neg cm] at H
   have cm1 : decide (q ∈ met) = false := decide_eq_false cm
   by_cases cml : met.length < 1000000
   rotate_left
   ·rw [if_neg cml] at H; cases H
   rw [if_pos cml] at H
   have HML := Aside0.mk cml
   have HNM := Aside0.mk cm
   clear cm cml
   by_cases ci0 : i = 0
   ·rw [if_pos ci0] at H
    have Hn := Aside0.mk H
    have ci1 : (i == 0) = true := beq_iff_eq.mpr ci0
    clear ci0 H
    go_wp2_with fail
    refine (impl_combinationRank.calls k1 n Ai ci (rd_L2 L i) q _ (Kd.C_below HIE.out HB.out) HLE.out HQ.out).mono ?_
    rintro e w3 ⟨rfl, hd⟩
    have HB3 := Aside0.mk (HB.out.trans ((Drawn0.below hd).mono HB.out.size))
    have HM3 := Aside0.mk (HM.out.below (Drawn0.below hd))
    clear hd hxe HB HM
    go_wp2_with (first | ((try (refine gate_guard (by rfl) ?_; dsimp only)); (with_reducible refine wpList_lookup rfl (.tmp 28) (.tmp 31) rfl impl_IsExchangeList.mt impl_IsExchangeList.mk_ impl_IsExchangeList.me (impl_IsExchangeList.zeroB _) rfl HM3.out q HW.out rfl ?_); rw [cm1]) | fail)
    refine (impl_combinationRank.calls k1 n Ai ci (rd_L2 L i) q _ (Kd.C_below HIE.out HB3.out) HLE.out HQ.out).mono ?_
    rintro e w4 ⟨rfl, hd⟩
    have HB4 := Aside0.mk (HB3.out.trans ((Drawn0.below hd).mono HB3.out.size))
    have HM4 := Aside0.mk (HM3.out.below (Drawn0.below hd))
    clear hd HB3 HM3
    go_wp2_with (first | ((with_reducible refine wpList_store rfl (.tmp 34) (.tmp 37) (.const (.bool true)) rfl impl_IsExchangeList.mt impl_IsExchangeList.mk_ impl_IsExchangeList.me rfl HM4.out ?hn q HW.out rfl rfl ?_); (case hn => have := HML.out; unfold maxLen; omega); intro w5 hm5 hg5; have HM5 := Aside0.mk (show MSet Try.prog 3 4 w5 w.heap.size (q :: met) by rw [if_neg HNM.out] at hm5; exact hm5); have HB5 := Aside0.mk (HB4.out.grown hg5 HB4.out.size (fun j hj => by cases hj; exact Nat.le_refl _)); clear hm5 hg5 HM4 HB4))
    go_roundg k1
    case measure => have := HK1.out; omega
    case rel => exact ⟨wrap64 (i + 1), q :: met, rfl, Hn, ⟨by have := HK1.out; omega⟩, HM5, HB5⟩
   rw [if_neg ci0] at H
   have ci1 : (i == 0) = false := beq_eq_false_iff_ne.mpr ci0
   obtain ⟨⟨x, y, ok⟩, hx, H⟩ := Option.bind_eq_some_iff.mp H
   have HX := Aside0.mk hx
   obtain ⟨ad', Ap, cp, ead', hxp, hlp, hip⟩ := at_L2 HR.out (i - 1) (by have := P0.out; omega) (by have := PC.out; omega)
   cases ead'
   have hw1 : IntKind.i64.wrap (i - 1) = i - 1 := IntWalk.i64_in _ (by have := P0.out; have := P3.out; omega)
   have hmin : (i - 1).toNat = i.toNat - 1 := by omega
   rw [hmin] at hxp
   have HXP := Aside0.mk hxp
   have HIP := Aside0.mk hip
   have HLP := Aside0.mk hlp
   have q0 : (0 ≤ i - 1) = True := eq_true (by have := P0.out; omega)
   have q0' : (1 ≤ i) = True := eq_true (by have := P0.out; omega)
   have q1 : (i - 1 < (L.length : Int)) = True := eq_true (by have := PC.out; omega)
   clear ci0 hx hxp hip hlp hmin
   go_wp2_with fail
   refine (impl_combinationRank.calls k1 n Ai ci (rd_L2 L i) q _ (Kd.C_below HIE.out HB.out) HLE.out HQ.out).mono ?_
   rintro e w3 ⟨rfl, hd⟩
   have HB3 := Aside0.mk (HB.out.trans ((Drawn0.below hd).mono HB.out.size))
   have HM3 := Aside0.mk (HM.out.below (Drawn0.below hd))
   clear hd hxe HB HM
   go_wp2_with (first | ((try (refine gate_guard (by rfl) ?_; dsimp only)); (with_reducible refine wpList_lookup rfl (.tmp 28) (.tmp 31) rfl impl_IsExchangeList.mt impl_IsExchangeList.mk_ impl_IsExchangeList.me (impl_IsExchangeList.zeroB _) rfl HM3.out q HW.out rfl ?_); rw [cm1]) | fail)
   refine (impl_combinationRank.calls k1 n Ai ci (rd_L2 L i) q _ (Kd.C_below HIE.out HB3.out) HLE.out HQ.out).mono ?_
   rintro e w4 ⟨rfl, hd⟩
   have HB4 := Aside0.mk (HB3.out.trans ((Drawn0.below hd).mono HB3.out.size))
   have HM4 := Aside0.mk (HM3.out.below (Drawn0.below hd))
   clear hd HB3 HM3
   go_wp2_with (first | ((with_reducible refine wpList_store rfl (.tmp 34) (.tmp 37) (.const (.bool true)) rfl impl_IsExchangeList.mt impl_IsExchangeList.mk_ impl_IsExchangeList.me rfl HM4.out ?hn q HW.out rfl rfl ?_); (case hn => have := HML.out; unfold maxLen; omega); intro w5 hm5 hg5; have HM5 := Aside0.mk (show MSet Try.prog 3 4 w5 w.heap.size (q :: met) by rw [if_neg HNM.out] at hm5; exact hm5); have HB5 := Aside0.mk (HB4.out.grown hg5 HB4.out.size (fun j hj => by cases hj; exact Nat.le_refl _)); have hxp5 := (HB5.out.cell (World.block_lt_of_cell? w _ HXP.out)).trans HXP.out; clear hm5 hg5 HM4 HB4))
   refine (impl_exchange.calls k1 Ap cp (rd_L2 L (i - 1)) Ai ci (rd_L2 L i) x y ok _ (Kd.C_below HIP.out HB5.out) HLP.out (Kd.C_below HIE.out HB5.out) HLE.out HX.out).mono ?_
   rintro e w6 ⟨rfl, hb6⟩
   have HB6 := Aside0.mk (HB5.out.trans (hb6.mono HB5.out.size))
   have HM6 := Aside0.mk (HM5.out.below hb6)
   clear hb6 hxp5 HB5 HM5 hw1 q0 q0' q1
   cases ok
   ·simp only [Bool.false_eq_true, if_false] at H
    obtain rfl := Option.some.inj H
    clear H
    go_wp2
    go_ret
    exact ⟨rfl, HB6.out⟩
   simp only [if_true] at H
   obtain ⟨m, hm, H⟩ := Option.bind_eq_some_iff.mp H
   have HMY := Aside0.mk hm
   clear hm
   cases m
   ·simp only [Bool.false_eq_true, if_false] at H
    obtain rfl := Option.some.inj H
    clear H
    go_wp2_with fail
    refine (impl_anyExchange.calls x y false _ HMY.out).mono ?_
    rintro e w7 ⟨rfl, hd⟩
    have HB7 := Aside0.mk (HB6.out.trans ((by first | exact hd | exact Drawn0.below hd : Below w6.heap.size w6 w7).mono HB6.out.size))
    clear hd
    go_wp2
    go_ret
    exact ⟨rfl, HB7.out⟩
   ·simp only [if_true] at H
    have Hn := Aside0.mk H
    clear H
    go_wp2_with fail
    refine (impl_anyExchange.calls x y true _ HMY.out).mono ?_
    rintro e w7 ⟨rfl, hd⟩
    have hb7 : Below w6.heap.size w6 w7 := by first | exact hd | exact Drawn0.below hd
    have HB7 := Aside0.mk (HB6.out.trans (hb7.mono HB6.out.size))
    have HM7 := Aside0.mk (HM6.out.below hb7)
    clear hd hb7 HB6 HM6
    go_wp2
    go_roundg k1
    case measure => have := HK1.out; omega
    case rel => exact ⟨wrap64 (i + 1), q :: met, rfl, Hn, ⟨by have := HK1.out; omega⟩, HM7, HB7⟩
def impl_IsExchangeList.f (k : Nat) (a0 a1 : Int) (l2 : List (List Int)) : Option (Bool × Bool) := (impl_isChoice.f a0 a1).bind fun t => (if t = true then ((impl_areCombinations.f k a0 l2).bind fun u => (if u = true then ((impl_IsExchangeList.g0 k a0 a1 l2 0 []).bind fun r => some (r, true)) else some (false, false))) else some (false, false))
theorem impl_IsExchangeList.mono : ∀ a0 a1 a2 k, LeO (impl_IsExchangeList.f k a0 a1 a2) (impl_IsExchangeList.f (k + 1) a0 a1 a2) := by
 intro a0 a1 a2 k
 unfold impl_IsExchangeList.f
 exact LeO.bind (LeO.refl _) (fun _ => LeO.ite (LeO.bind (impl_areCombinations.mono _ _ _) (fun _ => LeO.ite (LeO.bind (impl_IsExchangeList.g0_mono _ _ _ _ _ _) (fun _ => LeO.refl _)) (LeO.refl _))) (LeO.refl _))
set_option maxHeartbeats 8000000 in
set_option maxRecDepth 100000 in
theorem impl_IsExchangeList.calls (k : Nat) (a0 a1 : Int) (A2 : Option Addr) (c2 : Nat) (l2 : List (List Int)) (r1 r2 : Bool) (w : World) (hr2 : Kd.C (Kd.slice 3 (Kd.int .i64)) w A2 l2.length l2) (hc2 : l2.length ≤ c2) (h : impl_IsExchangeList.f k a0 a1 l2 = some (r1, r2)) :
  Calls Try.prog 24 #[.int .i64 a0, .int .i64 a1, .slice A2 l2.length c2] w fun e w' => e = .returned (.tuple #[.bool r1, .bool r2]) ∧ Below w.heap.size w w' := by
 have HR := Aside0.mk hr2
 have HC := Aside0.mk hc2
 unfold impl_IsExchangeList.f at h
 obtain ⟨t1, h1, H⟩ := Option.bind_eq_some_iff.mp h
 have T1 := Aside0.mk h1
 clear h h1 hr2 hc2
 cases t1
 ·simp only [Bool.false_eq_true, if_false, Option.some.injEq, Prod.mk.injEq] at H
  obtain ⟨rfl, rfl⟩ := H
  go_enter Try.func24, Try.ntmps24
  go_wp2_with fail
  refine (impl_isChoice.calls a0 a1 false _ T1.out).mono ?_
  rintro e w1 ⟨rfl, hd⟩
  have HB1 := Aside0.mk (Drawn0.below hd)
  clear hd
  go_wp2
  go_ret2
  exact ⟨rfl, HB1.out⟩
 simp only [if_true] at H
 obtain ⟨t2, h2, H⟩ := Option.bind_eq_some_iff.mp H
 have T2 := Aside0.mk h2
 clear h2
 cases t2
 ·simp only [Bool.false_eq_true, if_false, Option.some.injEq, Prod.mk.injEq] at H
  obtain ⟨rfl, rfl⟩ := H
  go_enter Try.func24, Try.ntmps24
  go_wp2_with fail
  refine (impl_isChoice.calls a0 a1 true _ T1.out).mono ?_
  rintro e w1 ⟨rfl, hd⟩
  have HB1 := Aside0.mk (Drawn0.below hd)
  clear hd
  go_wp2_with fail
  refine (impl_areCombinations.calls k a0 A2 c2 l2 false _ (Kd.C_below HR.out HB1.out) HC.out T2.out).mono ?_
  rintro e w2 ⟨rfl, hd⟩
  have HB2 := Aside0.mk (HB1.out.trans ((Drawn0.below hd).mono HB1.out.size))
  clear hd
  go_wp2
  go_ret2
  exact ⟨rfl, HB2.out⟩
 simp only [if_true] at H
 obtain ⟨r, hr, H⟩ := Option.bind_eq_some_iff.mp H
 simp only [Option.some.injEq, Prod.mk.injEq] at H
 obtain ⟨rfl, rfl⟩ := H
 have T3 := Aside0.mk hr
 clear hr
 go_enter Try.func24, Try.ntmps24
 go_wp2_with fail
 refine (impl_isChoice.calls a0 a1 true _ T1.out).mono ?_
 rintro e w1 ⟨rfl, hd⟩
 have HB1 := Aside0.mk (Drawn0.below hd)
 clear hd
 go_wp2_with fail
 refine (impl_areCombinations.calls k a0 A2 c2 l2 true _ (Kd.C_below HR.out HB1.out) HC.out T2.out).mono ?_
 rintro e w2 ⟨rfl, hd⟩
 have HB2 := Aside0.mk (HB1.out.trans ((Drawn0.below hd).mono HB1.out.size))
 clear hd
 go_wp2_with fail
 refine (impl_IsExchangeList.goes k a0 a1 A2 c2 l2 r _ (Kd.C_below HR.out HB2.out) HC.out T3.out).mono ?_
 rintro e w3 ⟨rfl, hb⟩
 have HB3 := Aside0.mk (HB2.out.trans (hb.mono HB2.out.size))
 clear hb
 go_wp2
 go_ret2
 exact ⟨rfl, HB3.out⟩
def spec_chLists.l0 : Nat → Int → List (List Int) → List (List Int) → Int → Int → Option (Bool)
 | 0, _, _, _, _, _ => none
 | k + 1, x0, x1, x7, x8, x9 => if x9 < x8 then (if 0 ≤ x9 then (if x9 < (x7.length : Int) then ((spec_raCombination.f k x0 (rd_L2 x7 x9)).bind fun t454 => (if t454 = true then (spec_chLists.l0 k x0 x1 x7 x8 (wrap64 (x9 + 1))) else (some false))) else (none)) else (none)) else ((spec_raItems.f x0).bind fun t455 => (if t455 = true then (some (decide ((x1.length : Int) ≤ 1100))) else (some false)))
def spec_chLists.f (k : Nat) (a0 : Int) (l1 : List (List Int)) : Option (Bool) := spec_chLists.l0 k a0 l1 l1 (l1.length : Int) 0
theorem spec_chLists.mono_l : ∀ k, (∀ y0 y1 y2 y3 y4, LeO (spec_chLists.l0 k y0 y1 y2 y3 y4) (spec_chLists.l0 (k + 1) y0 y1 y2 y3 y4))
 | 0 => fun _ _ _ _ _ r h => by simp [spec_chLists.l0] at h
 | k + 1 => by
  have ih0 := spec_chLists.mono_l k
  ·intro y0 y1 y2 y3 y4
   unfold spec_chLists.l0
   repeat' first
   | (with_reducible exact ih0 _ _ _ _ _)
   | (with_reducible exact spec_raCombination.mono _ _ _)
   | (with_reducible exact LeO.refl _)
   | (with_reducible exact LeO.none _)
   | (with_reducible refine LeO.ite ?_ ?_)
   | (with_reducible refine LeO.bind ?_ (fun _ => ?_))
   | exact ih0 _ _ _ _ _
   | exact spec_raCombination.mono _ _ _
   | exact LeO.none _
   | refine LeO.ite ?_ ?_
   | refine LeO.bind ?_ (fun _ => ?_)
theorem spec_chLists.mono : ∀ a0 a1 k, LeO (spec_chLists.f k a0 a1) (spec_chLists.f (k + 1) a0 a1) := by
 intro a0 a1 k
 have ih0 := spec_chLists.mono_l k
 unfold spec_chLists.f
 repeat' first
   | (with_reducible exact ih0 _ _ _ _ _)
   | (with_reducible exact spec_raCombination.mono _ _ _)
   | (with_reducible exact LeO.refl _)
   | (with_reducible exact LeO.none _)
   | (with_reducible refine LeO.ite ?_ ?_)
   | (with_reducible refine LeO.bind ?_ (fun _ => ?_))
   | exact ih0 _ _ _ _ _
   | exact spec_raCombination.mono _ _ _
   | exact LeO.none _
   | refine LeO.ite ?_ ?_
   | refine LeO.bind ?_ (fun _ => ?_)
set_option maxHeartbeats 8000000 in
set_option maxRecDepth 100000 in
theorem spec_chLists.calls (k : Nat) (a0 : Int) (A1 : Option Addr) (c1 : Nat) (l1 : List (List Int)) (r : Bool) (w : World) (hr1 : Kd.C (Kd.slice 3 (Kd.int .i64)) w A1 l1.length l1) (hc1 : l1.length ≤ c1) (h : spec_chLists.f k a0 l1 = some r) :
  Calls Try.prog 65 #[.int .i64 a0, .slice A1 l1.length c1] w fun e w' => e = .returned (.bool r) ∧ Drawn0 w w' := by
 have HR1 := Aside0.mk hr1
 have HC1 := Aside0.mk hc1
 clear hr1 hc1
 have H : (spec_chLists.l0 k a0 l1 l1 (l1.length : Int) 0) = some r := h
 clear h
 have H' := Aside0.mk H
 clear H
 go_enter Try.func65, Try.ntmps65
 go_wp2
 go_loopg [9] k (fun kq v9 w' => ∃ (x9_1 : Int), v9 = .int .i64 x9_1 ∧ Aside0 (spec_chLists.l0 kq a0 l1 l1 (l1.length : Int) x9_1 = some r) ∧ Aside0 (kq ≤ k) ∧ Drawn0 w w')
 case atStart => exact ⟨(0), (by first | rfl | (simp; done) | (simp [*]; done)), H', ⟨Nat.le_refl _⟩, by repeat (first | exact Drawn0.refl _ | apply Drawn0.step)⟩
 case round =>
  clear H'
  try clear c1
  try clear p2
  obtain ⟨x9_1, rfl, HA, HK1, ⟨m1, rfl⟩⟩ := hrel
  cases gk with
  | zero => exact absurd HA.out (by simp [spec_chLists.l0])
  | succ k1 =>
   have H := HA.out
   clear HA
   simp only [spec_chLists.l0] at H
   by_cases c3 : x9_1 < (l1.length : Int)
   ·rw [if_pos c3] at H
    have c3b0 : decide (x9_1 < (l1.length : Int)) = true := decide_eq_true c3
    clear c3
    by_cases c4 : 0 ≤ x9_1
    ·rw [if_pos c4] at H
     have c4b0 : decide (0 ≤ x9_1) = true := decide_eq_true c4
     clear c4
     by_cases c5 : x9_1 < (l1.length : Int)
     ·rw [if_pos c5] at H
      have c5b0 : decide (x9_1 < (l1.length : Int)) = true := decide_eq_true c5
      clear c5
      replace H := Option.bind_eq_some_iff.mp H
      obtain ⟨t454, A60, H⟩ := H
      replace H : (if t454 = true then (spec_chLists.l0 k1 a0 l1 l1 (l1.length : Int) (wrap64 (x9_1 + 1))) else (some false)) = some r := H
      have A6 := Aside0.mk A60
      clear A60
      by_cases c7 : t454 = true
      ·subst c7
       have H1 : (spec_chLists.l0 k1 a0 l1 l1 (l1.length : Int) (wrap64 (x9_1 + 1))) = some r := by rw [if_pos rfl] at H; exact H
       clear H
       have H := H1
       clear H1
       have H' := Aside0.mk H
       clear H
       have p453 : 0 ≤ (x9_1 : Int) := of_decide_eq_true (by first | (with_reducible assumption) | assumption)
       have q453 : x9_1 < (l1.length : Int) := of_decide_eq_true (by first | (with_reducible assumption) | assumption)
       obtain ⟨ad453, A453_0, c453_0, e453, hx453_0, hl453_0, hi453_0⟩ := at_L2 HR1.out x9_1 p453 q453
       cases e453
       have HR453_0 := Aside0.mk hi453_0
       have HC453_0 := Aside0.mk hl453_0
       clear hi453_0 hl453_0
       replace p453 := eq_true p453
       replace q453 := eq_true q453
       go_wp2_with (first | ((with_reducible refine gate_callee (f := 61) rfl ?_); refine goesL_ (some 15) rfl rfl Try.func61 (by kernel_rfl) rfl #[.int .i64 a0, .slice A453_0 (rd_L2 l1 x9_1).length c453_0] rfl (by (try simp only [List.map_toArray, List.map_cons, List.map_nil]); first | done | rfl | (simp only [List.length_drop, List.length_take]; rfl)) ?_; (with_reducible refine (spec_raCombination.calls k1 a0 _ _ (rd_L2 l1 x9_1) true _ ?side1 ?side2 A6.out).mono ?_); (case side1 => repeat (first | exact HR453_0.out | (with_reducible refine Kd.C_alloc ?_ _) | (with_reducible refine Kd.C_drewN ?_ _) | (with_reducible refine Kd.C_drew ?_))); (case side2 => exact HC453_0.out); rintro e w' ⟨rfl, ⟨nd, rfl⟩⟩; refine ⟨_, rfl, ?_⟩))
       go_roundg k1
       case measure => have := HK1.out; omega
       case rel => exact ⟨(wrap64 (x9_1 + 1)), (by first | rfl | (simp; done) | (simp [*]; done)), H', ⟨by have := HK1.out; omega⟩, by repeat (first | exact Drawn0.refl _ | apply Drawn0.step)⟩
      ·replace c7 := Bool.eq_false_iff.mpr c7
       subst c7
       have H1 : (some false) = some r := by rw [if_neg (show ¬ (false = true) by decide)] at H; exact H
       clear H
       have H := H1
       clear H1
       obtain rfl := Option.some.inj H
       have p453 : 0 ≤ (x9_1 : Int) := of_decide_eq_true (by first | (with_reducible assumption) | assumption)
       have q453 : x9_1 < (l1.length : Int) := of_decide_eq_true (by first | (with_reducible assumption) | assumption)
       obtain ⟨ad453, A453_0, c453_0, e453, hx453_0, hl453_0, hi453_0⟩ := at_L2 HR1.out x9_1 p453 q453
       cases e453
       have HR453_0 := Aside0.mk hi453_0
       have HC453_0 := Aside0.mk hl453_0
       clear hi453_0 hl453_0
       replace p453 := eq_true p453
       replace q453 := eq_true q453
       go_wp2_with (first | ((with_reducible refine gate_callee (f := 61) rfl ?_); refine goesL_ (some 15) rfl rfl Try.func61 (by kernel_rfl) rfl #[.int .i64 a0, .slice A453_0 (rd_L2 l1 x9_1).length c453_0] rfl (by (try simp only [List.map_toArray, List.map_cons, List.map_nil]); first | done | rfl | (simp only [List.length_drop, List.length_take]; rfl)) ?_; (with_reducible refine (spec_raCombination.calls k1 a0 _ _ (rd_L2 l1 x9_1) false _ ?side1 ?side2 A6.out).mono ?_); (case side1 => repeat (first | exact HR453_0.out | (with_reducible refine Kd.C_alloc ?_ _) | (with_reducible refine Kd.C_drewN ?_ _) | (with_reducible refine Kd.C_drew ?_))); (case side2 => exact HC453_0.out); rintro e w' ⟨rfl, ⟨nd, rfl⟩⟩; refine ⟨_, rfl, ?_⟩))
       go_ret
       exact ⟨by first | rfl | (simp; done) | (simp [*]; done), by repeat (first | exact Drawn0.refl _ | apply Drawn0.step)⟩
     ·rw [if_neg c5] at H
      exact absurd H (by simp)
    ·rw [if_neg c4] at H
     exact absurd H (by simp)
   ·rw [if_neg c3] at H
    have c3b0 : decide (x9_1 < (l1.length : Int)) = false := decide_eq_false c3
    clear c3
    replace H := Option.bind_eq_some_iff.mp H
    obtain ⟨t455, A80, H⟩ := H
    replace H : (if t455 = true then (some (decide ((l1.length : Int) ≤ 1100))) else (some false)) = some r := H
    have A8 := Aside0.mk A80
    clear A80
    by_cases c9 : t455 = true
    ·subst c9
     have H1 : (some (decide ((l1.length : Int) ≤ 1100))) = some r := by rw [if_pos rfl] at H; exact H
     clear H
     have H := H1
     clear H1
     obtain rfl := Option.some.inj H
     go_wp2_with (first | ((with_reducible refine gate_callee (f := 75) rfl ?_); refine goesL_ (some 19) rfl rfl Try.func75 (by kernel_rfl) rfl #[.int .i64 a0] rfl (by (try simp only [List.map_toArray, List.map_cons, List.map_nil]); first | done | rfl | (simp only [List.length_drop, List.length_take]; rfl)) ?_; (with_reducible refine (spec_raItems.calls a0 true _ A8.out).mono ?_); rintro e w' ⟨rfl, ⟨nd, rfl⟩⟩; refine ⟨_, rfl, ?_⟩))
     go_ret
     exact ⟨by first | rfl | (simp; done) | (simp [*]; done), by repeat (first | exact Drawn0.refl _ | apply Drawn0.step)⟩
    ·replace c9 := Bool.eq_false_iff.mpr c9
     subst c9
     have H1 : (some false) = some r := by rw [if_neg (show ¬ (false = true) by decide)] at H; exact H
     clear H
     have H := H1
     clear H1
     obtain rfl := Option.some.inj H
     go_wp2_with (first | ((with_reducible refine gate_callee (f := 75) rfl ?_); refine goesL_ (some 19) rfl rfl Try.func75 (by kernel_rfl) rfl #[.int .i64 a0] rfl (by (try simp only [List.map_toArray, List.map_cons, List.map_nil]); first | done | rfl | (simp only [List.length_drop, List.length_take]; rfl)) ?_; (with_reducible refine (spec_raItems.calls a0 false _ A8.out).mono ?_); rintro e w' ⟨rfl, ⟨nd, rfl⟩⟩; refine ⟨_, rfl, ?_⟩))
     go_ret
     exact ⟨by first | rfl | (simp; done) | (simp [*]; done), by repeat (first | exact Drawn0.refl _ | apply Drawn0.step)⟩
def spec_raBinomial.f : Nat → Int → Int → Option (Int)
 | 0, _, _ => none
 | k + 1, a0, a1 => if a1 = 0 then (some 1) else (if a0 = 0 then (some 0) else ((spec_raBinomial.f k (wrap64 (a0 - 1)) a1).bind fun t456 => ((spec_raBinomial.f k (wrap64 (a0 - 1)) (wrap64 (a1 - 1))).bind fun t457 => (some (wrap64 (t456 + t457))))))
theorem spec_raBinomial.mono_l : ∀ k, (∀ y0 y1, LeO (spec_raBinomial.f k y0 y1) (spec_raBinomial.f (k + 1) y0 y1))
 | 0 => fun _ _ r h => by simp [spec_raBinomial.f] at h
 | k + 1 => by
  have ih0 := spec_raBinomial.mono_l k
  ·intro y0 y1
   unfold spec_raBinomial.f
   repeat' first
   | (with_reducible exact ih0 _ _)
   | (with_reducible exact LeO.refl _)
   | (with_reducible exact LeO.none _)
   | (with_reducible refine LeO.ite ?_ ?_)
   | (with_reducible refine LeO.bind ?_ (fun _ => ?_))
   | exact ih0 _ _
   | exact LeO.none _
   | refine LeO.ite ?_ ?_
   | refine LeO.bind ?_ (fun _ => ?_)
theorem spec_raBinomial.mono : ∀ a0 a1 k, LeO (spec_raBinomial.f k a0 a1) (spec_raBinomial.f (k + 1) a0 a1) := by
 intro a0 a1 k
 have ih0 := spec_raBinomial.mono_l k
 exact ih0 a0 a1
set_option maxHeartbeats 8000000 in
set_option maxRecDepth 100000 in
theorem spec_raBinomial.calls (k : Nat) : ∀ (a0 : Int) (a1 : Int) (r : Int) (w : World) (h : spec_raBinomial.f k a0 a1 = some r),
  Calls Try.prog 84 #[.int .i64 a0, .int .i64 a1] w fun e w' => e = .returned (.int .i64 r) ∧ Drawn0 w w' := by
 induction k using Nat.strongRecOn with
 | _ k ih =>
 intro a0 a1 r w h
 cases k with
 | zero => exact absurd h (by simp [spec_raBinomial.f])
 | succ k =>
 simp only [spec_raBinomial.f] at h
 have H : (if a1 = 0 then (some 1) else (if a0 = 0 then (some 0) else ((spec_raBinomial.f k (wrap64 (a0 - 1)) a1).bind fun t456 => ((spec_raBinomial.f k (wrap64 (a0 - 1)) (wrap64 (a1 - 1))).bind fun t457 => (some (wrap64 (t456 + t457))))))) = some r := h
 clear h
 by_cases c3 : a1 = 0
 ·rw [if_pos c3] at H
  have c3b0 : (a1 == 0) = true := beq_iff_eq.mpr c3
  have c3b1 : (a1 != 0) = false := bne_eq_false_iff_eq.mpr c3
  clear c3
  obtain rfl := Option.some.inj H
  go_enter Try.func84, Try.ntmps84
  go_wp2
  go_ret
  exact ⟨by first | rfl | (simp; done) | (simp [*]; done), by repeat (first | exact Drawn0.refl _ | apply Drawn0.step)⟩
 ·rw [if_neg c3] at H
  have c3b0 : (a1 == 0) = false := beq_eq_false_iff_ne.mpr c3
  have c3b1 : (a1 != 0) = true := bne_iff_ne.mpr c3
  by_cases c4 : a0 = 0
  ·rw [if_pos c4] at H
   have c4b0 : (a0 == 0) = true := beq_iff_eq.mpr c4
   have c4b1 : (a0 != 0) = false := bne_eq_false_iff_eq.mpr c4
   clear c4
   obtain rfl := Option.some.inj H
   go_enter Try.func84, Try.ntmps84
   go_wp2
   go_ret
   exact ⟨by first | rfl | (simp; done) | (simp [*]; done), by repeat (first | exact Drawn0.refl _ | apply Drawn0.step)⟩
  ·rw [if_neg c4] at H
   have c4b0 : (a0 == 0) = false := beq_eq_false_iff_ne.mpr c4
   have c4b1 : (a0 != 0) = true := bne_iff_ne.mpr c4
   replace H := Option.bind_eq_some_iff.mp H
   obtain ⟨t456, A50, H⟩ := H
   replace H : ((spec_raBinomial.f k (wrap64 (a0 - 1)) (wrap64 (a1 - 1))).bind fun t457 => (some (wrap64 (t456 + t457)))) = some r := H
   have A5 := Aside0.mk A50
   clear A50
   replace H := Option.bind_eq_some_iff.mp H
   obtain ⟨t457, A60, H⟩ := H
   replace H : (some (wrap64 (t456 + t457))) = some r := H
   have A6 := Aside0.mk A60
   clear A60
   obtain rfl := Option.some.inj H
   go_enter Try.func84, Try.ntmps84
   go_wp2_with (first | ((with_reducible refine gate_callee (f := 84) rfl ?_); refine goesL_ (some 12) rfl rfl Try.func84 (by kernel_rfl) rfl #[.int .i64 (wrap64 (a0 - 1)), .int .i64 a1] rfl (by (try simp only [List.map_toArray, List.map_cons, List.map_nil]); first | done | rfl | (simp only [List.length_drop, List.length_take]; rfl)) ?_; (with_reducible refine (ih k (by omega) (wrap64 (a0 - 1)) a1 t456 _ A5.out).mono ?_); rintro e w' ⟨rfl, ⟨nd, rfl⟩⟩; refine ⟨_, rfl, ?_⟩) | ((with_reducible refine gate_callee (f := 84) rfl ?_); refine goesL_ (some 17) rfl rfl Try.func84 (by kernel_rfl) rfl #[.int .i64 (wrap64 (a0 - 1)), .int .i64 (wrap64 (a1 - 1))] rfl (by (try simp only [List.map_toArray, List.map_cons, List.map_nil]); first | done | rfl | (simp only [List.length_drop, List.length_take]; rfl)) ?_; (with_reducible refine (ih k (by omega) (wrap64 (a0 - 1)) (wrap64 (a1 - 1)) t457 _ A6.out).mono ?_); rintro e w' ⟨rfl, ⟨nd, rfl⟩⟩; refine ⟨_, rfl, ?_⟩))
   go_ret
   exact ⟨by first | rfl | (simp; done) | (simp [*]; done), by repeat (first | exact Drawn0.refl _ | apply Drawn0.step)⟩
def spec_chAll.l0 : Nat → Int → Int → List (List Int) → List (List Int) → Int → Int → Option (Bool)
 | 0, _, _, _, _, _, _ => none
 | k + 1, x0, x1, x2, x11, x12, x13 => if x13 < x12 then (if 0 ≤ x13 then (if x13 < (x11.length : Int) then ((spec_raPlace.f k x2 (rd_L2 x11 x13)).bind fun t462 => (if t462 < 0 then (some false) else (spec_chAll.l0 k x0 x1 x2 x11 x12 (wrap64 (x13 + 1))))) else (none)) else (none)) else ((spec_raBinomial.f k x0 x1).bind fun t463 => (some ((x2.length : Int) == t463)))
def spec_chAll.f (k : Nat) (a0 : Int) (a1 : Int) (l2 : List (List Int)) : Option (Bool) := (spec_raAll.f k a0 a1 0).bind fun t458 => (spec_chAll.l0 k a0 a1 l2 t458 (t458.length : Int) 0)
theorem spec_chAll.mono_l : ∀ k, (∀ y0 y1 y2 y3 y4 y5, LeO (spec_chAll.l0 k y0 y1 y2 y3 y4 y5) (spec_chAll.l0 (k + 1) y0 y1 y2 y3 y4 y5))
 | 0 => fun _ _ _ _ _ _ r h => by simp [spec_chAll.l0] at h
 | k + 1 => by
  have ih0 := spec_chAll.mono_l k
  ·intro y0 y1 y2 y3 y4 y5
   unfold spec_chAll.l0
   repeat' first
   | (with_reducible exact ih0 _ _ _ _ _ _)
   | (with_reducible exact spec_raAll.mono _ _ _ _)
   | (with_reducible exact spec_raBinomial.mono _ _ _)
   | (with_reducible exact spec_raPlace.mono _ _ _)
   | (with_reducible exact LeO.refl _)
   | (with_reducible exact LeO.none _)
   | (with_reducible refine LeO.ite ?_ ?_)
   | (with_reducible refine LeO.bind ?_ (fun _ => ?_))
   | exact ih0 _ _ _ _ _ _
   | exact spec_raAll.mono _ _ _ _
   | exact spec_raBinomial.mono _ _ _
   | exact spec_raPlace.mono _ _ _
   | exact LeO.none _
   | refine LeO.ite ?_ ?_
   | refine LeO.bind ?_ (fun _ => ?_)
theorem spec_chAll.mono : ∀ a0 a1 a2 k, LeO (spec_chAll.f k a0 a1 a2) (spec_chAll.f (k + 1) a0 a1 a2) := by
 intro a0 a1 a2 k
 have ih0 := spec_chAll.mono_l k
 unfold spec_chAll.f
 repeat' first
   | (with_reducible exact ih0 _ _ _ _ _ _)
   | (with_reducible exact spec_raAll.mono _ _ _ _)
   | (with_reducible exact spec_raBinomial.mono _ _ _)
   | (with_reducible exact spec_raPlace.mono _ _ _)
   | (with_reducible exact LeO.refl _)
   | (with_reducible exact LeO.none _)
   | (with_reducible refine LeO.ite ?_ ?_)
   | (with_reducible refine LeO.bind ?_ (fun _ => ?_))
   | exact ih0 _ _ _ _ _ _
   | exact spec_raAll.mono _ _ _ _
   | exact spec_raBinomial.mono _ _ _
   | exact spec_raPlace.mono _ _ _
   | exact LeO.none _
   | refine LeO.ite ?_ ?_
   | refine LeO.bind ?_ (fun _ => ?_)
set_option maxHeartbeats 8000000 in
set_option maxRecDepth 100000 in
theorem spec_chAll.calls (k : Nat) (a0 : Int) (a1 : Int) (A2 : Option Addr) (c2 : Nat) (l2 : List (List Int)) (r : Bool) (w : World) (hr2 : Kd.C (Kd.slice 3 (Kd.int .i64)) w A2 l2.length l2) (hc2 : l2.length ≤ c2) (h : spec_chAll.f k a0 a1 l2 = some r) :
  Calls Try.prog 66 #[.int .i64 a0, .int .i64 a1, .slice A2 l2.length c2] w fun e w' => e = .returned (.bool r) ∧ Below w.heap.size w w' := by
 have HR2 := Aside0.mk hr2
 have HC2 := Aside0.mk hc2
 clear hr2 hc2
 have HB := Aside0.mk (Below.refl w.heap.size w)
 have H : ((spec_raAll.f k a0 a1 0).bind fun t458 => (spec_chAll.l0 k a0 a1 l2 t458 (t458.length : Int) 0)) = some r := h
 clear h
 replace H := Option.bind_eq_some_iff.mp H
 obtain ⟨t458, A40, H⟩ := H
 replace H : (spec_chAll.l0 k a0 a1 l2 t458 (t458.length : Int) 0) = some r := H
 have A4 := Aside0.mk A40
 clear A40
 have H' := Aside0.mk H
 clear H
 go_enter Try.func66, Try.ntmps66
 go_wp2_with (first | ((with_reducible refine gate_callee (f := 36) rfl ?_); refine goesL_ (some 11) rfl rfl Try.func36 (by kernel_rfl) rfl #[.int .i64 a0, .int .i64 a1, .int .i64 0] rfl (by (try simp only [List.map_toArray, List.map_cons, List.map_nil]); first | done | rfl | (simp only [List.length_drop, List.length_take]; rfl)) ?_; (with_reducible refine (spec_raAll.calls k a0 a1 0 t458 _ A4.out).mono ?_); rintro e w5 ⟨v459, rfl, ho0, hb⟩; refine ⟨_, rfl, ?_⟩; have n0_ := Aside0.mk (Kd.S_lower ho0 (below_size (by repeat (first | (with_reducible first | exact HB.out | apply below_alloc | apply pw_below_drewN | apply below_drew1) | exact HB.out)))); have n1_ := Aside0.mk (below_step (by repeat (first | (with_reducible first | exact HB.out | apply below_alloc | apply pw_below_drewN | apply below_drew1) | exact HB.out)) hb); clear HB; have HO460 := n0_; have HB := n1_; clear n0_ n1_; (try clear hb); (try clear hb2); (try clear hk); (try clear hi); (try clear ho0); obtain ⟨Ao6, co6, eo6⟩ := Kd.S_slice HO460.out; subst eo6))
 go_loopg [13] k (fun kq v13 w' => ∃ (x13_1 : Int), v13 = .int .i64 x13_1 ∧ Aside0 (spec_chAll.l0 kq a0 a1 l2 t458 (t458.length : Int) x13_1 = some r) ∧ Aside0 (kq ≤ k) ∧ Aside0 (Kd.S (Kd.slice 3 (Kd.int .i64)) 38 w' w.heap.size (fun _ => True) (.slice Ao6 t458.length co6) t458) ∧ Aside0 (Below w.heap.size w w'))
 case atStart => exact ⟨(0), (by first | rfl | (simp; done) | (simp [*]; done)), H', ⟨Nat.le_refl _⟩, ⟨by (with_reducible repeat (first | apply Kd.S_alloc | apply Kd.S_drewN | apply Kd.S_drew)); exact HO460.out⟩, ⟨by repeat (first | (with_reducible first | exact HB.out | apply below_alloc | apply pw_below_drewN | apply below_drew1) | exact HB.out)⟩⟩
 case round =>
  clear H'
  try clear c2
  try clear p2
  try clear c3
  try clear c6
  obtain ⟨x13_1, rfl, HA, HK1, HO_11, HB⟩ := hrel
  cases gk with
  | zero => exact absurd HA.out (by simp [spec_chAll.l0])
  | succ k1 =>
   have H := HA.out
   clear HA
   simp only [spec_chAll.l0] at H
   by_cases c7 : x13_1 < (t458.length : Int)
   ·rw [if_pos c7] at H
    have c7b0 : decide (x13_1 < (t458.length : Int)) = true := decide_eq_true c7
    clear c7
    by_cases c8 : 0 ≤ x13_1
    ·rw [if_pos c8] at H
     have c8b0 : decide (0 ≤ x13_1) = true := decide_eq_true c8
     clear c8
     by_cases c9 : x13_1 < (t458.length : Int)
     ·rw [if_pos c9] at H
      have c9b0 : decide (x13_1 < (t458.length : Int)) = true := decide_eq_true c9
      clear c9
      replace H := Option.bind_eq_some_iff.mp H
      obtain ⟨t462, A100, H⟩ := H
      replace H : (if t462 < 0 then (some false) else (spec_chAll.l0 k1 a0 a1 l2 t458 (t458.length : Int) (wrap64 (x13_1 + 1)))) = some r := H
      have A10 := Aside0.mk A100
      clear A100
      by_cases c11 : t462 < 0
      ·rw [if_pos c11] at H
       have c11b0 : decide (t462 < 0) = true := decide_eq_true c11
       clear c11
       obtain rfl := Option.some.inj H
       have p461 : 0 ≤ (x13_1 : Int) := of_decide_eq_true (by first | (with_reducible assumption) | assumption)
       have q461 : x13_1 < (t458.length : Int) := of_decide_eq_true (by first | (with_reducible assumption) | assumption)
       obtain ⟨ad461, A461_0, c461_0, e461, hx461_0, hl461_0, hi461_0⟩ := at_L2 (Kd.S_reads' HO_11.out).2.2 x13_1 p461 q461
       cases e461
       obtain ⟨ce461, hce461, hMe461, hcc461⟩ := Kd.S_get HO_11.out [] x13_1 p461 (by first | exact q461 | exact of_decide_eq_true (by first | (with_reducible assumption) | assumption) | (have e_ := (Kd.S_reads' HO_11.out).1; omega))
       obtain ⟨ve461_0, rfl, ge461_0⟩ := hMe461
       have hv461_0 := hcc461 0 _ rfl
       rw [Nat.add_zero, show ((Kd.slice 3 (Kd.int .i64))).sz = 1 from rfl, Nat.mul_one] at hv461_0
       replace hv461_0 := Option.some.inj (hv461_0.symm.trans hx461_0)
       rw [hv461_0] at ge461_0
       have HL461_0 := Aside0.mk (show Kd.R (Kd.int .i64) 3 _ _ _ _ (rd_L2 t458 x13_1) from ge461_0)
       clear hv461_0 ge461_0
       clear hcc461 hce461
       have HR461_0 := Aside0.mk hi461_0
       have HC461_0 := Aside0.mk hl461_0
       clear hi461_0 hl461_0
       replace p461 := eq_true p461
       replace q461 := eq_true q461
       go_wp2_with (first | ((with_reducible refine gate_callee (f := 71) rfl ?_); refine goesL_ (some 19) rfl rfl Try.func71 (by kernel_rfl) rfl #[.slice A2 l2.length c2, .slice A461_0 (rd_L2 t458 x13_1).length c461_0] rfl (by (try simp only [List.map_toArray, List.map_cons, List.map_nil]); first | done | rfl | (simp only [List.length_drop, List.length_take]; rfl)) ?_; (with_reducible refine (spec_raPlace.calls k1 _ _ l2 _ _ (rd_L2 t458 x13_1) t462 _ ?side1 ?side2 ?side3 ?side4 A10.out).mono ?_); (case side1 => repeat (first | exact (Kd.C_below HR2.out HB.out) | (with_reducible refine Kd.C_alloc ?_ _) | (with_reducible refine Kd.C_drewN ?_ _) | (with_reducible refine Kd.C_drew ?_))); (case side2 => exact HC2.out); (case side3 => repeat (first | exact (by repeat (first | (with_reducible exact HR461_0.out) | (with_reducible refine Kd.C_alloc ?_ _) | (with_reducible refine Kd.C_drewN ?_ _) | (with_reducible refine Kd.C_drew ?_) | exact HR461_0.out)) | (with_reducible refine Kd.C_alloc ?_ _) | (with_reducible refine Kd.C_drewN ?_ _) | (with_reducible refine Kd.C_drew ?_))); (case side4 => exact HC461_0.out); rintro e w' ⟨rfl, ⟨nd, rfl⟩⟩; refine ⟨_, rfl, ?_⟩))
       go_ret
       exact ⟨by first | rfl | (simp [errW_none, errW_some] <;> rfl) | (simp [*, errW_none, errW_some] <;> rfl), by repeat (first | (with_reducible first | exact HB.out | apply below_alloc | apply pw_below_drewN | apply below_drew1) | exact HB.out)⟩
      ·rw [if_neg c11] at H
       have c11b0 : decide (t462 < 0) = false := decide_eq_false c11
       clear c11
       have H' := Aside0.mk H
       clear H
       have p461 : 0 ≤ (x13_1 : Int) := of_decide_eq_true (by first | (with_reducible assumption) | assumption)
       have q461 : x13_1 < (t458.length : Int) := of_decide_eq_true (by first | (with_reducible assumption) | assumption)
       obtain ⟨ad461, A461_0, c461_0, e461, hx461_0, hl461_0, hi461_0⟩ := at_L2 (Kd.S_reads' HO_11.out).2.2 x13_1 p461 q461
       cases e461
       obtain ⟨ce461, hce461, hMe461, hcc461⟩ := Kd.S_get HO_11.out [] x13_1 p461 (by first | exact q461 | exact of_decide_eq_true (by first | (with_reducible assumption) | assumption) | (have e_ := (Kd.S_reads' HO_11.out).1; omega))
       obtain ⟨ve461_0, rfl, ge461_0⟩ := hMe461
       have hv461_0 := hcc461 0 _ rfl
       rw [Nat.add_zero, show ((Kd.slice 3 (Kd.int .i64))).sz = 1 from rfl, Nat.mul_one] at hv461_0
       replace hv461_0 := Option.some.inj (hv461_0.symm.trans hx461_0)
       rw [hv461_0] at ge461_0
       have HL461_0 := Aside0.mk (show Kd.R (Kd.int .i64) 3 _ _ _ _ (rd_L2 t458 x13_1) from ge461_0)
       clear hv461_0 ge461_0
       clear hcc461 hce461
       have HR461_0 := Aside0.mk hi461_0
       have HC461_0 := Aside0.mk hl461_0
       clear hi461_0 hl461_0
       replace p461 := eq_true p461
       replace q461 := eq_true q461
       go_wp2_with (first | ((with_reducible refine gate_callee (f := 71) rfl ?_); refine goesL_ (some 19) rfl rfl Try.func71 (by kernel_rfl) rfl #[.slice A2 l2.length c2, .slice A461_0 (rd_L2 t458 x13_1).length c461_0] rfl (by (try simp only [List.map_toArray, List.map_cons, List.map_nil]); first | done | rfl | (simp only [List.length_drop, List.length_take]; rfl)) ?_; (with_reducible refine (spec_raPlace.calls k1 _ _ l2 _ _ (rd_L2 t458 x13_1) t462 _ ?side1 ?side2 ?side3 ?side4 A10.out).mono ?_); (case side1 => repeat (first | exact (Kd.C_below HR2.out HB.out) | (with_reducible refine Kd.C_alloc ?_ _) | (with_reducible refine Kd.C_drewN ?_ _) | (with_reducible refine Kd.C_drew ?_))); (case side2 => exact HC2.out); (case side3 => repeat (first | exact (by repeat (first | (with_reducible exact HR461_0.out) | (with_reducible refine Kd.C_alloc ?_ _) | (with_reducible refine Kd.C_drewN ?_ _) | (with_reducible refine Kd.C_drew ?_) | exact HR461_0.out)) | (with_reducible refine Kd.C_alloc ?_ _) | (with_reducible refine Kd.C_drewN ?_ _) | (with_reducible refine Kd.C_drew ?_))); (case side4 => exact HC461_0.out); rintro e w' ⟨rfl, ⟨nd, rfl⟩⟩; refine ⟨_, rfl, ?_⟩))
       go_roundg k1
       case measure => have := HK1.out; omega
       case rel => exact ⟨(wrap64 (x13_1 + 1)), (by first | rfl | (simp; done) | (simp [*]; done)), H', ⟨by have := HK1.out; omega⟩, ⟨by (with_reducible repeat (first | apply Kd.S_alloc | apply Kd.S_drewN | apply Kd.S_drew)); exact HO_11.out⟩, ⟨by repeat (first | (with_reducible first | exact HB.out | apply below_alloc | apply pw_below_drewN | apply below_drew1) | exact HB.out)⟩⟩
     ·rw [if_neg c9] at H
      exact absurd H (by simp)
    ·rw [if_neg c8] at H
     exact absurd H (by simp)
   ·rw [if_neg c7] at H
    have c7b0 : decide (x13_1 < (t458.length : Int)) = false := decide_eq_false c7
    clear c7
    replace H := Option.bind_eq_some_iff.mp H
    obtain ⟨t463, A120, H⟩ := H
    replace H : (some ((l2.length : Int) == t463)) = some r := H
    have A12 := Aside0.mk A120
    clear A120
    obtain rfl := Option.some.inj H
    go_wp2_with (first | ((with_reducible refine gate_callee (f := 84) rfl ?_); refine goesL_ (some 26) rfl rfl Try.func84 (by kernel_rfl) rfl #[.int .i64 a0, .int .i64 a1] rfl (by (try simp only [List.map_toArray, List.map_cons, List.map_nil]); first | done | rfl | (simp only [List.length_drop, List.length_take]; rfl)) ?_; (with_reducible refine (spec_raBinomial.calls k1 a0 a1 t463 _ A12.out).mono ?_); rintro e w' ⟨rfl, ⟨nd, rfl⟩⟩; refine ⟨_, rfl, ?_⟩))
    go_ret
    exact ⟨by first | rfl | (simp [errW_none, errW_some] <;> rfl) | (simp [*, errW_none, errW_some] <;> rfl), by repeat (first | (with_reducible first | exact HB.out | apply below_alloc | apply pw_below_drewN | apply below_drew1) | exact HB.out)⟩
def spec_IsExchangeList.j0 : Nat → Int → Int → List (List Int) → Bool → Option (Bool × Bool)
 | 0, _, _, _, _ => none
 | k + 1, x0, x1, x2, x17 => if x17 = true then (some (false, false)) else ((spec_chAll.f k x0 x1 x2).bind fun t466 => (if t466 = true then ((spec_chNear.f k x2 x0).bind fun t467 => (some (t467, true))) else (some (false, true))))
def spec_IsExchangeList.f (k : Nat) (a0 : Int) (a1 : Int) (l2 : List (List Int)) : Option (Bool × Bool) := (spec_chSize.f a0 a1).bind fun t464 => (if t464 = true then ((spec_chLists.f k a0 l2).bind fun t465 => (spec_IsExchangeList.j0 k a0 a1 l2 (!t465))) else (spec_IsExchangeList.j0 k a0 a1 l2 true))
theorem spec_IsExchangeList.mono_l : ∀ k, (∀ y0 y1 y2 y3, LeO (spec_IsExchangeList.j0 k y0 y1 y2 y3) (spec_IsExchangeList.j0 (k + 1) y0 y1 y2 y3))
 | 0 => fun _ _ _ _ r h => by simp [spec_IsExchangeList.j0] at h
 | k + 1 => by
  have ih0 := spec_IsExchangeList.mono_l k
  ·intro y0 y1 y2 y3
   unfold spec_IsExchangeList.j0
   repeat' first
   | (with_reducible exact ih0 _ _ _ _)
   | (with_reducible exact spec_chAll.mono _ _ _ _)
   | (with_reducible exact spec_chLists.mono _ _ _)
   | (with_reducible exact spec_chNear.mono _ _ _)
   | (with_reducible exact LeO.refl _)
   | (with_reducible exact LeO.none _)
   | (with_reducible refine LeO.ite ?_ ?_)
   | (with_reducible refine LeO.bind ?_ (fun _ => ?_))
   | exact ih0 _ _ _ _
   | exact spec_chAll.mono _ _ _ _
   | exact spec_chLists.mono _ _ _
   | exact spec_chNear.mono _ _ _
   | exact LeO.none _
   | refine LeO.ite ?_ ?_
   | refine LeO.bind ?_ (fun _ => ?_)
theorem spec_IsExchangeList.mono : ∀ a0 a1 a2 k, LeO (spec_IsExchangeList.f k a0 a1 a2) (spec_IsExchangeList.f (k + 1) a0 a1 a2) := by
 intro a0 a1 a2 k
 have ih0 := spec_IsExchangeList.mono_l k
 unfold spec_IsExchangeList.f
 repeat' first
   | (with_reducible exact ih0 _ _ _ _)
   | (with_reducible exact spec_chAll.mono _ _ _ _)
   | (with_reducible exact spec_chLists.mono _ _ _)
   | (with_reducible exact spec_chNear.mono _ _ _)
   | (with_reducible exact LeO.refl _)
   | (with_reducible exact LeO.none _)
   | (with_reducible refine LeO.ite ?_ ?_)
   | (with_reducible refine LeO.bind ?_ (fun _ => ?_))
   | exact ih0 _ _ _ _
   | exact spec_chAll.mono _ _ _ _
   | exact spec_chLists.mono _ _ _
   | exact spec_chNear.mono _ _ _
   | exact LeO.none _
   | refine LeO.ite ?_ ?_
   | refine LeO.bind ?_ (fun _ => ?_)
set_option maxHeartbeats 8000000 in
set_option maxRecDepth 100000 in
theorem spec_IsExchangeList.calls (k : Nat) (a0 : Int) (a1 : Int) (A2 : Option Addr) (c2 : Nat) (l2 : List (List Int)) (r1 : Bool) (r2 : Bool) (w : World) (hr2 : Kd.C (Kd.slice 3 (Kd.int .i64)) w A2 l2.length l2) (hc2 : l2.length ≤ c2) (h : spec_IsExchangeList.f k a0 a1 l2 = some (r1, r2)) :
  Calls Try.prog 25 #[.int .i64 a0, .int .i64 a1, .slice A2 l2.length c2] w fun e w' => e = .returned (.tuple #[.bool r1, .bool r2]) ∧ Below w.heap.size w w' := by
 have HR2 := Aside0.mk hr2
 have HC2 := Aside0.mk hc2
 clear hr2 hc2
 have HB := Aside0.mk (Below.refl w.heap.size w)
 have H : ((spec_chSize.f a0 a1).bind fun t464 => (if t464 = true then ((spec_chLists.f k a0 l2).bind fun t465 => (spec_IsExchangeList.j0 k a0 a1 l2 (!t465))) else (spec_IsExchangeList.j0 k a0 a1 l2 true))) = some (r1, r2) := h
 clear h
 have HC4 := Aside0.mk H
 clear H
 go_enter Try.func25, Try.ntmps25
 go_upto_region 1 with (fail)
 go_cut [17] (fun v17 wc => ∃ (kq : Nat) (x17_3 : Bool), v17 = .bool x17_3 ∧ Aside0 (spec_IsExchangeList.j0 kq a0 a1 l2 x17_3 = some (r1, r2)) ∧ Aside0 (kq ≤ k) ∧ Aside0 (Below w.heap.size w wc))
 case first =>
  have H := HC4.out
  clear HC4
  replace H := Option.bind_eq_some_iff.mp H
  obtain ⟨t464, A50, H⟩ := H
  replace H : (if t464 = true then ((spec_chLists.f k a0 l2).bind fun t465 => (spec_IsExchangeList.j0 k a0 a1 l2 (!t465))) else (spec_IsExchangeList.j0 k a0 a1 l2 true)) = some (r1, r2) := H
  have A5 := Aside0.mk A50
  clear A50
  by_cases c6 : t464 = true
  ·subst c6
   have H1 : ((spec_chLists.f k a0 l2).bind fun t465 => (spec_IsExchangeList.j0 k a0 a1 l2 (!t465))) = some (r1, r2) := by rw [if_pos rfl] at H; exact H
   clear H
   have H := H1
   clear H1
   replace H := Option.bind_eq_some_iff.mp H
   obtain ⟨t465, A70, H⟩ := H
   replace H : (spec_IsExchangeList.j0 k a0 a1 l2 (!t465)) = some (r1, r2) := H
   have A7 := Aside0.mk A70
   clear A70
   have H' := Aside0.mk H
   clear H
   go_wp2_with (first | ((with_reducible refine gate_callee (f := 52) rfl ?_); refine goesL_ (some 10) rfl rfl Try.func52 (by kernel_rfl) rfl #[.int .i64 a0, .int .i64 a1] rfl (by (try simp only [List.map_toArray, List.map_cons, List.map_nil]); first | done | rfl | (simp only [List.length_drop, List.length_take]; rfl)) ?_; (with_reducible refine (spec_chSize.calls a0 a1 true _ A5.out).mono ?_); rintro e w' ⟨rfl, ⟨nd, rfl⟩⟩; refine ⟨_, rfl, ?_⟩) | (go_at_call 65; (with_reducible refine (spec_chLists.calls k a0 _ _ l2 t465 _ ?side1 ?side2 A7.out).mono ?_); (case side1 => repeat (first | exact (Kd.C_below HR2.out (by repeat (first | (with_reducible first | exact HB.out | apply below_alloc | apply pw_below_drewN | apply below_drew1) | exact HB.out))) | (with_reducible refine Kd.C_alloc ?_ _) | (with_reducible refine Kd.C_drewN ?_ _) | (with_reducible refine Kd.C_drew ?_))); (case side2 => exact HC2.out); rintro e w' ⟨rfl, ⟨nd, rfl⟩⟩))
   go_meet
   case rel => exact ⟨_, (!t465), (by first | rfl | (simp; done) | (simp [*]; done)), H', ⟨by first | omega | exact Nat.le_refl _⟩, ⟨by repeat (first | (with_reducible first | exact HB.out | apply below_alloc | apply pw_below_drewN | apply below_drew1) | exact HB.out)⟩⟩
  ·replace c6 := Bool.eq_false_iff.mpr c6
   subst c6
   have H1 : (spec_IsExchangeList.j0 k a0 a1 l2 true) = some (r1, r2) := by rw [if_neg (show ¬ (false = true) by decide)] at H; exact H
   clear H
   have H := H1
   clear H1
   have H' := Aside0.mk H
   clear H
   go_wp2_with (first | ((with_reducible refine gate_callee (f := 52) rfl ?_); refine goesL_ (some 10) rfl rfl Try.func52 (by kernel_rfl) rfl #[.int .i64 a0, .int .i64 a1] rfl (by (try simp only [List.map_toArray, List.map_cons, List.map_nil]); first | done | rfl | (simp only [List.length_drop, List.length_take]; rfl)) ?_; (with_reducible refine (spec_chSize.calls a0 a1 false _ A5.out).mono ?_); rintro e w' ⟨rfl, ⟨nd, rfl⟩⟩; refine ⟨_, rfl, ?_⟩))
   go_meet
   case rel => exact ⟨_, (true), (by first | rfl | (simp; done) | (simp [*]; done)), H', ⟨by first | omega | exact Nat.le_refl _⟩, ⟨by repeat (first | (with_reducible first | exact HB.out | apply below_alloc | apply pw_below_drewN | apply below_drew1) | exact HB.out)⟩⟩
 case rest =>
  clear HC4
  try clear c2
  try clear p2
  try clear c5
  try clear c6
  obtain ⟨kq, x17_3, rfl, HA, HJ3, HB⟩ := hcut
  cases kq with
  | zero => exact absurd HA.out (by simp [spec_IsExchangeList.j0])
  | succ kj3 =>
   have H := HA.out
   clear HA
   simp only [spec_IsExchangeList.j0] at H
   by_cases c8 : x17_3 = true
   ·subst c8
    have H1 : (some (false, false)) = some (r1, r2) := by rw [if_pos rfl] at H; exact H
    clear H
    have H := H1
    clear H1
    simp only [Option.some.injEq, Prod.mk.injEq] at H
    obtain ⟨rfl, rfl⟩ := H
    go_wp2
    go_ret2
    exact ⟨by first | rfl | (simp [errW_none, errW_some] <;> rfl) | (simp [*, errW_none, errW_some] <;> rfl), by repeat (first | (with_reducible first | exact HB.out | apply below_alloc | apply pw_below_drewN | apply below_drew1) | exact HB.out)⟩
   ·replace c8 := Bool.eq_false_iff.mpr c8
    subst c8
    have H1 : ((spec_chAll.f kj3 a0 a1 l2).bind fun t466 => (if t466 = true then ((spec_chNear.f kj3 l2 a0).bind fun t467 => (some (t467, true))) else (some (false, true)))) = some (r1, r2) := by rw [if_neg (show ¬ (false = true) by decide)] at H; exact H
    clear H
    have H := H1
    clear H1
    replace H := Option.bind_eq_some_iff.mp H
    obtain ⟨t466, A90, H⟩ := H
    replace H : (if t466 = true then ((spec_chNear.f kj3 l2 a0).bind fun t467 => (some (t467, true))) else (some (false, true))) = some (r1, r2) := H
    have A9 := Aside0.mk A90
    clear A90
    by_cases c10 : t466 = true
    ·subst c10
     have H1 : ((spec_chNear.f kj3 l2 a0).bind fun t467 => (some (t467, true))) = some (r1, r2) := by rw [if_pos rfl] at H; exact H
     clear H
     have H := H1
     clear H1
     replace H := Option.bind_eq_some_iff.mp H
     obtain ⟨t467, A110, H⟩ := H
     replace H : (some (t467, true)) = some (r1, r2) := H
     have A11 := Aside0.mk A110
     clear A110
     simp only [Option.some.injEq, Prod.mk.injEq] at H
     obtain ⟨rfl, rfl⟩ := H
     go_wp2_with (first | ((with_reducible refine gate_callee (f := 66) rfl ?_); refine goesL_ (some 21) rfl rfl Try.func66 (by kernel_rfl) rfl #[.int .i64 a0, .int .i64 a1, .slice A2 l2.length c2] rfl (by (try simp only [List.map_toArray, List.map_cons, List.map_nil]); first | done | rfl | (simp only [List.length_drop, List.length_take]; rfl)) ?_; (with_reducible refine (spec_chAll.calls kj3 a0 a1 _ _ l2 true _ ?side1 ?side2 A9.out).mono ?_); (case side1 => repeat (first | exact (Kd.C_below HR2.out HB.out) | (with_reducible refine Kd.C_alloc ?_ _) | (with_reducible refine Kd.C_drewN ?_ _) | (with_reducible refine Kd.C_drew ?_))); (case side2 => exact HC2.out); rintro e w12 ⟨rfl, hb⟩; refine ⟨_, rfl, ?_⟩; have n0_ := Aside0.mk (below_step (by repeat (first | (with_reducible first | exact HB.out | apply below_alloc | apply pw_below_drewN | apply below_drew1) | exact HB.out)) hb); clear HB; have HB := n0_; clear n0_; (try clear hb); (try clear hb2); (try clear hk); (try clear hi)) | (go_at_call 67; (with_reducible refine (spec_chNear.calls kj3 _ _ l2 a0 t467 _ ?side1 ?side2 A11.out).mono ?_); (case side1 => repeat (first | exact (Kd.C_below HR2.out HB.out) | (with_reducible refine Kd.C_alloc ?_ _) | (with_reducible refine Kd.C_drewN ?_ _) | (with_reducible refine Kd.C_drew ?_))); (case side2 => exact HC2.out); rintro e w13 ⟨rfl, hb⟩; have n0_ := Aside0.mk (below_step (by repeat (first | (with_reducible first | exact HB.out | apply below_alloc | apply pw_below_drewN | apply below_drew1) | exact HB.out)) hb); clear HB; have HB := n0_; clear n0_; (try clear hb); (try clear hb2); (try clear hk); (try clear hi)))
     go_ret2
     exact ⟨by first | rfl | (simp [errW_none, errW_some] <;> rfl) | (simp [*, errW_none, errW_some] <;> rfl), by repeat (first | (with_reducible first | exact HB.out | apply below_alloc | apply pw_below_drewN | apply below_drew1) | exact HB.out)⟩
    ·replace c10 := Bool.eq_false_iff.mpr c10
     subst c10
     have H1 : (some (false, true)) = some (r1, r2) := by rw [if_neg (show ¬ (false = true) by decide)] at H; exact H
     clear H
     have H := H1
     clear H1
     simp only [Option.some.injEq, Prod.mk.injEq] at H
     obtain ⟨rfl, rfl⟩ := H
     go_wp2_with (first | ((with_reducible refine gate_callee (f := 66) rfl ?_); refine goesL_ (some 21) rfl rfl Try.func66 (by kernel_rfl) rfl #[.int .i64 a0, .int .i64 a1, .slice A2 l2.length c2] rfl (by (try simp only [List.map_toArray, List.map_cons, List.map_nil]); first | done | rfl | (simp only [List.length_drop, List.length_take]; rfl)) ?_; (with_reducible refine (spec_chAll.calls kj3 a0 a1 _ _ l2 false _ ?side1 ?side2 A9.out).mono ?_); (case side1 => repeat (first | exact (Kd.C_below HR2.out HB.out) | (with_reducible refine Kd.C_alloc ?_ _) | (with_reducible refine Kd.C_drewN ?_ _) | (with_reducible refine Kd.C_drew ?_))); (case side2 => exact HC2.out); rintro e w14 ⟨rfl, hb⟩; refine ⟨_, rfl, ?_⟩; have n0_ := Aside0.mk (below_step (by repeat (first | (with_reducible first | exact HB.out | apply below_alloc | apply pw_below_drewN | apply below_drew1) | exact HB.out)) hb); clear HB; have HB := n0_; clear n0_; (try clear hb); (try clear hb2); (try clear hk); (try clear hi)))
     go_ret2
     exact ⟨by first | rfl | (simp [errW_none, errW_some] <;> rfl) | (simp [*, errW_none, errW_some] <;> rfl), by repeat (first | (with_reducible first | exact HB.out | apply below_alloc | apply pw_below_drewN | apply below_drew1) | exact HB.out)⟩
end Go.Proofs.Ytmkokfljonbcmaa.MFnExchanges
