import Derived.Test.YtmkokfljonbcmaaMFnExchangesx0
import Derived.Test.YtmkokfljonbcmaaMFnExchangesx1
import Derived.Test.YtmkokfljonbcmaaMFnExchangesx2
import Derived.Test.YtmkokfljonbcmaaMFnExchangesx9
namespace Go.Proofs.Ytmkokfljonbcmaa.MFnExchanges
open Go.RowKit Go.Proofs.YtmkokfljonbcmaaW.PrintWords Go.Proofs.YtmkokfljonbcmaaW.PrintLast Go.Proofs.YtmkokfljonbcmaaW.PrintMore
attribute [local go_sem] max2_int min2_int max_two min_two max_three min_three max_four min_four   
set_option linter.unusedVariables false
set_option linter.unusedSimpArgs false
theorem impl_IsRoundExchange.zeroB (w : World) : (zeroValue 4).run Try.prog w = .ok (.bool false) w := by kernel_rfl
theorem impl_IsRoundExchange.mt : Try.prog.underlying 77 = some (.map 3 4) := Try.underlying77
theorem impl_IsRoundExchange.mk_ : Try.prog.underlying 3 = some (.int .i64) := Try.underlying3
theorem impl_IsRoundExchange.me : Try.prog.underlying 4 = some .bool := Try.underlying4
def impl_IsRoundExchange.g0 : Nat → Int → Int → List (List Int) → Int → List Int → Option Bool
 | 0, _, _, _, _, _ => none
 | k + 1, n, kk, L, i, met => if i < (L.length : Int) then (if 0 ≤ i then (if i < 1000000 then (if ((rd_L2 L i).length : Int) = kk then ((impl_combinationRank.f k n (rd_L2 L i)).bind fun r => (if (Lit.int .i64 r).wf = true then (if r ∈ met then (some false) else (if met.length < 1000000 then (if i = 0 then (impl_IsRoundExchange.g0 k n kk L (wrap64 (i + 1)) (r :: met)) else ((impl_exchange.f k (rd_L2 L (i - 1)) (rd_L2 L i)).bind fun x => (if x.2.2 = true then ((impl_anyExchange.f x.1 x.2.1).bind fun m => (if m = true then (impl_IsRoundExchange.g0 k n kk L (wrap64 (i + 1)) (r :: met)) else (some false))) else (some false)))) else none)) else none)) else (some false)) else none) else none) else ((impl_binomial.f k n kk).bind fun b => (some ((L.length : Int) == b)))
theorem impl_IsRoundExchange.g0_mono : ∀ k n kk L i met, LeO (impl_IsRoundExchange.g0 k n kk L i met) (impl_IsRoundExchange.g0 (k + 1) n kk L i met)
 | 0, _, _, _, _, _ => fun r h => by simp [impl_IsRoundExchange.g0] at h
 | k + 1, n, kk, L, i, met => by
  unfold impl_IsRoundExchange.g0
  exact LeO.ite (LeO.ite (LeO.ite (LeO.ite (LeO.bind (impl_combinationRank.mono _ _ _) (fun _ => LeO.ite (LeO.ite (LeO.refl _) (LeO.ite (LeO.ite (impl_IsRoundExchange.g0_mono k _ _ _ _ _) (LeO.bind (impl_exchange.mono _ _ _) (fun _ => LeO.ite (LeO.bind (LeO.refl _) (fun _ => LeO.ite (impl_IsRoundExchange.g0_mono k _ _ _ _ _) (LeO.refl _))) (LeO.refl _)))) (LeO.none _))) (LeO.none _))) (LeO.refl _)) (LeO.none _)) (LeO.none _)) (LeO.bind (impl_binomial.mono _ _ _) (fun _ => LeO.refl _))
open Go.Proofs.Ytmkokfljonbcmaa.MapSet in
set_option maxHeartbeats 8000000 in
set_option maxRecDepth 100000 in
theorem impl_IsRoundExchange.goes (k : Nat) (n kk : Int) (A2 : Option Addr) (c2 : Nat) (L : List (List Int)) (r : Bool) (w : World) (hr2 : Kd.C (Kd.slice 3 (Kd.int .i64)) w A2 L.length L) (hc2 : L.length ≤ c2) (h : impl_IsRoundExchange.g0 k n kk L 0 [] = some r) :
  Calls Try.prog 48 #[.int .i64 n, .int .i64 kk, .slice A2 L.length c2, .func (Fn.func 64) #[] #[]] w fun e w' => e = .returned (.bool r) ∧ Below w.heap.size w w' := by
 have HR := Aside0.mk hr2
 have HC := Aside0.mk hc2
 have H' := Aside0.mk h
 have hmm := @run_makeMap Try.prog
 clear hr2 hc2 h
 go_enter Try.func48, Try.ntmps48
 go_wp2
 have HM := Aside0.mk (MSet.made w Try.prog 3 4)
 have HB := Aside0.mk (below_alloc (Below.refl w.heap.size w) (.map #[] 0))
 clear hmm
 go_loopg [18] k (fun kq v18 w' => ∃ (i : Int) (met : List Int), v18 = .int .i64 i ∧ Aside0 (impl_IsRoundExchange.g0 kq n kk L i met = some r) ∧ Aside0 (kq ≤ k) ∧ Aside0 (MSet Try.prog 3 4 w' w.heap.size met) ∧ Aside0 (Below w.heap.size w w'))
 case atStart => exact ⟨0, [], rfl, H', ⟨Nat.le_refl _⟩, HM, HB⟩
 case round =>
  clear H' HM HB
  obtain ⟨i, met, rfl, HA, HK1, HM, HB⟩ := hrel
  cases gk with
  | zero => exact absurd HA.out (by simp [impl_IsRoundExchange.g0])
  | succ k1 =>
   have H := HA.out
   clear HA
   simp only [impl_IsRoundExchange.g0] at H
   by_cases c : i < (L.length : Int)
   rotate_left
   ·rw [if_neg c] at H
    have cb : decide (i < (L.length : Int)) = false := decide_eq_false c
    clear c
    obtain ⟨b, hb, H⟩ := Option.bind_eq_some_iff.mp H
    obtain rfl := Option.some.inj H
    have HBN := Aside0.mk hb
    clear hb H
    go_wp2_with fail
    refine (impl_binomial.calls k1 n kk b _ HBN.out).mono ?_
    rintro e w3 ⟨rfl, hd⟩
    have HB3 := Aside0.mk (HB.out.trans ((Drawn0.below hd).mono HB.out.size))
    clear hd
    go_wp2
    go_ret
    exact ⟨by first | rfl | simp, HB3.out⟩
   rw [if_pos c] at H
   have cb : decide (i < (L.length : Int)) = true := decide_eq_true c
   by_cases p : 0 ≤ i
   rotate_left
   ·rw [if_neg p] at H; cases H
   rw [if_pos p] at H
   by_cases p3 : i < 1000000
   rotate_left
   ·rw [if_neg p3] at H; cases H
   rw [if_pos p3] at H
   obtain ⟨ad, Ai, ci, ead, hxe, hle, hie⟩ := at_L2 HR.out i p c
   cases ead
   have HIE := Aside0.mk hie
   have HLE := Aside0.mk hle
   have HXE := Aside0.mk hxe
   replace hxe := (HB.out.cell (World.block_lt_of_cell? w _ hxe)).trans hxe
   have pb : (0 ≤ i) = True := eq_true p
   have qb : (i < (L.length : Int)) = True := eq_true c
   have P0 := Aside0.mk p
   have PC := Aside0.mk c
   have P3 := Aside0.mk p3
   clear p c p3 hle hie
   by_cases cl : ((rd_L2 L i).length : Int) = kk
   rotate_left
   ·rw [if_neg cl] at H
    have cb1 : (((rd_L2 L i).length : Int) == kk) = false := beq_eq_false_iff_ne.mpr cl
    have cb2 : (((rd_L2 L i).length : Int) != kk) = true := by simp [cb1, bne]
    clear cl
    obtain rfl := Option.some.inj H
    clear H
    go_wp2
    go_ret
    exact ⟨rfl, HB.out⟩
   rw [if_pos cl] at H
   have cb1 : (((rd_L2 L i).length : Int) == kk) = true := beq_iff_eq.mpr cl
   have cb2 : (((rd_L2 L i).length : Int) != kk) = false := by simp [cb1, bne]
   clear cl
   obtain ⟨q, hq, H⟩ := Option.bind_eq_some_iff.mp H
   by_cases cw : (Lit.int .i64 q).wf = true
   rotate_left
   ·rw [if_neg cw] at H; cases H
   rw [if_pos cw] at H
   have HQ := Aside0.mk hq
   have HW := Aside0.mk cw
   clear hq cw
   by_cases cm : q ∈ met
   ·rw [if_pos cm] at H
    have cm1 : decide (q ∈ met) = true := decide_eq_true cm
    clear cm
    obtain rfl := Option.some.inj H
    clear H
    go_wp2_with fail
    refine (impl_combinationRank.calls k1 n Ai ci (rd_L2 L i) q _ (Kd.C_below HIE.out HB.out) HLE.out HQ.out).mono ?_
    rintro e w3 ⟨rfl, hd⟩
    have HB3 := Aside0.mk (HB.out.trans ((Drawn0.below hd).mono HB.out.size))
    have HM3 := Aside0.mk (HM.out.below (Drawn0.below hd))
    clear hd hxe HB HM
    go_wp2_with (first | ((try (refine gate_guard (by rfl) ?_; dsimp only)); (with_reducible refine wpList_lookup rfl (.tmp 28) (.tmp 31) rfl impl_IsRoundExchange.mt impl_IsRoundExchange.mk_ impl_IsRoundExchange.me (impl_IsRoundExchange.zeroB _) rfl HM3.out q HW.out rfl ?_); rw [cm1]))
    go_ret
    exact ⟨rfl, HB3.out⟩
   rw [if_neg cm] at H
   have cm1 : decide (q ∈ met) = false := decide_eq_false cm
   by_cases cml : met.length < 1000000
   rotate_left
   ·rw [if_neg cml] at H; cases H
   rw [if_pos cml] at H
   have HML := Aside0.mk cml
   have HNM := Aside0.mk cm
   clear cm cml
   by_cases ci0 : i = 0
   ·rw [if_pos ci0] at H
    have Hn := Aside0.mk H
    have ci1 : (i == 0) = true := beq_iff_eq.mpr ci0
    clear ci0 H
    go_wp2_with fail
    refine (impl_combinationRank.calls k1 n Ai ci (rd_L2 L i) q _ (Kd.C_below HIE.out HB.out) HLE.out HQ.out).mono ?_
    rintro e w3 ⟨rfl, hd⟩
    have HB3 := Aside0.mk (HB.out.trans ((Drawn0.below hd).mono HB.out.size))
    have HM3 := Aside0.mk (HM.out.below (Drawn0.below hd))
    clear hd hxe HB HM
    go_wp2_with (first | ((try (refine gate_guard (by rfl) ?_; dsimp only)); (with_reducible refine wpList_lookup rfl (.tmp 28) (.tmp 31) rfl impl_IsRoundExchange.mt impl_IsRoundExchange.mk_ impl_IsRoundExchange.me (impl_IsRoundExchange.zeroB _) rfl HM3.out q HW.out rfl ?_); rw [cm1]) | fail)
    refine (impl_combinationRank.calls k1 n Ai ci (rd_L2 L i) q _ (Kd.C_below HIE.out HB3.out) HLE.out HQ.out).mono ?_
    rintro e w4 ⟨rfl, hd⟩
    have HB4 := Aside0.mk (HB3.out.trans ((Drawn0.below hd).mono HB3.out.size))
    have HM4 := Aside0.mk (HM3.out.below (Drawn0.below hd))
    clear hd HB3 HM3
    go_wp2_with (first | ((with_reducible refine wpList_store rfl (.tmp 34) (.tmp 37) (.const (.bool true)) rfl impl_IsRoundExchange.mt impl_IsRoundExchange.mk_ impl_IsRoundExchange.me rfl HM4.out ?hn q HW.out rfl rfl ?_); (case hn => have := HML.out; unfold maxLen; omega); intro w5 hm5 hg5; have HM5 := Aside0.mk (show MSet Try.prog 3 4 w5 w.heap.size (q :: met) by rw [if_neg HNM.out] at hm5; exact hm5); have HB5 := Aside0.mk (HB4.out.grown hg5 HB4.out.size (fun j hj => by cases hj; exact Nat.le_refl _)); clear hm5 hg5 HM4 HB4))
    go_roundg k1
    case measure => have := HK1.out; omega
    case rel => exact ⟨wrap64 (i + 1), q :: met, rfl, Hn, ⟨by have := HK1.out; omega⟩, HM5, HB5⟩
   rw [if_neg ci0] at H
   have ci1 : (i == 0) = false := beq_eq_false_iff_ne.mpr ci0
   obtain ⟨⟨x, y, ok⟩, hx, H⟩ := Option.bind_eq_some_iff.mp H
   have HX := Aside0.mk hx
   obtain ⟨ad', Ap, cp, ead', hxp, hlp, hip⟩ := at_L2 HR.out (i - 1) (by have := P0.out; omega) (by have := PC.out; omega)
   cases ead'
   have hw1 : IntKind.i64.wrap (i - 1) = i - 1 := IntWalk.i64_in _ (by have := P0.out; have := P3.out; omega)
   have hmin : (i - 1).toNat = i.toNat - 1 := by omega
   rw [hmin] at hxp
   have HXP := Aside0.mk hxp
   have HIP := Aside0.mk hip
   have HLP := Aside0.mk hlp
   have q0 : (0 ≤ i - 1) = True := eq_true (by have := P0.out; omega)
   have q0' : (1 ≤ i) = True := eq_true (by have := P0.out; omega)
   have q1 : (i - 1 < (L.length : Int)) = True := eq_true (by have := PC.out; omega)
   clear ci0 hx hxp hip hlp hmin
   go_wp2_with fail
   refine (impl_combinationRank.calls k1 n Ai ci (rd_L2 L i) q _ (Kd.C_below HIE.out HB.out) HLE.out HQ.out).mono ?_
   rintro e w3 ⟨rfl, hd⟩
   have HB3 := Aside0.mk (HB.out.trans ((Drawn0.below hd).mono HB.out.size))
   have HM3 := Aside0.mk (HM.out.below (Drawn0.below hd))
   clear hd hxe HB HM
   go_wp2_with (first | ((try (refine gate_guard (by rfl) ?_; dsimp only)); (with_reducible refine wpList_lookup rfl (.tmp 28) (.tmp 31) rfl impl_IsRoundExchange.mt impl_IsRoundExchange.mk_ impl_IsRoundExchange.me (impl_IsRoundExchange.zeroB _) rfl HM3.out q HW.out rfl ?_); rw [cm1]) | fail)
   refine (impl_combinationRank.calls k1 n Ai ci (rd_L2 L i) q _ (Kd.C_below HIE.out HB3.out) HLE.out HQ.out).mono ?_
   rintro e w4 ⟨rfl, hd⟩
   have HB4 := Aside0.mk (HB3.out.trans ((Drawn0.below hd).mono HB3.out.size))
   have HM4 := Aside0.mk (HM3.out.below (Drawn0.below hd))
   clear hd HB3 HM3
   go_wp2_with (first | ((with_reducible refine wpList_store rfl (.tmp 34) (.tmp 37) (.const (.bool true)) rfl impl_IsRoundExchange.mt impl_IsRoundExchange.mk_ impl_IsRoundExchange.me rfl HM4.out ?hn q HW.out rfl rfl ?_); (case hn => have := HML.out; unfold maxLen; omega); intro w5 hm5 hg5; have HM5 := Aside0.mk (show MSet Try.prog 3 4 w5 w.heap.size (q :: met) by rw [if_neg HNM.out] at hm5; exact hm5); have HB5 := Aside0.mk (HB4.out.grown hg5 HB4.out.size (fun j hj => by cases hj; exact Nat.le_refl _)); have hxp5 := (HB5.out.cell (World.block_lt_of_cell? w _ HXP.out)).trans HXP.out; clear hm5 hg5 HM4 HB4))
   refine (impl_exchange.calls k1 Ap cp (rd_L2 L (i - 1)) Ai ci (rd_L2 L i) x y ok _ (Kd.C_below HIP.out HB5.out) HLP.out (Kd.C_below HIE.out HB5.out) HLE.out HX.out).mono ?_
   rintro e w6 ⟨rfl, hb6⟩
   have HB6 := Aside0.mk (HB5.out.trans (hb6.mono HB5.out.size))
   have HM6 := Aside0.mk (HM5.out.below hb6)
   clear hb6 hxp5 HB5 HM5 hw1 q0 q0' q1
   cases ok
   ·simp only [Bool.false_eq_true, if_false] at H
    obtain rfl := Option.some.inj H
    clear H
    go_wp2
    go_ret
    exact ⟨rfl, HB6.out⟩
   simp only [if_true] at H
   obtain ⟨m, hm, H⟩ := Option.bind_eq_some_iff.mp H
   have HMY := Aside0.mk hm
   clear hm
   cases m
   ·simp only [Bool.false_eq_true, if_false] at H
    obtain rfl := Option.some.inj H
    clear H
    go_wp2_with fail
    refine (impl_anyExchange.calls x y false _ HMY.out).mono ?_
    rintro e w7 ⟨rfl, hd⟩
    have HB7 := Aside0.mk (HB6.out.trans ((by first | exact hd | exact Drawn0.below hd : Below w6.heap.size w6 w7).mono HB6.out.size))
    clear hd
    go_wp2
    go_ret
    exact ⟨rfl, HB7.out⟩
   ·simp only [if_true] at H
    have Hn := Aside0.mk H
    clear H
    go_wp2_with fail
    refine (impl_anyExchange.calls x y true _ HMY.out).mono ?_
    rintro e w7 ⟨rfl, hd⟩
    have hb7 : Below w6.heap.size w6 w7 := by first | exact hd | exact Drawn0.below hd
    have HB7 := Aside0.mk (HB6.out.trans (hb7.mono HB6.out.size))
    have HM7 := Aside0.mk (HM6.out.below hb7)
    clear hd hb7 HB6 HM6
    go_wp2
    go_roundg k1
    case measure => have := HK1.out; omega
    case rel => exact ⟨wrap64 (i + 1), q :: met, rfl, Hn, ⟨by have := HK1.out; omega⟩, HM7, HB7⟩
def impl_IsRoundExchange.f (k : Nat) (a0 a1 : Int) (l2 : List (List Int)) : Option (Bool × Bool) := (impl_isChoice.f a0 a1).bind fun t => (if t = true then ((impl_areCombinations.f k a0 l2).bind fun u => (if u = true then ((impl_IsRoundExchange.g0 k a0 a1 l2 0 []).bind fun r => (if r = true then (if 0 < l2.length then (if l2.length < 1000000 then ((impl_exchange.f k (rd_L2 l2 ((l2.length : Int) - 1)) (rd_L2 l2 0)).bind fun x => (some (x.2.2 || decide (l2.length = 1), true))) else none) else none) else some (false, true))) else some (false, false))) else some (false, false))
theorem impl_IsRoundExchange.mono : ∀ a0 a1 a2 k, LeO (impl_IsRoundExchange.f k a0 a1 a2) (impl_IsRoundExchange.f (k + 1) a0 a1 a2) := by
 intro a0 a1 a2 k
 unfold impl_IsRoundExchange.f
 exact LeO.bind (LeO.refl _) (fun _ => LeO.ite (LeO.bind (impl_areCombinations.mono _ _ _) (fun _ => LeO.ite (LeO.bind (impl_IsRoundExchange.g0_mono _ _ _ _ _ _) (fun _ => LeO.ite (LeO.ite (LeO.ite (LeO.bind (impl_exchange.mono _ _ _) (fun _ => LeO.refl _)) (LeO.none _)) (LeO.none _)) (LeO.refl _))) (LeO.refl _))) (LeO.refl _))
set_option maxHeartbeats 40000000 in
set_option maxRecDepth 100000 in
theorem impl_IsRoundExchange.hi (k : Nat) (a0 a1 : Int) (A2 : Option Addr) (c2 : Nat) (l2 : List (List Int)) (x y : Int) (ok : Bool) (w : World) (HR : Aside0 (Kd.C (Kd.slice 3 (Kd.int .i64)) w A2 l2.length l2)) (HC : Aside0 (l2.length ≤ c2)) (T1 : Aside0 (impl_isChoice.f a0 a1 = some true)) (T2 : Aside0 (impl_areCombinations.f k a0 l2 = some true)) (T3 : Aside0 (impl_IsRoundExchange.g0 k a0 a1 l2 0 [] = some true)) (hp : 0 < l2.length) (hq : l2.length < 1000000) (T4 : Aside0 (impl_exchange.f k (rd_L2 l2 ((l2.length : Int) - 1)) (rd_L2 l2 0) = some (x, y, ok))) :
  Calls Try.prog 26 #[.int .i64 a0, .int .i64 a1, .slice A2 l2.length c2] w fun e w' => e = .returned (.tuple #[.bool (ok || decide (l2.length = 1)), .bool true]) ∧ Below w.heap.size w w' := by
 obtain ⟨aX, Al, cl, eaX, hxl0, hll, hrl⟩ := at_L2 HR.out ((l2.length : Int) - 1) (by omega) (by omega)
 obtain ⟨aX', Af, cf, eaX', hxf0, hlf, hrf⟩ := at_L2 HR.out 0 (by omega) (by omega)
 cases eaX
 cases eaX'
 rw [show ((l2.length : Int) - 1).toNat = l2.length - 1 from by omega] at hxl0
 rw [show aX.add (Int.toNat 0) = aX from by simp [Addr.add]] at hxf0
 have HXL := Aside0.mk hxl0
 have HXF := Aside0.mk hxf0
 have HLL := Aside0.mk hll
 have HLF := Aside0.mk hlf
 have HRL := Aside0.mk hrl
 have HRF := Aside0.mk hrf
 have HPX := Aside0.mk hp
 have HQX := Aside0.mk hq
 clear hxl0 hxf0 hll hlf hrl hrf hp hq
 go_enter Try.func26, Try.ntmps26
 go_wp2_with fail
 refine (impl_isChoice.calls a0 a1 true _ T1.out).mono ?_
 rintro e w1 ⟨rfl, hd⟩
 have HB1 := Aside0.mk (Drawn0.below hd)
 clear hd
 go_wp2_with fail
 refine (impl_areCombinations.calls k a0 (some aX) c2 l2 true _ (Kd.C_below HR.out HB1.out) HC.out T2.out).mono ?_
 rintro e w2 ⟨rfl, hd⟩
 have HB2 := Aside0.mk (HB1.out.trans ((Drawn0.below hd).mono HB1.out.size))
 clear hd HB1
 go_wp2_with fail
 refine (impl_IsRoundExchange.goes k a0 a1 (some aX) c2 l2 true _ (Kd.C_below HR.out HB2.out) HC.out T3.out).mono ?_
 rintro e w3 ⟨rfl, hb⟩
 have HB := Aside0.mk (HB2.out.trans (hb.mono HB2.out.size))
 clear hb HB2
 have hxl := (HB.out.cell (World.block_lt_of_cell? w _ HXL.out)).trans HXL.out
 have hxf := (HB.out.cell (World.block_lt_of_cell? w _ HXF.out)).trans HXF.out
 have hw1 : IntKind.i64.wrap ((l2.length : Int) - 1) = (l2.length : Int) - 1 := IntWalk.i64_in _ (by have := HPX.out; have := HQX.out; omega)
 have q0 : (0 ≤ (l2.length : Int) - 1) = True := eq_true (by have := HPX.out; omega)
 have q1 : (1 ≤ (l2.length : Int)) = True := eq_true (by have := HPX.out; omega)
 have q2 : ((l2.length : Int) - 1 < (l2.length : Int)) = True := eq_true (by omega)
 have q3 : (1 ≤ l2.length) = True := eq_true (by have := HPX.out; omega)
 have q6 : (0 < l2.length) = True := eq_true HPX.out
 have q7 : (0 < (l2.length : Int)) = True := eq_true (by have := HPX.out; omega)
 go_wp2_with fail
 have n1_ := Aside0.mk (below_drew1 HB.out)
 clear HB
 have HB := n1_
 clear n1_
 refine start_ (n := 17) (S := fun w' => w'.cell? (aX.add (l2.length - 1)) = some (.slice Al (rd_L2 l2 ((l2.length : Int) - 1)).length cl) ∧ w'.cell? aX = some (.slice Af (rd_L2 l2 0).length cf)) (ds := []) #[false, false, false, false, false, false, false, false, false, false, false, false, false, false, false, false, false] (by kernel_rfl) rfl rfl ⟨hxl, hxf⟩ (fun hHeld => ?_)
 generalize w3.drew = w6 at HB hHeld ⊢
 clear hxl hxf
 refine pure_ (i := 0) (N := some 27) (v := ?_) (a' := ?_) #[true, false, false, false, false, false, false, false, false, false, false, false, false, false, false, false, false] rfl rfl (by kernel_rfl) (fun _ _ _ h => h) (Or.inl ⟨by rfl, ?_⟩) ?_ ?_
 rotate_left
 ·intro w'
  go_simp
  with_reducible rfl
 rotate_left
 ·simp only [Act.put, List.setIfInBounds_toArray, List.set_cons_zero, List.set_cons_succ, i64_w, i32_w]
  rfl
 refine pure_ (i := 1) (N := some 28) (v := ?_) (a' := ?_) #[true, true, false, false, false, false, false, false, false, false, false, false, false, false, false, false, false] rfl rfl (by kernel_rfl) (fun _ _ _ h => h) (Or.inl ⟨by rfl, ?_⟩) ?_ ?_
 rotate_left
 ·intro w'
  go_simp
  with_reducible rfl
 rotate_left
 ·simp only [Act.put, List.setIfInBounds_toArray, List.set_cons_zero, List.set_cons_succ, i64_w, i32_w]
  rfl
 refine pure_ (i := 2) (N := some 29) (v := ?_) (a' := ?_) #[true, true, true, false, false, false, false, false, false, false, false, false, false, false, false, false, false] rfl rfl (by kernel_rfl) (fun _ _ _ h => h) (Or.inl ⟨by rfl, ?_⟩) ?_ ?_
 rotate_left
 ·intro w'
  go_simp
  with_reducible rfl
 rotate_left
 ·simp only [Act.put, List.setIfInBounds_toArray, List.set_cons_zero, List.set_cons_succ, i64_w, i32_w]
  rfl
 refine pure_ (i := 3) (N := some 30) (v := ?_) (a' := ?_) #[true, true, true, true, false, false, false, false, false, false, false, false, false, false, false, false, false] rfl rfl (by kernel_rfl) (fun _ _ _ h => h) (Or.inl ⟨by rfl, ?_⟩) ?_ ?_
 rotate_left
 ·intro w'
  go_simp
  with_reducible rfl
 rotate_left
 ·simp only [Act.put, List.setIfInBounds_toArray, List.set_cons_zero, List.set_cons_succ, i64_w, i32_w]
  rfl
 refine pure_ (i := 4) (N := some 31) (v := ?_) (a' := ?_) #[true, true, true, true, true, false, false, false, false, false, false, false, false, false, false, false, false] rfl rfl (by kernel_rfl) (fun _ _ _ h => h) (Or.inl ⟨by rfl, ?_⟩) ?_ ?_
 rotate_left
 ·intro w'
  go_simp
  with_reducible rfl
 rotate_left
 ·simp only [Act.put, List.setIfInBounds_toArray, List.set_cons_zero, List.set_cons_succ, i64_w, i32_w]
  rfl
 refine pure_ (i := 6) (N := some 33) (v := ?_) (a' := ?_) #[true, true, true, true, true, false, true, false, false, false, false, false, false, false, false, false, false] rfl rfl (by kernel_rfl) (fun _ _ _ h => h) (Or.inl ⟨by rfl, ?_⟩) ?_ ?_
 rotate_left
 ·intro w'
  go_simp
  with_reducible rfl
 rotate_left
 ·simp only [Act.put, List.setIfInBounds_toArray, List.set_cons_zero, List.set_cons_succ, i64_w, i32_w]
  rfl
 refine pure_ (i := 7) (N := some 34) (v := ?_) (a' := ?_) #[true, true, true, true, true, false, true, true, false, false, false, false, false, false, false, false, false] rfl rfl (by kernel_rfl) (fun _ _ _ h => h) (Or.inl ⟨by rfl, ?_⟩) ?_ ?_
 rotate_left
 ·intro w'
  go_simp
  with_reducible rfl
 rotate_left
 ·simp only [Act.put, List.setIfInBounds_toArray, List.set_cons_zero, List.set_cons_succ, i64_w, i32_w]
  rfl
 refine take_ (i := 5) (N := some 32) (v := ?_) (a' := ?_) #[true, true, true, true, true, true, true, true, false, false, false, false, false, false, false, false, false] rfl rfl (by kernel_rfl) (fun _ _ _ h => h) (Or.inl ⟨by rfl, ?_⟩) hHeld ?_ ?_
 rotate_left
 ·rintro w' ⟨s0, s1⟩
  go_simp
  with_reducible rfl
 rotate_left
 ·simp only [Act.put, List.setIfInBounds_toArray, List.set_cons_zero, List.set_cons_succ, i64_w, i32_w]
  rfl
 refine take_ (i := 8) (N := some 35) (v := ?_) (a' := ?_) #[true, true, true, true, true, true, true, true, true, false, false, false, false, false, false, false, false] rfl rfl (by kernel_rfl) (fun _ _ _ h => h) (Or.inl ⟨by rfl, ?_⟩) hHeld ?_ ?_
 rotate_left
 ·rintro w' ⟨s0, s1⟩
  go_simp
  with_reducible rfl
 rotate_left
 ·simp only [Act.put, List.setIfInBounds_toArray, List.set_cons_zero, List.set_cons_succ, i64_w, i32_w]
  rfl
 refine one_ (i := 9) (N := some 36) #[true, true, true, true, true, true, true, true, true, true, false, false, false, false, false, false, false] rfl rfl (by kernel_rfl) (by decide) (fun K hK => ?_)
 refine goes_ Try.func39 (by kernel_rfl) rfl #[.slice Al (rd_L2 l2 ((l2.length : Int) - 1)).length cl, .slice Af (rd_L2 l2 0).length cf] (by rfl) rfl rfl (by simp only [List.map_toArray, List.map_cons, List.map_nil]; rfl) ?_
 with_reducible refine (impl_exchange.calls k Al cl (rd_L2 l2 ((l2.length : Int) - 1)) Af cf (rd_L2 l2 0) x y ok _ (Kd.C_below HRL.out HB.out) HLL.out (Kd.C_below HRF.out HB.out) HLF.out T4.out).mono ?_
 rintro e w7 ⟨rfl, hb⟩
 refine ⟨_, rfl, ?_⟩
 have hs0 := (hb.cell (World.block_lt_of_cell? _ _ (hHeld.1))).trans (hHeld.1)
 have hs1 := (hb.cell (World.block_lt_of_cell? _ _ (hHeld.2))).trans (hHeld.2)
 have n0_ := Aside0.mk (HB.out.trans (hb.mono HB.out.size))
 clear HB hb
 have HB := n0_
 clear n0_
 refine hK.out _ _ ⟨hs0, hs1⟩ (fun hHeld => ?_)
 clear hK K
 refine norm_ (a' := ?_) ?_ ?_
 rotate_left
 ·show Act.put _ (some 36) _ = _
  simp only [Act.put, List.setIfInBounds_toArray, List.set_cons_zero, List.set_cons_succ, i64_w, i32_w]
  rfl
 refine pure_ (i := 10) (N := some 26) (v := ?_) (a' := ?_) #[true, true, true, true, true, true, true, true, true, true, true, false, false, false, false, false, false] rfl rfl (by kernel_rfl) (fun _ _ _ h => h) (Or.inl ⟨by rfl, ?_⟩) ?_ ?_
 rotate_left
 ·intro w'
  go_simp
  with_reducible rfl
 rotate_left
 ·simp only [Act.put, List.setIfInBounds_toArray, List.set_cons_zero, List.set_cons_succ, i64_w, i32_w]
  rfl
 refine pure_ (i := 11) (N := some 37) (v := ?_) (a' := ?_) #[true, true, true, true, true, true, true, true, true, true, true, true, false, false, false, false, false] rfl rfl (by kernel_rfl) (fun _ _ _ h => h) (Or.inl ⟨by rfl, ?_⟩) ?_ ?_
 rotate_left
 ·intro w'
  go_simp
  with_reducible rfl
 rotate_left
 ·simp only [Act.put, List.setIfInBounds_toArray, List.set_cons_zero, List.set_cons_succ, i64_w, i32_w]
  rfl
 refine pure_ (i := 12) (N := some 38) (v := ?_) (a' := ?_) #[true, true, true, true, true, true, true, true, true, true, true, true, true, false, false, false, false] rfl rfl (by kernel_rfl) (fun _ _ _ h => h) (Or.inl ⟨by rfl, ?_⟩) ?_ ?_
 rotate_left
 ·intro w'
  go_simp
  with_reducible rfl
 rotate_left
 ·simp only [Act.put, List.setIfInBounds_toArray, List.set_cons_zero, List.set_cons_succ, i64_w, i32_w]
  rfl
 refine pure_ (i := 13) (N := some 39) (v := ?_) (a' := ?_) #[true, true, true, true, true, true, true, true, true, true, true, true, true, true, false, false, false] rfl rfl (by kernel_rfl) (fun _ _ _ h => h) (Or.inl ⟨by rfl, ?_⟩) ?_ ?_
 rotate_left
 ·intro w'
  go_simp
  with_reducible rfl
 rotate_left
 ·simp only [Act.put, List.setIfInBounds_toArray, List.set_cons_zero, List.set_cons_succ, i64_w, i32_w]
  rfl
 refine pure_ (i := 14) (N := some 8) (v := ?_) (a' := ?_) #[true, true, true, true, true, true, true, true, true, true, true, true, true, true, true, false, false] rfl rfl (by kernel_rfl) (fun _ _ _ h => h) (Or.inl ⟨by rfl, ?_⟩) ?_ ?_
 rotate_left
 ·intro w'
  go_simp
  with_reducible rfl
 rotate_left
 ·simp only [Act.put, List.setIfInBounds_toArray, List.set_cons_zero, List.set_cons_succ, i64_w, i32_w]
  rfl
 refine pure_ (i := 15) (N := some 9) (v := ?_) (a' := ?_) #[true, true, true, true, true, true, true, true, true, true, true, true, true, true, true, true, false] rfl rfl (by kernel_rfl) (fun _ _ _ h => h) (Or.inl ⟨by rfl, ?_⟩) ?_ ?_
 rotate_left
 ·intro w'
  go_simp
  with_reducible rfl
 rotate_left
 ·simp only [Act.put, List.setIfInBounds_toArray, List.set_cons_zero, List.set_cons_succ, i64_w, i32_w]
  rfl
 refine pure_ (i := 16) (N := some 10) (v := ?_) (a' := ?_) #[true, true, true, true, true, true, true, true, true, true, true, true, true, true, true, true, true] rfl rfl (by kernel_rfl) (fun _ _ _ h => h) (Or.inl ⟨by rfl, ?_⟩) ?_ ?_
 rotate_left
 ·intro w'
  go_simp
  with_reducible rfl
 rotate_left
 ·simp only [Act.put, List.setIfInBounds_toArray, List.set_cons_zero, List.set_cons_succ, i64_w, i32_w]
  rfl
 refine done_ (by kernel_rfl) ?_
 clear hw1 q0 q1 q2 q3 q6 q7
 cases ok
 ·have HZ := Aside0.mk (show ((l2.length : Int) == 1) = decide (l2.length = 1) by rw [Bool.eq_iff_iff]; simp only [beq_iff_eq, decide_eq_true_eq]; omega)
  go_wp2
  go_ret2
  exact ⟨by first | rfl | simp [HZ.out] | simp, HB.out⟩
 ·go_wp2
  go_ret2
  exact ⟨by first | rfl | simp, HB.out⟩
set_option maxHeartbeats 8000000 in
set_option maxRecDepth 100000 in
theorem impl_IsRoundExchange.calls (k : Nat) (a0 a1 : Int) (A2 : Option Addr) (c2 : Nat) (l2 : List (List Int)) (r1 r2 : Bool) (w : World) (hr2 : Kd.C (Kd.slice 3 (Kd.int .i64)) w A2 l2.length l2) (hc2 : l2.length ≤ c2) (h : impl_IsRoundExchange.f k a0 a1 l2 = some (r1, r2)) :
  Calls Try.prog 26 #[.int .i64 a0, .int .i64 a1, .slice A2 l2.length c2] w fun e w' => e = .returned (.tuple #[.bool r1, .bool r2]) ∧ Below w.heap.size w w' := by
 have HR := Aside0.mk hr2
 have HC := Aside0.mk hc2
 unfold impl_IsRoundExchange.f at h
 obtain ⟨t1, h1, H⟩ := Option.bind_eq_some_iff.mp h
 have T1 := Aside0.mk h1
 clear h h1 hr2 hc2
 cases t1
 ·simp only [Bool.false_eq_true, if_false, Option.some.injEq, Prod.mk.injEq] at H
  obtain ⟨rfl, rfl⟩ := H
  go_enter Try.func26, Try.ntmps26
  go_wp2_with fail
  refine (impl_isChoice.calls a0 a1 false _ T1.out).mono ?_
  rintro e w1 ⟨rfl, hd⟩
  have HB1 := Aside0.mk (Drawn0.below hd)
  clear hd
  go_wp2
  go_ret2
  exact ⟨rfl, HB1.out⟩
 simp only [if_true] at H
 obtain ⟨t2, h2, H⟩ := Option.bind_eq_some_iff.mp H
 have T2 := Aside0.mk h2
 clear h2
 cases t2
 ·simp only [Bool.false_eq_true, if_false, Option.some.injEq, Prod.mk.injEq] at H
  obtain ⟨rfl, rfl⟩ := H
  go_enter Try.func26, Try.ntmps26
  go_wp2_with fail
  refine (impl_isChoice.calls a0 a1 true _ T1.out).mono ?_
  rintro e w1 ⟨rfl, hd⟩
  have HB1 := Aside0.mk (Drawn0.below hd)
  clear hd
  go_wp2_with fail
  refine (impl_areCombinations.calls k a0 A2 c2 l2 false _ (Kd.C_below HR.out HB1.out) HC.out T2.out).mono ?_
  rintro e w2 ⟨rfl, hd⟩
  have HB2 := Aside0.mk (HB1.out.trans ((Drawn0.below hd).mono HB1.out.size))
  clear hd
  go_wp2
  go_ret2
  exact ⟨rfl, HB2.out⟩
 simp only [if_true] at H
 obtain ⟨r, hr, H⟩ := Option.bind_eq_some_iff.mp H
 have T3 := Aside0.mk hr
 clear hr
 cases r
 ·simp only [Bool.false_eq_true, if_false, Option.some.injEq, Prod.mk.injEq] at H
  obtain ⟨rfl, rfl⟩ := H
  go_enter Try.func26, Try.ntmps26
  go_wp2_with fail
  refine (impl_isChoice.calls a0 a1 true _ T1.out).mono ?_
  rintro e w1 ⟨rfl, hd⟩
  have HB1 := Aside0.mk (Drawn0.below hd)
  clear hd
  go_wp2_with fail
  refine (impl_areCombinations.calls k a0 A2 c2 l2 true _ (Kd.C_below HR.out HB1.out) HC.out T2.out).mono ?_
  rintro e w2 ⟨rfl, hd⟩
  have HB2 := Aside0.mk (HB1.out.trans ((Drawn0.below hd).mono HB1.out.size))
  clear hd HB1
  go_wp2_with fail
  refine (impl_IsRoundExchange.goes k a0 a1 A2 c2 l2 false _ (Kd.C_below HR.out HB2.out) HC.out T3.out).mono ?_
  rintro e w3 ⟨rfl, hb⟩
  have HB := Aside0.mk (HB2.out.trans (hb.mono HB2.out.size))
  clear hb HB2
  go_wp2
  go_ret2
  exact ⟨rfl, HB.out⟩
 simp only [if_true] at H
 by_cases hp : 0 < l2.length
 rotate_left
 ·rw [if_neg hp] at H; cases H
 rw [if_pos hp] at H
 by_cases hq : l2.length < 1000000
 rotate_left
 ·rw [if_neg hq] at H; cases H
 rw [if_pos hq] at H
 obtain ⟨⟨x, y, ok⟩, hx, H⟩ := Option.bind_eq_some_iff.mp H
 simp only [Option.some.injEq, Prod.mk.injEq] at H
 obtain ⟨rfl, rfl⟩ := H
 have T4 := Aside0.mk hx
 clear hx
 exact impl_IsRoundExchange.hi k a0 a1 A2 c2 l2 x y ok w HR HC T1 T2 T3 hp hq T4
end Go.Proofs.Ytmkokfljonbcmaa.MFnExchanges
