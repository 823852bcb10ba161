/- The pure statement of FnExactGreedyList: for all arguments that fit, the law as a Lean function answers true after enough rounds. -/
import Derived.Test.YtcplfdfmebibpaaMFnExactGreedyListx1
import Derived.Test.YtcplfdfmebibpaaMFnExactGreedyListx2
import Derived.Test.YtcplfdfmebibpaaMFnExactGreedyListx3
import Derived.Test.YtcplfdfmebibpaaMFnExactGreedyListx4
import Derived.Test.YtcplfdfmebibpaaMFnExactGreedyListx5
import Derived.Test.YtcplfdfmebibpaaMFnExactGreedyListx6
import Derived.Test.YtcplfdfmebibpaaMFnExactGreedyListx7
import Derived.Test.YtcplfdfmebibpaaMFnExactGreedyListx8
import Derived.Test.YtcplfdfmebibpaaMFnExactGreedyListx9
import Derived.Test.YtcplfdfmebibpaaMFnExactGreedyListx10
import Derived.Test.YtcplfdfmebibpaaBase
import Derived.Test.YtcplfdfmebibpaaComb
import Derived.Test.YtcplfdfmebibpaaTrot
import Derived.Test.YtcplfdfmebibpaaMoves
import Derived.Test.YtcplfdfmebibpaaPerms
import Derived.Test.YtcplfdfmebibpaaPerm5
namespace Go.Proofs.Ytcplfdfmebibpaa.Pure
open Go.RowKit Go.Proofs.Ytcplfdfmebibpaa.MFnExactGreedyList Go.Proofs.YtcplfdfmebibpaaW.PrintWords Go.Proofs.YtcplfdfmebibpaaW.PrintLast Go.Proofs.Ytcplfdfmebibpaa.Base Go.Proofs.Ytcplfdfmebibpaa.Comb Go.Proofs.Ytcplfdfmebibpaa.Trot Go.Proofs.Ytcplfdfmebibpaa.Moves Go.Proofs.Ytcplfdfmebibpaa.Perms Go.Proofs.Ytcplfdfmebibpaa.Perm5
set_option linter.unusedVariables false
set_option linter.unusedSimpArgs false

/-! laws_szMoveS -/
theorem szMoveS_eq (l : List S53) (h : l.length ≤ maxLen) : laws_szMoveS.f l 1048576 = some (if l.length ≤ 1048576 then (1048576 - (l.length : Int)) else -1) := by
  have hm : maxLen = 9223372036854775807 := rfl
  unfold laws_szMoveS.f
  rw [wr (by omega) (by omega)]
  by_cases c : l.length ≤ 1048576
  · rw [if_neg (by omega), if_pos c]
  · rw [if_pos (by omega), if_neg c]
theorem szMoveS_left (l : List S53) (s : Int) (h : l.length ≤ maxLen) (h0 : 0 ≤ s) (h1 : s ≤ 1048576) : laws_szMoveS.f l s = some (if (l.length : Int) ≤ s then (s - (l.length : Int)) else -1) := by
  have hm : maxLen = 9223372036854775807 := rfl
  unfold laws_szMoveS.f
  rw [wr (by omega) (by omega)]
  by_cases c : (l.length : Int) ≤ s
  · rw [if_neg (by omega), if_pos c]
  · rw [if_pos (by omega), if_neg c]
/-! laws_toMoveS -/
def conv (l : List S53) : List S55 := l.map fun m => (⟨m.f0, m.f1, m.f2⟩ : S55)
theorem conv_length (l : List S53) : (conv l).length = l.length := by simp [conv]
theorem toMoveS_l0 (x0 : List S53) (hn : x0.length ≤ 1048576) : ∀ (d : Nat) (x3 : List S55) (j : Int), 0 ≤ j → j.toNat + d = x0.length → x3.length = x0.length → x3.take j.toNat = (conv x0).take j.toNat →
    Ev (fun k => laws_toMoveS.l0 k x0 x3 j) (conv x0) := by
  intro d
  have hc := conv_length x0
  induction d with
  | zero =>
    intro x3 j h0 hd hl ht
    refine Ev.step (fun k => by rw [laws_toMoveS.l0]) ?_
    refine evNeg (by omega) ?_
    rw [List.take_of_length_le (by omega), List.take_of_length_le (by omega)] at ht
    exact evEq ht
  | succ d ih =>
    intro x3 j h0 hd hl ht
    refine Ev.step (fun k => by rw [laws_toMoveS.l0]) ?_
    refine evPos (by omega) (evPos (by omega) (evSome (evPos (by omega) ?_)))
    rw [wr (by omega) (by omega)]
    refine ih _ _ (by omega) (by omega) (by simpa using hl) ?_
    rw [set_takeG x3 j _ h0 (by omega), ht, show (j + 1).toNat = j.toNat + 1 by omega, List.take_add_one]
    congr 1
    simp only [conv, List.getElem?_map, rd_T53, List.getD_eq_getElem?_getD]
    rw [List.getElem?_eq_getElem (show j.toNat < x0.length by omega)]
    rfl
theorem toMoveS_ev (l : List S53) (hn : l.length ≤ 1048576) : Ev (fun k => laws_toMoveS.f k l) (conv l) := by
  unfold laws_toMoveS.f
  refine evPos (by omega) (evPos (by simp; omega) ?_)
  exact toMoveS_l0 l hn l.length _ 0 (by omega) (by simp) (by simp) (by simp)
/-! laws_eqMoveS -/
theorem eqMoveS_l0 (a : List S55) (hn : a.length ≤ 1048576) : ∀ (d : Nat) (j : Int), 0 ≤ j → j.toNat + d = a.length → Ev (fun k => laws_eqMoveS.l0 k a a j) true := by
  intro d
  induction d with
  | zero =>
    intro j h0 hd
    refine Ev.step (fun k => by rw [laws_eqMoveS.l0]) ?_
    exact evNeg (by omega) (Ev.now _)
  | succ d ih =>
    intro j h0 hd
    refine Ev.step (fun k => by rw [laws_eqMoveS.l0]) ?_
    refine evPos (by omega) (evPos (by omega) (evPos (by omega) ?_))
    rw [wr (by omega) (by omega)]
    have e : ∀ x y z : Int, laws_eqMove.f x y z x y z = some true := by intro x y z; unfold laws_eqMove.f; rw [if_pos rfl, if_pos rfl, if_pos rfl]
    rw [e]
    exact evSome (evPos rfl (ih _ (by omega) (by omega)))
theorem eqMoveS_self (a : List S55) (hn : a.length ≤ 1048576) : Ev (fun k => laws_eqMoveS.f k a a) true := by
  unfold laws_eqMoveS.f
  exact evPos rfl (eqMoveS_l0 a hn a.length 0 (by omega) (by simp))
/-! laws_eqIntS -/
theorem eqIntS_l0 (a b : List Int) (hn : a.length ≤ 35184372088832) (hb : a.length = b.length) : ∀ (d : Nat) (j : Int), 0 ≤ j → j.toNat + d = a.length →
    Ev (fun k => laws_eqIntS.l0 k a b j) (decide (a.drop j.toNat = b.drop j.toNat)) := by
  intro d
  induction d with
  | zero =>
    intro j h0 hd
    refine Ev.step (fun k => by rw [laws_eqIntS.l0]) ?_
    refine evNeg (by omega) ?_
    rw [drop_end a j (by omega), drop_end b j (by omega)]
    exact evEq rfl
  | succ d ih =>
    intro j h0 hd
    refine Ev.step (fun k => by rw [laws_eqIntS.l0]) ?_
    refine evPos (by omega) (evPos (by omega) (evPos (by omega) ?_))
    rw [wr (by omega) (by omega), drop_rd a j h0 (by omega), drop_rd b j h0 (by omega)]
    by_cases c : rd a j = rd b j
    · refine evPos c (evTo (ih _ (by omega) (by omega)) ?_)
      simp [c]
    · refine evNeg c (evEq ?_)
      simp [c]
theorem eqIntS_ev (a b : List Int) (hn : a.length ≤ 35184372088832) : Ev (fun k => laws_eqIntS.f k a b) (decide (a = b)) := by
  unfold laws_eqIntS.f
  by_cases hb : a.length = b.length
  · exact evPos (by omega) (eqIntS_l0 a b hn hb a.length 0 (by omega) (by simp))
  · refine evNeg (by omega) (evEq ?_)
    exact (decide_eq_false (fun e => hb (by rw [e]))).symm
theorem eqIntS_self (a : List Int) (hn : a.length ≤ 35184372088832) : Ev (fun k => laws_eqIntS.f k a a) true := evTo (eqIntS_ev a a hn) (by simp)
/-! laws_eqIntSS -/
theorem eqIntSS_self (L : List (List Int)) (hn : L.length ≤ 1000000000) (hl : ∀ t ∈ L, t.length ≤ 35184372088832) : Ev (fun k => laws_eqIntSS.f k L L) true := by
  have key : ∀ (d : Nat) (j : Int), 0 ≤ j → j.toNat + d = L.length → Ev (fun k => laws_eqIntSS.l0 k L L j) true := by
    intro d
    induction d with
    | zero =>
      intro j h0 hd
      refine Ev.step (fun k => by rw [laws_eqIntSS.l0]) ?_
      exact evNeg (by omega) (Ev.now _)
    | succ d ih =>
      intro j h0 hd
      refine Ev.step (fun k => by rw [laws_eqIntSS.l0]) ?_
      have hm : rd_L3 L j ∈ L := by
        unfold rd_L3
        rw [List.getD_eq_getElem?_getD, List.getElem?_eq_getElem (show j.toNat < L.length by omega)]
        exact List.getElem_mem _
      refine evPos (by omega) (evPos (by omega) (evPos (by omega) (Ev.bind (eqIntS_self _ (hl _ hm)) (evPos rfl ?_))))
      rw [wr (by omega) (by omega)]
      exact ih _ (by omega) (by omega)
  unfold laws_eqIntSS.f
  exact evPos rfl (key L.length 0 (by omega) (by simp))
/-! laws_markMoveS -/
theorem markMoveS_l0 : ∀ (d : Nat) (xs : List S55) (m j : Int), 0 ≤ j → j.toNat + d = xs.length → xs.length ≤ 1048576 → 0 ≤ m → m + 3 * d ≤ 70368744177664 →
    ∃ l', Ev (fun k => laws_markMoveS.l0 k xs m j) (m + 3 * d, l') := by
  intro d
  induction d with
  | zero =>
    intro xs m j h0 hd hn hm hk
    refine ⟨xs, ?_⟩
    refine Ev.step (fun k => by rw [laws_markMoveS.l0]) ?_
    exact evNeg (by omega) (evEq (by simp))
  | succ d ih =>
    intro xs m j h0 hd hn hm hk
    obtain ⟨l', h⟩ := ih (((xs.set j.toNat (⟨m, (rd_T55 xs j).f1, (rd_T55 xs j).f2⟩ : S55)).set j.toNat (⟨(rd_T55 (xs.set j.toNat (⟨m, (rd_T55 xs j).f1, (rd_T55 xs j).f2⟩ : S55)) j).f0, m + 1, (rd_T55 (xs.set j.toNat (⟨m, (rd_T55 xs j).f1, (rd_T55 xs j).f2⟩ : S55)) j).f2⟩ : S55)).set j.toNat (⟨(rd_T55 ((xs.set j.toNat (⟨m, (rd_T55 xs j).f1, (rd_T55 xs j).f2⟩ : S55)).set j.toNat (⟨(rd_T55 (xs.set j.toNat (⟨m, (rd_T55 xs j).f1, (rd_T55 xs j).f2⟩ : S55)) j).f0, m + 1, (rd_T55 (xs.set j.toNat (⟨m, (rd_T55 xs j).f1, (rd_T55 xs j).f2⟩ : S55)) j).f2⟩ : S55)) j).f0, (rd_T55 ((xs.set j.toNat (⟨m, (rd_T55 xs j).f1, (rd_T55 xs j).f2⟩ : S55)).set j.toNat (⟨(rd_T55 (xs.set j.toNat (⟨m, (rd_T55 xs j).f1, (rd_T55 xs j).f2⟩ : S55)) j).f0, m + 1, (rd_T55 (xs.set j.toNat (⟨m, (rd_T55 xs j).f1, (rd_T55 xs j).f2⟩ : S55)) j).f2⟩ : S55)) j).f1, m + 1 + 1⟩ : S55)) (m + 1 + 1 + 1) (j + 1) (by omega) (by simp; omega) (by simpa using hn) (by omega) (by omega)
    refine ⟨l', ?_⟩
    refine Ev.step (fun k => by rw [laws_markMoveS.l0]) ?_
    refine evPos (by omega) (evPos h0 (evSome (evSome ?_)))
    simp (disch := omega) only [wr]
    exact evTo h (by simp; omega)
theorem markMoveS_ev (xs : List S55) (hn : xs.length ≤ 1048576) : ∃ l', Ev (fun k => laws_markMoveS.f k xs 1) (1 + 3 * (xs.length : Int), l') := by
  unfold laws_markMoveS.f
  exact markMoveS_l0 xs.length xs 1 0 (by omega) (by simp) hn (by omega) (by omega)
/-! laws_markIntS -/
theorem markIntS_l0 : ∀ (d : Nat) (xs : List Int) (m j : Int), 0 ≤ j → j.toNat + d = xs.length → xs.length ≤ 35184372088832 → 0 ≤ m → m + d ≤ 70368744177664 →
    Ev (fun k => laws_markIntS.l0 k xs m j) (m + d, xs.take j.toNat ++ iotaI m d) := by
  intro d
  induction d with
  | zero =>
    intro xs m j h0 hd hn hm hk
    refine Ev.step (fun k => by rw [laws_markIntS.l0]) ?_
    refine evNeg (by omega) (evEq ?_)
    rw [take_end xs j (by omega)]
    simp [iotaI]
  | succ d ih =>
    intro xs m j h0 hd hn hm hk
    refine Ev.step (fun k => by rw [laws_markIntS.l0]) ?_
    refine evPos (by omega) (evPos (by omega) ?_)
    rw [wr (by omega) (by omega), wr (by omega) (by omega)]
    refine evTo (ih (xs.set j.toNat m) (m + 1) (j + 1) (by omega) (by simp; omega) (by simpa using hn) (by omega) (by omega)) ?_
    rw [set_takeI xs j m h0 (by omega)]
    simp [iotaI]
    omega
theorem markIntS_ev (xs : List Int) (m : Int) (hn : xs.length ≤ 35184372088832) (hm : 0 ≤ m) (hk : m + xs.length ≤ 70368744177664) :
    Ev (fun k => laws_markIntS.f k xs m) (m + xs.length, iotaI m xs.length) := by
  unfold laws_markIntS.f
  refine evTo (markIntS_l0 xs.length xs m 0 (by omega) (by simp) hn hm hk) (by simp)
/-! laws_markIntSS -/
theorem markIntSS_l0 (B : Nat) (hB : B ≤ 1100000) : ∀ (d : Nat) (L : List (List Int)) (m j : Int), 0 ≤ j → j.toNat + d = L.length → L.length ≤ 1100000 → (∀ t ∈ L, t.length ≤ B) → 0 ≤ m → m + d * B ≤ 70368744177664 →
    Ev (fun k => laws_markIntSS.l0 k L m j) (m + sumLen (L.drop j.toNat), L.take j.toNat ++ iotaSS m (L.drop j.toNat)) := by
  intro d
  induction d with
  | zero =>
    intro L m j h0 hd hn hl hm hk
    refine Ev.step (fun k => by rw [laws_markIntSS.l0]) ?_
    refine evNeg (by omega) (evEq ?_)
    rw [take_end L j (by omega), drop_end L j (by omega)]
    simp [sumLen, iotaSS]
  | succ d ih =>
    intro L m j h0 hd hn hl hm hk
    refine Ev.step (fun k => by rw [laws_markIntSS.l0]) ?_
    have hm1 : rd_L3 L j ∈ L := by
      unfold rd_L3
      rw [List.getD_eq_getElem?_getD, List.getElem?_eq_getElem (show j.toNat < L.length by omega)]
      exact List.getElem_mem _
    have hb := hl _ hm1
    have hmul : (d + 1) * B = d * B + B := Nat.succ_mul d B
    have hk2 : ((d + 1 : Nat) : Int) * (B : Int) = d * B + B := by exact_mod_cast hmul
    have hnn : 0 ≤ (d : Int) * (B : Int) := Int.mul_nonneg (by omega) (by omega)
    refine evPos (by omega) (evPos (by omega) (Ev.bind (markIntS_ev _ m (by omega) hm (by omega)) ?_))
    rw [wr (by omega) (by omega)]
    refine evTo (ih (L.set j.toNat (iotaI m (rd_L3 L j).length)) (m + (rd_L3 L j).length) (j + 1) (by omega) (by simp; omega) (by simpa using hn) (fun t ht => ?_) (by omega) (by omega)) ?_
    · rcases List.mem_or_eq_of_mem_set ht with ht | rfl
      · exact hl t ht
      · rw [iotaI_length]; exact hb
    · have hdrop : (L.set j.toNat (iotaI m (rd_L3 L j).length)).drop (j + 1).toNat = L.drop (j + 1).toNat := by
        rw [List.drop_set, if_pos (by omega)]
      have htake : (L.set j.toNat (iotaI m (rd_L3 L j).length)).take (j + 1).toNat = L.take j.toNat ++ [iotaI m (rd_L3 L j).length] := by
        have hjl : j.toNat < L.length := by omega
        rw [show (j + 1).toNat = j.toNat + 1 from by omega, List.take_succ_eq_append_getElem (by simpa using hjl)]
        simp [List.take_set_of_le]
      have hcons : L.drop j.toNat = rd_L3 L j :: L.drop (j + 1).toNat := dropD [] L j h0 (by omega)
      rw [hdrop, htake, hcons]
      simp only [sumLen, iotaSS, List.append_assoc, List.singleton_append]
      congr 1; omega
theorem markIntSS_ev (L : List (List Int)) (m : Int) (B : Nat) (hB : B ≤ 1100000) (hn : L.length ≤ 1100000) (hl : ∀ t ∈ L, t.length ≤ B) (hm : 0 ≤ m) (hm2 : m ≤ 2200000) :
    Ev (fun k => laws_markIntSS.f k L m) (m + sumLen L, iotaSS m L) := by
  unfold laws_markIntSS.f
  have h1 : L.length * B ≤ 1210000000000 := Nat.le_trans (Nat.mul_le_mul hn hB) (by decide)
  have h2 : ((L.length * B : Nat) : Int) ≤ 1210000000000 := by omega
  rw [Int.natCast_mul] at h2
  exact evTo (markIntSS_l0 B hB L.length L m 0 (by omega) (by simp) hn hl hm (by omega)) (by simp)
/-! laws_heldIntS -/
theorem heldIntS_l0 (xs : List Int) (hn : xs.length ≤ 35184372088832) : ∀ (d : Nat) (m j : Int), 0 ≤ j → j.toNat + d = xs.length → 0 ≤ m → m + d ≤ 70368744177664 → (∀ i : Int, j ≤ i → i < xs.length → rd xs i = m + (i - j)) →
    Ev (fun k => laws_heldIntS.l0 k xs m j) (m + d) := by
  intro d
  induction d with
  | zero =>
    intro m j h0 hd hm hk h
    refine Ev.step (fun k => by rw [laws_heldIntS.l0]) ?_
    exact evNeg (by omega) (evEq (by simp))
  | succ d ih =>
    intro m j h0 hd hm hk h
    refine Ev.step (fun k => by rw [laws_heldIntS.l0]) ?_
    have hr := h j (by omega) (by omega)
    refine evPos (by omega) (evPos (by omega) (evPos (by omega) ?_))
    rw [wr (by omega) (by omega), wr (by omega) (by omega)]
    refine evTo (ih (m + 1) (j + 1) (by omega) (by omega) (by omega) (by omega) (fun i h1 h2 => ?_)) (by omega)
    rw [h i (by omega) h2]; omega
theorem heldIntS_ev (n : Nat) (m : Int) (hn : n ≤ 35184372088832) (hm : 0 ≤ m) (hk : m + n ≤ 70368744177664) :
    Ev (fun k => laws_heldIntS.f k (iotaI m n) m) (m + n) := by
  unfold laws_heldIntS.f
  have hl := iotaI_length m n
  refine heldIntS_l0 (iotaI m n) (by omega) n m 0 (by omega) (by omega) hm hk (fun i h1 h2 => ?_)
  rw [iotaI_rd n m i h1 (by omega)]; omega
/-! laws_heldIntSS -/
theorem heldIntSS_l0 (B : Nat) (hB : B ≤ 1100000) (L0 : List (List Int)) (hn : L0.length ≤ 1100000) : ∀ (d : Nat) (T : List (List Int)) (m j : Int), 0 ≤ j → j.toNat + d = L0.length → T.length = d → L0.drop j.toNat = iotaSS m T → (∀ t ∈ T, t.length ≤ B) → 0 ≤ m → m + d * B ≤ 70368744177664 →
    Ev (fun k => laws_heldIntSS.l0 k L0 m j) (m + sumLen T) := by
  intro d
  induction d with
  | zero =>
    intro T m j h0 hd hT hL hl hm hk
    refine Ev.step (fun k => by rw [laws_heldIntSS.l0]) ?_
    refine evNeg (by omega) (evEq ?_)
    rw [List.length_eq_zero_iff.1 hT]; simp [sumLen]
  | succ d ih =>
    intro T m j h0 hd hT hL hl hm hk
    refine Ev.step (fun k => by rw [laws_heldIntSS.l0]) ?_
    cases T with
    | nil => simp at hT
    | cons t T =>
      have hcons : L0.drop j.toNat = rd_L3 L0 j :: L0.drop (j + 1).toNat := dropD [] L0 j h0 (by omega)
      rw [hcons] at hL
      simp only [iotaSS, List.cons.injEq] at hL
      have hb := hl t (by simp)
      have hmul : (d + 1) * B = d * B + B := Nat.succ_mul d B
      have hk2 : ((d + 1 : Nat) : Int) * (B : Int) = d * B + B := by exact_mod_cast hmul
      have hnn : 0 ≤ (d : Int) * (B : Int) := Int.mul_nonneg (by omega) (by omega)
      refine evPos (by omega) (evPos (by omega) ?_)
      rw [hL.1]
      refine Ev.bind (heldIntS_ev t.length m (by omega) hm (by omega)) (evNeg (by omega) ?_)
      rw [wr (by omega) (by omega)]
      refine evTo (ih T (m + t.length) (j + 1) (by omega) (by omega) (by simpa using hT) hL.2 (fun t' ht => hl t' (by simp [ht])) (by omega) (by omega)) ?_
      simp only [sumLen]; omega
theorem heldIntSS_ev (L : List (List Int)) (m : Int) (B : Nat) (hB : B ≤ 1100000) (hn : L.length ≤ 1100000) (hl : ∀ t ∈ L, t.length ≤ B) (hm : 0 ≤ m) (hm2 : m ≤ 2200000) :
    Ev (fun k => laws_heldIntSS.f k (iotaSS m L) m) (m + sumLen L) := by
  unfold laws_heldIntSS.f
  have h1 : L.length * B ≤ 1210000000000 := Nat.le_trans (Nat.mul_le_mul hn hB) (by decide)
  have h2 : ((L.length * B : Nat) : Int) ≤ 1210000000000 := by omega
  rw [Int.natCast_mul] at h2
  have h3 := iotaSS_length m L
  exact heldIntSS_l0 B hB (iotaSS m L) (by omega) L.length L m 0 (by omega) (by omega) rfl (by simp) hl hm (by omega)
/-- The law's own functions go through a list of lists. -/
theorem markSS_all (L : List (List Int)) (B : Nat) (hB : B ≤ 1100000) (hn : L.length ≤ 1100000) (hl : ∀ t ∈ L, t.length ≤ B) :
    ∃ (L' : List (List Int)) (m : Int), Ev (fun k => laws_eqIntSS.f k L L) true ∧ Ev (fun k => laws_markIntSS.f k L 1) (m, L') ∧ Ev (fun k => laws_heldIntSS.f k L' 1) m ∧ 0 ≤ m ∧ L'.length = L.length :=
  ⟨iotaSS 1 L, 1 + sumLen L, eqIntSS_self L (by omega) (fun t ht => by have := hl t ht; omega), markIntSS_ev L 1 B hB hn hl (by omega) (by omega), heldIntSS_ev L 1 B hB hn hl (by omega) (by omega), by have := sumLen_nonneg L; omega, iotaSS_length 1 L⟩
/-! spec_l1In -/
theorem l1In_eq (x a b : Int) : spec_l1In.f x a b = some (decide (a ≤ x ∧ x ≤ b)) := by
  unfold spec_l1In.f
  by_cases h : x ≥ a
  · rw [if_pos h]; have h' : a ≤ x := h; simp [h']
  · rw [if_neg h]; have h' : ¬ a ≤ x := h; simp [h']
/-! spec_moGood -/
/-- A move of permutations of n. -/
def isMv (n c i j : Int) : Bool := decide ((c = 0 ∧ 0 ≤ i ∧ i < j ∧ j < n) ∨ ((c = 1 ∨ c = 2) ∧ 2 ≤ i ∧ i ≤ n ∧ j = 0))
theorem moGood_eq (n c i j : Int) (h0 : 0 ≤ n) (hn : n ≤ 12) : spec_moGood.f n c i j = some (isMv n c i j) := by
  unfold spec_moGood.f isMv
  rw [wr (x := n - 1) (by omega) (by omega)]
  simp only [l1In_eq, Option.bind_some]
  by_cases c0 : c = 0
  · rw [if_pos c0]
    by_cases c1 : 1 ≤ j ∧ j ≤ n - 1
    · rw [if_pos (by simpa using c1), wr (by omega) (by omega)]
      congr 1; apply decide_eq_decide.2; omega
    · rw [if_neg (by simpa using c1)]
      congr 1; exact (decide_eq_false (by omega)).symm
  · rw [if_neg c0]
    by_cases c1 : c = 1
    · rw [if_pos c1]
      by_cases c3 : 2 ≤ i ∧ i ≤ n
      · rw [if_pos (by simpa using c3)]
        congr 1; rw [Bool.eq_iff_iff]; simp; omega
      · rw [if_neg (by simpa using c3)]
        congr 1; exact (decide_eq_false (by omega)).symm
    · rw [if_neg c1]
      by_cases c2 : c = 2
      · rw [if_pos c2]
        by_cases c3 : 2 ≤ i ∧ i ≤ n
        · rw [if_pos (by simpa using c3)]
          congr 1; rw [Bool.eq_iff_iff]; simp; omega
        · rw [if_neg (by simpa using c3)]
          congr 1; exact (decide_eq_false (by omega)).symm
      · rw [if_neg c2]
        congr 1; exact (decide_eq_false (by omega)).symm
/-! spec_moTask -/
def okTask (n : Int) (l : List S55) : Bool := (l.all fun m => isMv n m.f0 m.f1 m.f2) && (decide (1 ≤ n ∧ n ≤ 5) && decide ((l.length : Int) ≤ 12))
theorem moGood_some (n a b c : Int) : spec_moGood.f n a b c = some ((spec_moGood.f n a b c).getD false) := by
  unfold spec_moGood.f
  simp only [l1In_eq, Option.bind_some]
  repeat' split
  all_goals rfl
theorem moTask_l0 (n : Int) (g : S55 → Bool) (hg : ∀ m : S55, spec_moGood.f n m.f0 m.f1 m.f2 = some (g m)) (l : List S55) (hl : l.length ≤ 1048576) : ∀ (d : Nat) (i : Int), 0 ≤ i → i.toNat + d = l.length →
    Ev (fun k => spec_moTask.l0 k n l l (l.length : Int) i) (((l.drop i.toNat).all g) && (decide (1 ≤ n ∧ n ≤ 5) && decide ((l.length : Int) ≤ 12))) := by
  intro d
  induction d with
  | zero =>
    intro i h0 hd
    refine Ev.step (fun k => by rw [spec_moTask.l0]) ?_
    rw [List.drop_of_length_le (by omega)]
    refine evNeg (by omega) ?_
    rw [l1In_eq]
    refine evSome ?_
    by_cases c : 1 ≤ n ∧ n ≤ 5
    · exact evPos (by simpa using c) (evEq (by simp [c]))
    · refine evNeg (by simpa using c) (evEq ?_)
      rw [decide_eq_false c]; simp
  | succ d ih =>
    intro i h0 hd
    refine Ev.step (fun k => by rw [spec_moTask.l0]) ?_
    refine evPos (by omega) (evPos h0 (evPos (by omega) ?_))
    rw [hg, wr (by omega) (by omega), List.drop_eq_getElem_cons (show i.toNat < l.length by omega), List.all_cons]
    have e : rd_T55 l i = l[i.toNat] := by unfold rd_T55; rw [List.getD_eq_getElem?_getD, List.getElem?_eq_getElem (by omega)]; rfl
    rw [e]
    refine evSome ?_
    by_cases c : g l[i.toNat] = true
    · refine evPos c (evTo (ih (i + 1) (by omega) (by omega)) ?_)
      rw [c, show (i + 1).toNat = i.toNat + 1 by omega]; simp
    · refine evNeg c (evEq ?_)
      rw [Bool.eq_false_iff.mpr c]; simp
theorem moTask_ev (n : Int) (l : List S55) (hl : l.length ≤ 1048576) : Ev (fun k => spec_moTask.f k n l) (okTask n l) := by
  unfold spec_moTask.f okTask
  by_cases c : 1 ≤ n ∧ n ≤ 5
  · exact evTo (moTask_l0 n (fun m => isMv n m.f0 m.f1 m.f2) (fun m => moGood_eq n _ _ _ (by omega) (by omega)) l hl l.length 0 (by omega) (by simp)) (by simp)
  · refine evTo (moTask_l0 n _ (fun m => moGood_some n m.f0 m.f1 m.f2) l hl l.length 0 (by omega) (by simp)) ?_
    rw [decide_eq_false c]; simp
/-! spec_raUpTo -/
theorem raUpTo_l0 (n : Nat) (hn : n ≤ 1000000000) : ∀ (d : Nat) (j : Int), 0 ≤ j → j.toNat + d = n → Ev (fun k => spec_raUpTo.l0 k (n : Int) (upTo j.toNat) j) (upTo n) := by
  intro d
  induction d with
  | zero =>
    intro j h0 hd
    refine Ev.step (fun k => by rw [spec_raUpTo.l0]) ?_
    exact evNeg (by omega) (evEq (by rw [show j.toNat = n from by omega]))
  | succ d ih =>
    intro j h0 hd
    refine Ev.step (fun k => by rw [spec_raUpTo.l0]) ?_
    refine evPos (by omega) (evPos (by rw [upTo_length]; omega) ?_)
    have h := ih (j + 1) (by omega) (by omega)
    rw [show (j + 1).toNat = j.toNat + 1 from by omega, upTo_succ, Int.toNat_of_nonneg h0] at h
    rw [wr (by omega) (by omega)]
    exact h
theorem raUpTo_ev (n : Nat) (hn : n ≤ 1000000000) : Ev (fun k => spec_raUpTo.f k (n : Int)) (upTo n) := by
  unfold spec_raUpTo.f
  exact raUpTo_l0 n hn n 0 (by omega) (by simp)
/-! spec_l1Own -/
theorem l1Own_eq (l : List Int) (hn : l.length ≤ 10000000000000) : spec_l1Own.f l = some l := by
  unfold spec_l1Own.f
  simp only [Option.bind_some, List.nil_append, List.length_nil, Nat.zero_add]
  rw [if_pos (by omega)]
/-! spec_moApply -/
theorem moApply_l0 (l : List Int) (hl : l.length ≤ 1000) (b : Int) (hb : b ≤ l.length) (a c : Int) : ∀ (d : Nat) (x5 : List Int) (i : Int), 0 ≤ i → i + d = b → x5.length = l.length → x5.take i.toNat = (l.take b.toNat).reverse.take i.toNat → x5.drop i.toNat = l.drop i.toNat →
    Ev (fun k => spec_moApply.l0 k l x5 i a b c) ((l.take b.toNat).reverse ++ l.drop b.toNat) := by
  intro d
  induction d with
  | zero =>
    intro x5 i h0 hi h5 ht hd
    refine Ev.step (fun k => by rw [spec_moApply.l0]) ?_
    refine evNeg (by omega) (evEq ?_)
    obtain rfl : i = b := by omega
    rw [← List.take_append_drop i.toNat x5, ht, hd, List.take_of_length_le (by rw [List.length_reverse, List.length_take]; omega)]
  | succ d ih =>
    intro x5 i h0 hi h5 ht hd
    refine Ev.step (fun k => by rw [spec_moApply.l0]) ?_
    simp (disch := omega) only [wr]
    refine evPos (by omega) (evPos (by omega) (evPos (by omega) (evPos (by omega) (evPos (by omega) ?_))))
    refine ih _ (i + 1) (by omega) (by omega) (by simpa using h5) ?_ ?_
    · rw [set_takeI _ _ _ h0 (by omega), ht, show (i + 1).toNat = i.toNat + 1 by omega, List.take_add_one, List.getElem?_reverse (by rw [List.length_take]; omega), List.length_take, show min b.toNat l.length - 1 - i.toNat = (b - 1 - i).toNat by omega, List.getElem?_take, if_pos (by omega)]
      unfold rd
      rw [List.getD_eq_getElem?_getD, List.getElem?_eq_getElem (show (b - 1 - i).toNat < l.length by omega)]
      rfl
    · rw [show (i + 1).toNat = i.toNat + 1 by omega, List.drop_set_of_lt (by omega), ← List.drop_drop, ← List.drop_drop, hd]
theorem moApply_l1 (l : List Int) (hl : l.length ≤ 1000) (b : Int) (hb0 : 1 ≤ b) (hb : b ≤ l.length) (a c : Int) : ∀ (d : Nat) (x5 : List Int) (i : Int), 0 ≤ i → i + d = b → x5.length = l.length → x5.take i.toNat = ((l.take b.toNat).drop 1 ++ (l.take b.toNat).take 1).take i.toNat → x5.drop i.toNat = l.drop i.toNat →
    Ev (fun k => spec_moApply.l1 k l x5 i a b c) ((l.take b.toNat).drop 1 ++ (l.take b.toNat).take 1 ++ l.drop b.toNat) := by
  intro d
  have hlen : ((l.take b.toNat).drop 1 ++ (l.take b.toNat).take 1).length = b.toNat := by
    simp; omega
  induction d with
  | zero =>
    intro x5 i h0 hi h5 ht hd
    refine Ev.step (fun k => by rw [spec_moApply.l1]) ?_
    refine evNeg (by omega) (evEq ?_)
    obtain rfl : i = b := by omega
    rw [← List.take_append_drop i.toNat x5, ht, hd, List.take_of_length_le (by omega)]
  | succ d ih =>
    intro x5 i h0 hi h5 ht hd
    refine Ev.step (fun k => by rw [spec_moApply.l1]) ?_
    simp (disch := omega) only [wr]
    rw [Int.tmod_eq_emod_of_nonneg (by omega)]
    have hm : (i + 1) % b = if i + 1 < b then i + 1 else 0 := by
      split
      · exact Int.emod_eq_of_lt (by omega) (by omega)
      · rw [show i + 1 = b by omega, Int.emod_self]
    rw [hm]
    refine evPos (by omega) (evNeg (by omega) (evPos (by split <;> omega) (evPos (by split <;> omega) (evPos (by omega) (evPos (by omega) ?_)))))
    refine ih _ (i + 1) (by omega) (by omega) (by simpa using h5) ?_ ?_
    · rw [set_takeI _ _ _ h0 (by omega), ht, show (i + 1).toNat = i.toNat + 1 by omega, List.take_add_one (l := _ ++ _)]
      congr 1
      unfold rd
      by_cases c : i + 1 < b
      · rw [if_pos c, List.getElem?_append_left (by simp; omega), List.getElem?_drop, List.getElem?_take, if_pos (by omega), show 1 + i.toNat = (i + 1).toNat by omega, List.getD_eq_getElem?_getD, List.getElem?_eq_getElem (by omega)]
        rfl
      · rw [if_neg c, List.getElem?_append_right (by simp; omega)]
        have e : i.toNat - ((l.take b.toNat).drop 1).length = 0 := by simp; omega
        rw [e, List.getElem?_take, if_pos (by omega), List.getElem?_take, if_pos (by omega), List.getD_eq_getElem?_getD, show (0 : Int).toNat = 0 from rfl, List.getElem?_eq_getElem (show 0 < l.length by omega)]
        rfl
    · rw [show (i + 1).toNat = i.toNat + 1 by omega, List.drop_set_of_lt (by omega), ← List.drop_drop, ← List.drop_drop, hd]
theorem moApply_ev (l : List Int) (hl : l.length ≤ 1000) (a b c : Int) (hg : Mgood l.length a b c) : Ev (fun q => spec_moApply.f q l a b c) (mv l a b c) := by
  unfold spec_moApply.f
  rw [l1Own_eq l (by omega)]
  refine evSome ?_
  rcases hg with ⟨rfl, h1, h2, h3⟩ | ⟨rfl, h1, h2, rfl⟩ | ⟨rfl, h1, h2, rfl⟩
  · exact evPos rfl (evPos (by omega) (evPos (by omega) (evPos (by omega) (evPos (by omega) (evPos (by omega) (evPos (by omega) (evEq rfl)))))))
  · refine evNeg (by decide) (evPos rfl ?_)
    refine evTo (moApply_l0 l hl b h2 1 0 b.toNat l 0 (by omega) (by omega) rfl (by simp) (by simp)) (by simp [mv])
  · refine evNeg (by decide) (evNeg (by decide) ?_)
    refine evTo (moApply_l1 l hl b (by omega) h2 2 0 b.toNat l 0 (by omega) (by omega) rfl (by simp) (by simp)) (by simp [mv])
/-! spec_l1Same -/
theorem l1Same_l0 (a b : List Int) (hn : a.length ≤ 35184372088832) (hb : a.length = b.length) : ∀ (d : Nat) (j : Int), 0 ≤ j → j.toNat + d = a.length →
    Ev (fun k => spec_l1Same.l0 k a b (a.length : Int) j) (decide (a.drop j.toNat = b.drop j.toNat)) := by
  intro d
  induction d with
  | zero =>
    intro j h0 hd
    refine Ev.step (fun k => by rw [spec_l1Same.l0]) ?_
    refine evNeg (by omega) ?_
    rw [drop_end a j (by omega), drop_end b j (by omega)]
    exact evEq rfl
  | succ d ih =>
    intro j h0 hd
    refine Ev.step (fun k => by rw [spec_l1Same.l0]) ?_
    refine evPos (by omega) (evPos (by omega) (evPos (by omega) (evPos (by omega) ?_)))
    rw [wr (by omega) (by omega), drop_rd a j h0 (by omega), drop_rd b j h0 (by omega)]
    by_cases c : rd a j = rd b j
    · refine evPos c (evTo (ih _ (by omega) (by omega)) ?_)
      simp [c]
    · refine evNeg c (evEq ?_)
      simp [c]
theorem l1Same_ev (a b : List Int) (hn : a.length ≤ 35184372088832) : Ev (fun k => spec_l1Same.f k a b) (decide (a = b)) := by
  unfold spec_l1Same.f
  by_cases hb : a.length = b.length
  · exact evPos (by omega) (l1Same_l0 a b hn hb a.length 0 (by omega) (by simp))
  · refine evNeg (by omega) (evEq ?_)
    exact (decide_eq_false (fun e => hb (by rw [e]))).symm
/-! spec_raPlace -/
theorem raPlace_l0 (l : List Int) (L : List (List Int)) (hL : L.length ≤ 1000000000) (hl : ∀ t ∈ L, t.length ≤ 35184372088832) : ∀ (d : Nat) (j : Int), 0 ≤ j → j.toNat + d = L.length →
    Ev (fun k => spec_raPlace.l0 k l L (L.length : Int) j) (placeI l j (L.drop j.toNat)) := by
  intro d
  induction d with
  | zero =>
    intro j h0 hd
    refine Ev.step (fun k => by rw [spec_raPlace.l0]) ?_
    refine evNeg (by omega) ?_
    rw [drop_end L j (by omega)]
    exact evEq rfl
  | succ d ih =>
    intro j h0 hd
    refine Ev.step (fun k => by rw [spec_raPlace.l0]) ?_
    have hm : rd_L3 L j ∈ L := by
      unfold rd_L3
      rw [List.getD_eq_getElem?_getD, List.getElem?_eq_getElem (show j.toNat < L.length by omega)]
      exact List.getElem_mem _
    refine evPos (by omega) (evPos (by omega) (evPos (by omega) (Ev.bind (l1Same_ev _ l (hl _ hm)) ?_)))
    have hcons : L.drop j.toNat = rd_L3 L j :: L.drop (j + 1).toNat := dropD [] L j h0 (by omega)
    rw [wr (by omega) (by omega), hcons, placeI]
    by_cases c : rd_L3 L j = l
    · rw [if_pos c]; exact evPos (decide_eq_true c) (Ev.now _)
    · rw [if_neg c]; exact evNeg (by simpa using c) (ih _ (by omega) (by omega))
theorem raPlace_ev (L : List (List Int)) (l : List Int) (hL : L.length ≤ 1000000000) (hl : ∀ t ∈ L, t.length ≤ 35184372088832) : Ev (fun k => spec_raPlace.f k L l) (placeI l 0 L) := by
  unfold spec_raPlace.f
  exact evTo (raPlace_l0 l L hL hl L.length 0 (by omega) (by simp)) (by simp)
/-! spec_moNew -/
/-- Does a move lead from the last list to a new one? -/
def newP (X : List (List Int)) (m : S55) : Bool := decide (mv (lastL X) m.f0 m.f1 m.f2 ∉ X)
theorem rdL_last (X : List (List Int)) (h : 0 < X.length) : rd_L3 X ((X.length : Int) - 1) = lastL X := by
  unfold rd_L3 lastL
  rw [show ((X.length : Int) - 1).toNat = X.length - 1 from by omega]
theorem rdT_get (L : List S55) (i : Nat) (h : i < L.length) : rd_T55 L (i : Int) = L[i] := by
  unfold rd_T55; rw [Int.toNat_natCast, List.getD_eq_getElem?_getD, List.getElem?_eq_getElem h]; rfl
theorem moNew_l0 (n : Nat) (hn : n ≤ 5) (X : List (List Int)) (h0 : 0 < X.length) (hX : X.length ≤ 1000) (hl : ∀ t ∈ X, t.length = n) (L : List S55) (hL : L.length ≤ 1048576) (hg : ∀ m ∈ L, Mgood n m.f0 m.f1 m.f2) : ∀ (d : Nat) (i : Int), 0 ≤ i → i.toNat + d = L.length →
    Ev (fun k => spec_moNew.l0 k X L (L.length : Int) i) (pIdx (newP X) i (L.drop i.toNat)) := by
  intro d
  induction d with
  | zero =>
    intro i h1 hd
    refine Ev.step (fun k => by rw [spec_moNew.l0]) ?_
    refine evNeg (by omega) (evEq ?_)
    rw [List.drop_of_length_le (by omega)]; rfl
  | succ d ih =>
    intro i h1 hd
    have hil : i.toNat < L.length := by omega
    have e : rd_T55 L i = L[i.toNat] := by unfold rd_T55; rw [List.getD_eq_getElem?_getD, List.getElem?_eq_getElem hil]; rfl
    have hlast := hl _ (lastL_mem h0)
    refine Ev.step (fun k => by rw [spec_moNew.l0]) ?_
    rw [wr (by omega) (by omega), wr (by omega) (by omega), rdL_last X h0, List.drop_eq_getElem_cons hil, pIdx, e]
    refine evPos (by omega) (evPos h1 (evPos (by omega) (evPos (by omega) (evPos (by omega) ?_))))
    refine Ev.bind (moApply_ev _ (by omega) _ _ _ (by rw [hlast]; exact hg _ (List.getElem_mem hil))) (Ev.bind (raPlace_ev X _ (by omega) (fun t ht => by have := hl t ht; omega)) ?_)
    have hpm := placeI_mem X (mv (lastL X) L[i.toNat].f0 L[i.toNat].f1 L[i.toNat].f2) 0 (by omega)
    by_cases c : mv (lastL X) L[i.toNat].f0 L[i.toNat].f1 L[i.toNat].f2 ∈ X
    · have h2 := hpm.2 c
      rw [if_neg (show ¬ newP X L[i.toNat] = true by simp [newP, c])]
      refine evNeg (by omega) (evTo (ih (i + 1) (by omega) (by omega)) ?_)
      rw [show (i + 1).toNat = i.toNat + 1 from by omega]
    · have h2 : ¬ 0 ≤ placeI (mv (lastL X) L[i.toNat].f0 L[i.toNat].f1 L[i.toNat].f2) 0 X := fun h => c (hpm.1 h)
      rw [if_pos (show newP X L[i.toNat] = true by simp [newP, c])]
      exact evPos (by omega) (Ev.now _)
theorem moNew_ev (n : Nat) (hn : n ≤ 5) (X : List (List Int)) (h0 : 0 < X.length) (hX : X.length ≤ 1000) (hl : ∀ t ∈ X, t.length = n) (L : List S55) (hL : L.length ≤ 1048576) (hg : ∀ m ∈ L, Mgood n m.f0 m.f1 m.f2) : Ev (fun k => spec_moNew.f k X L) (pIdx (newP X) 0 L) := by
  unfold spec_moNew.f
  exact evTo (moNew_l0 n hn X h0 hX hl L hL hg L.length 0 (by omega) (by simp)) (by simp)
/-- The list in which each next list is behind the first move that leads to a new one. -/
def gre (L : List S55) : Nat → List (List Int) → List (List Int)
  | 0, X => X
  | d + 1, X => if pIdx (newP X) 0 L < 0 then X else gre L d (X ++ [mv (lastL X) (rd_T55 L (pIdx (newP X) 0 L)).f0 (rd_T55 L (pIdx (newP X) 0 L)).f1 (rd_T55 L (pIdx (newP X) 0 L)).f2])
/-- What stays of the lists. -/
structure GInv (n : Nat) (X : List (List Int)) : Prop where
  pos : 0 < X.length
  pm : ∀ t ∈ X, isPm t = true ∧ t.length = n
  nd : X.Nodup
theorem pIdx_move (X : List (List Int)) (L : List S55) (h : ¬ pIdx (newP X) 0 L < 0) : ∃ i : Nat, ∃ hi : i < L.length, pIdx (newP X) 0 L = i ∧ rd_T55 L (pIdx (newP X) 0 L) = L[i] ∧ mv (lastL X) L[i].f0 L[i].f1 L[i].f2 ∉ X := by
  rcases pIdx_at (newP X) L 0 with h1 | ⟨i, hi, e, hp⟩
  · rw [h1] at h; exact absurd (by decide) h
  · refine ⟨i, hi, by omega, ?_, by simpa [newP] using hp⟩
    rw [e, Int.zero_add, rdT_get L i hi]
theorem GInv.next {n : Nat} {X : List (List Int)} (hn : n ≤ 5) (h : GInv n X) (m : S55) (hg : Mgood n m.f0 m.f1 m.f2) (hx : mv (lastL X) m.f0 m.f1 m.f2 ∉ X) : GInv n (X ++ [mv (lastL X) m.f0 m.f1 m.f2]) := by
  have hl := h.pm _ (lastL_mem h.pos)
  refine ⟨by simp, fun t ht => ?_, ?_⟩
  · rcases List.mem_append.1 ht with ht | ht
    · exact h.pm t ht
    · rw [List.mem_singleton.1 ht]; exact isPm_mv hn hl.1 hl.2 _ _ _ hg
  · rw [List.nodup_append]
    refine ⟨h.nd, by simp, fun a ha b hb e => ?_⟩
    rw [List.mem_singleton.1 hb] at e
    exact hx (e ▸ ha)
theorem gre_inv (n : Nat) (hn : n ≤ 5) (L : List S55) (hg : ∀ m ∈ L, Mgood n m.f0 m.f1 m.f2) : ∀ (d : Nat) (X : List (List Int)), GInv n X → GInv n (gre L d X)
  | 0, X, h => h
  | d + 1, X, h => by
    rw [gre]
    by_cases c : pIdx (newP X) 0 L < 0
    · rw [if_pos c]; exact h
    · obtain ⟨i, hi, e1, e2, hx⟩ := pIdx_move X L c
      rw [if_neg c, e2]
      exact gre_inv n hn L hg d _ (h.next hn L[i] (hg _ (List.getElem_mem hi)) hx)
theorem facN_5 {n : Nat} (hn : n ≤ 5) : facN n ≤ 120 := by rw [facN_eq]; exact Nat.le_trans (fac_mono hn) (by decide)
/-! spec_GreedyList -/
theorem spec_Greedy_l0 (n : Nat) (hn : n ≤ 5) (L : List S55) (hL : L.length ≤ 1048576) (hg : ∀ m ∈ L, Mgood n m.f0 m.f1 m.f2) : ∀ (d : Nat) (X : List (List Int)), X.length + d = facN n + 1 → GInv n X →
    Ev (fun k => spec_GreedyList.l0 k L X (pIdx (newP X) 0 L)) (gre L d X, true) := by
  intro d
  have hf := facN_5 hn
  induction d with
  | zero =>
    intro X hd h
    have := perms_le hn X h.pm h.nd
    omega
  | succ d ih =>
    intro X hd h
    have hp := h.pos
    have hlast := h.pm _ (lastL_mem h.pos)
    refine Ev.step (fun k => by rw [spec_GreedyList.l0]) ?_
    rw [gre, wr (by omega) (by omega), rdL_last X hp]
    by_cases c : pIdx (newP X) 0 L < 0
    · rw [if_pos c]
      exact evNeg (by omega) (Ev.now _)
    · obtain ⟨i, hi, e1, e2, hx⟩ := pIdx_move X L c
      rw [if_neg c, e2]
      have hgi := hg _ (List.getElem_mem hi)
      refine evPos (by omega) (evPos (by omega) (evPos (by omega) (evPos (by omega) (evPos (by omega) (Ev.bind (moApply_ev _ (by omega) _ _ _ (by rw [hlast.2]; exact hgi)) (evPos (by omega) (evSome ?_)))))))
      have h2 := h.next hn L[i] hgi hx
      exact Ev.bind (moNew_ev n hn _ h2.pos (by simp; omega) (fun t ht => (h2.pm t ht).2) L hL hg) (ih _ (by simp; omega) h2)
/-! impl_within -/
theorem within_eq (x a b : Int) : impl_within.f x a b = some (decide (a ≤ x ∧ x ≤ b)) := by
  unfold impl_within.f
  by_cases h : x ≥ a
  · rw [if_pos h]; have h' : a ≤ x := h; simp [h']
  · rw [if_neg h]; have h' : ¬ a ≤ x := h; simp [h']
/-! impl_isMove -/
theorem isMove_eq (n c i j : Int) (h0 : 0 ≤ n) (hn : n ≤ 12) : impl_isMove.f n c i j = some (isMv n c i j) := by
  unfold impl_isMove.f isMv
  simp only [within_eq, Option.bind_some]
  by_cases c0 : c = 0
  · rw [if_pos c0]
    by_cases c1 : 0 ≤ i
    · rw [if_pos c1]
      by_cases c2 : i < j
      · rw [if_pos c2]; congr 1; apply decide_eq_decide.2; omega
      · rw [if_neg c2]; congr 1; exact (decide_eq_false (by omega)).symm
    · rw [if_neg c1]; congr 1; exact (decide_eq_false (by omega)).symm
  · rw [if_neg c0]
    by_cases c1 : c = 1
    · rw [if_pos c1]
      by_cases c3 : 2 ≤ i ∧ i ≤ n
      · rw [if_pos (by simpa using c3)]
        congr 1; rw [Bool.eq_iff_iff]; simp; omega
      · rw [if_neg (by simpa using c3)]
        congr 1; exact (decide_eq_false (by omega)).symm
    · rw [if_neg c1]
      by_cases c2 : c = 2
      · rw [if_pos c2]
        by_cases c3 : 2 ≤ i ∧ i ≤ n
        · rw [if_pos (by simpa using c3)]
          congr 1; rw [Bool.eq_iff_iff]; simp; omega
        · rw [if_neg (by simpa using c3)]
          congr 1; exact (decide_eq_false (by omega)).symm
      · rw [if_neg c2]
        congr 1; exact (decide_eq_false (by omega)).symm
/-! impl_areMoves -/
theorem isMove_some (n a b c : Int) : impl_isMove.f n a b c = some ((impl_isMove.f n a b c).getD false) := by
  unfold impl_isMove.f
  simp only [within_eq, Option.bind_some]
  repeat' split
  all_goals rfl
theorem areMoves_l0 (n : Int) (g : S55 → Bool) (hg : ∀ m : S55, impl_isMove.f n m.f0 m.f1 m.f2 = some (g m)) (l : List S55) (hl : l.length ≤ 1048576) : ∀ (d : Nat) (i : Int), 0 ≤ i → i.toNat + d = l.length →
    Ev (fun k => impl_areMoves.l0 k n l l (l.length : Int) i) (((l.drop i.toNat).all g) && (decide (1 ≤ n ∧ n ≤ 5) && decide ((l.length : Int) ≤ 12))) := by
  intro d
  induction d with
  | zero =>
    intro i h0 hd
    refine Ev.step (fun k => by rw [impl_areMoves.l0]) ?_
    rw [List.drop_of_length_le (by omega)]
    refine evNeg (by omega) ?_
    rw [within_eq]
    refine evSome ?_
    by_cases c : 1 ≤ n ∧ n ≤ 5
    · exact evPos (by simpa using c) (evEq (by simp [c]))
    · refine evNeg (by simpa using c) (evEq ?_)
      rw [decide_eq_false c]; simp
  | succ d ih =>
    intro i h0 hd
    refine Ev.step (fun k => by rw [impl_areMoves.l0]) ?_
    refine evPos (by omega) (evPos h0 (evPos (by omega) ?_))
    rw [hg, wr (by omega) (by omega), List.drop_eq_getElem_cons (show i.toNat < l.length by omega), List.all_cons]
    have e : rd_T55 l i = l[i.toNat] := by unfold rd_T55; rw [List.getD_eq_getElem?_getD, List.getElem?_eq_getElem (by omega)]; rfl
    rw [e]
    refine evSome ?_
    by_cases c : g l[i.toNat] = true
    · refine evPos c (evTo (ih (i + 1) (by omega) (by omega)) ?_)
      rw [c, show (i + 1).toNat = i.toNat + 1 by omega]; simp
    · refine evNeg c (evEq ?_)
      rw [Bool.eq_false_iff.mpr c]; simp
theorem areMoves_ev (n : Int) (l : List S55) (hl : l.length ≤ 1048576) : Ev (fun k => impl_areMoves.f k n l) (okTask n l) := by
  unfold impl_areMoves.f okTask
  by_cases c : 1 ≤ n ∧ n ≤ 5
  · exact evTo (areMoves_l0 n (fun m => isMv n m.f0 m.f1 m.f2) (fun m => isMove_eq n _ _ _ (by omega) (by omega)) l hl l.length 0 (by omega) (by simp)) (by simp)
  · refine evTo (areMoves_l0 n _ (fun m => isMove_some n m.f0 m.f1 m.f2) l hl l.length 0 (by omega) (by simp)) ?_
    rw [decide_eq_false c]; simp
/-! impl_copied -/
theorem copied_eq (l : List Int) (hn : l.length ≤ 10000000000000) : impl_copied.f l = some l := by
  unfold impl_copied.f
  simp only [Option.bind_some, List.nil_append, List.length_nil, Nat.zero_add]
  rw [if_pos (by omega)]
/-! impl_moved -/
theorem moved_r0 : ∀ (n : Nat) (p m s : List Int), m.length ≤ n → Ev (fun k => impl_moved.r0 k (p ++ m ++ s) (p.length : Int) ((p.length : Int) + m.length - 1)) (p ++ m.reverse ++ s) := by
  intro n
  induction n with
  | zero =>
    intro p m s hm
    obtain rfl : m = [] := List.length_eq_zero_iff.1 (by omega)
    refine Ev.step (fun q => by rw [impl_moved.r0]) ?_
    exact evNeg (by simp; omega) (evEq (by simp))
  | succ n ih =>
    intro p m s hm
    refine Ev.step (fun q => by rw [impl_moved.r0]) ?_
    match m, hm with
    | [], _ => exact evNeg (by simp; omega) (evEq (by simp))
    | [x], _ => exact evNeg (by simp) (evEq (by simp))
    | x :: y :: t, hm =>
      obtain ⟨u, z, hz⟩ : ∃ u z, y :: t = u ++ [z] := ⟨(y :: t).dropLast, (y :: t).getLast (by simp), (List.dropLast_concat_getLast (by simp)).symm⟩
      rw [hz]
      have hl : u.length + 1 = t.length + 1 := by have := congrArg List.length hz; simp at this; omega
      simp only [List.length_cons] at hm
      refine evPos (by simp; omega) ?_
      have e1 : (p.length : Int).toNat = p.length := Int.toNat_natCast _
      have e2 : ((p.length : Int) + ((x :: (u ++ [z])).length : Nat) - 1).toNat = p.length + u.length + 1 := by simp; omega
      have r1 : rd (p ++ x :: (u ++ [z]) ++ s) (p.length : Int) = x := by
        unfold rd; rw [e1]; simp
      have r2 : rd (p ++ x :: (u ++ [z]) ++ s) ((p.length : Int) + ((x :: (u ++ [z])).length : Nat) - 1) = z := by
        unfold rd; rw [e2]
        rw [List.getD_eq_getElem?_getD, List.append_assoc, List.getElem?_append_right (by omega), show p.length + u.length + 1 - p.length = u.length + 1 by omega]
        simp
      rw [r1, r2, e1, e2]
      have hset : ((p ++ x :: (u ++ [z]) ++ s).set p.length z).set (p.length + u.length + 1) x = (p ++ [z]) ++ u ++ ([x] ++ s) := by
        rw [List.append_assoc p, List.set_append_right _ _ (by omega), Nat.sub_self, List.cons_append, List.set_cons_zero, List.set_append_right _ _ (by omega), show p.length + u.length + 1 - p.length = u.length + 1 by omega, List.set_cons_succ]
        rw [List.append_assoc u, List.set_append_right _ _ (by omega), Nat.sub_self]
        simp
      rw [hset]
      refine evTo (Ev.congr (fun k => ?_) (ih (p ++ [z]) u ([x] ++ s) (by omega))) ?_
      · congr 1
        · simp
        · simp; omega
      · simp
theorem moved_ev (l : List Int) (hl : l.length ≤ 1000) (a b c : Int) (hg : Mgood l.length a b c) : Ev (fun q => impl_moved.f q l a b c) (mv l a b c) := by
  unfold impl_moved.f
  rw [copied_eq l (by omega)]
  refine evSome (evPos (by omega) ?_)
  rcases hg with ⟨rfl, h1, h2, h3⟩ | ⟨rfl, h1, h2, rfl⟩ | ⟨rfl, h1, h2, rfl⟩
  · exact evPos rfl (evPos (by omega) (evPos (by omega) (evPos (by omega) (evPos (by omega) (evEq rfl)))))
  · refine evNeg (by decide) (evPos rfl (evPos (by omega) (evPos (by omega) ?_)))
    have h := moved_r0 b.toNat [] (l.take b.toNat) (l.drop b.toNat) (by rw [List.length_take]; omega)
    rw [List.length_take, show min b.toNat l.length = b.toNat by omega] at h
    refine evTo (Ev.congr (fun k => ?_) h) (by simp [mv])
    rw [List.nil_append, List.take_append_drop]
    congr 1
    simp; omega
  · refine evNeg (by decide) (evNeg (by decide) (evPos rfl (evPos (by omega) (evPos (by omega) (evEq ?_)))))
    obtain ⟨n, hn⟩ : ∃ n : Nat, b = (n : Int) + 1 := ⟨b.toNat - 1, by omega⟩
    subst hn
    rw [show ((n : Int) + 1).toNat = n + 1 by omega, show ((n : Int) + 1 - 1).toNat = n by omega]
    match l, h2 with
    | x :: t, h2 =>
      simp at h2
      have e : rd (x :: t) 0 = x := rfl
      rw [e]
      simp only [mv, List.take_succ_cons, List.drop_succ_cons, List.drop_zero]
      rw [show ((n : Int) + 1).toNat = n + 1 by omega]
      simp only [List.take_succ_cons, List.drop_succ_cons, List.drop_zero, List.take_zero]
      rw [if_neg (by decide), if_neg (by decide)]
      have hd : (x :: t).drop n = (x :: t)[n]'(by simp; omega) :: t.drop n := by
        rw [List.drop_eq_getElem_cons (by simp; omega)]; simp
      rw [hd, List.set_append_right _ _ (by rw [List.length_take]; omega), List.length_take, show n - min n t.length = 0 by omega]
      simp
/-! impl_identity -/
theorem identity_l0 (n : Nat) (hn : n ≤ 1000000000) : ∀ (d : Nat) (j : Int), 0 ≤ j → j.toNat + d = n → Ev (fun k => impl_identity.l0 k (upTo j.toNat) (n : Int) j) (upTo n) := by
  intro d
  induction d with
  | zero =>
    intro j h0 hd
    refine Ev.step (fun k => by rw [impl_identity.l0]) ?_
    exact evNeg (by omega) (evEq (by rw [show j.toNat = n from by omega]))
  | succ d ih =>
    intro j h0 hd
    refine Ev.step (fun k => by rw [impl_identity.l0]) ?_
    refine evPos (by omega) (evPos (by rw [upTo_length]; omega) ?_)
    have h := ih (j + 1) (by omega) (by omega)
    rw [show (j + 1).toNat = j.toNat + 1 from by omega, upTo_succ, Int.toNat_of_nonneg h0] at h
    rw [wr (by omega) (by omega)]
    exact h
theorem identity_ev (n : Nat) (hn : n ≤ 1000000000) : Ev (fun k => impl_identity.f k (n : Int)) (upTo n) := by
  unfold impl_identity.f
  exact identity_l0 n hn n 0 (by omega) (by simp)
/-! impl_factorial -/
theorem factorial_tab : ((List.range 13).all fun n => impl_factorial.f 20 (n : Int) == some (fac n : Int)) = true := by decide +kernel
theorem factorial_ev (n : Nat) (hn : n ≤ 12) : Ev (fun r => impl_factorial.f r (n : Int)) (fac n : Int) := by
  refine evTab (g := fun r => impl_factorial.f r (n : Int)) (impl_factorial.mono _) 20 ?_
  exact beq_iff_eq.1 (List.all_eq_true.1 factorial_tab n (List.mem_range.2 (by omega)))
/-! impl_permutationRank -/
theorem permutationRank_tab : ((List.range 6).all fun n => (List.range (facN n)).all fun r => impl_permutationRank.f 60 (PA n r) == some (r : Int)) = true := by decide +kernel
theorem permutationRank_ev (n r : Nat) (hn : n ≤ 5) (hr : r < facN n) : Ev (fun q => impl_permutationRank.f q (PA n r)) (r : Int) := by
  refine evTab (g := fun q => impl_permutationRank.f q (PA n r)) (impl_permutationRank.mono _) 60 ?_
  exact beq_iff_eq.1 (List.all_eq_true.1 (List.all_eq_true.1 permutationRank_tab n (List.mem_range.2 (by omega))) r (List.mem_range.2 hr))
/-! impl_GreedyList -/
theorem Greedy_idx_ev (g : Nat → S55 → Option Bool) (p : S55 → Bool) (L : List S55) (hn : L.length ≤ 1048576) (hg : ∀ x ∈ L, Ev (fun k => g k x) (p x)) : ∀ (d : Nat) (i : Int), 0 ≤ i → i.toNat + d = L.length →
    Ev (fun k => impl_GreedyList.idx g k L i) (pIdx p i (L.drop i.toNat)) := by
  intro d
  induction d with
  | zero =>
    intro i h0 hd
    refine Ev.step (fun k => by rw [impl_GreedyList.idx]) ?_
    refine evNeg (by omega) (evEq ?_)
    rw [List.drop_of_length_le (by omega)]; rfl
  | succ d ih =>
    intro i h0 hd
    refine Ev.step (fun k => by rw [impl_GreedyList.idx]) ?_
    have hil : i.toNat < L.length := by omega
    have e : rd_T55 L i = L[i.toNat] := by unfold rd_T55; rw [List.getD_eq_getElem?_getD, List.getElem?_eq_getElem hil]; rfl
    refine evPos (by omega) (evPos h0 ?_)
    rw [wr (by omega) (by omega), List.drop_eq_getElem_cons hil, pIdx, e]
    refine Ev.bind (hg _ (List.getElem_mem hil)) ?_
    by_cases c : p L[i.toNat] = true
    · rw [if_pos c]; exact evPos c (Ev.now _)
    · rw [if_neg c]
      refine evNeg c (evTo (ih (i + 1) (by omega) (by omega)) ?_)
      rw [show (i + 1).toNat = i.toNat + 1 from by omega]
theorem Greedy_l0 (n : Nat) (hn : n ≤ 5) (L : List S55) (hL : L.length ≤ 1048576) (hg : ∀ m ∈ L, Mgood n m.f0 m.f1 m.f2) : ∀ (d : Nat) (X : List (List Int)) (M : List Int), X.length + d = facN n + 1 → GInv n X → M.length ≤ X.length → (∀ l, isPm l = true → l.length = n → ((Moves.rk l : Int) ∈ M ↔ l ∈ X)) →
    Ev (fun k => impl_GreedyList.l0 k L X M) (gre L d X) := by
  intro d
  have hf := facN_5 hn
  induction d with
  | zero =>
    intro X M hd h _ _
    have := perms_le hn X h.pm h.nd
    omega
  | succ d ih =>
    intro X M hd h hml hM
    have hp := h.pos
    have hlast := h.pm _ (lastL_mem h.pos)
    have rank : ∀ l, isPm l = true → l.length = n → Ev (fun k => impl_permutationRank.f k l) (Moves.rk l : Int) ∧ (Lit.int .i64 (Moves.rk l : Int)).wf = true := by
      intro l h1 h2
      obtain ⟨r1, r2⟩ := PA_of hn h1 h2
      have hr := permutationRank_ev n (Moves.rk l) hn r1
      rw [r2] at hr
      refine ⟨hr, ?_⟩
      simp [Lit.wf, IntKind.min, IntKind.max, IntKind.signed, IntKind.bits]; omega
    have hidx := Greedy_idx_ev (impl_GreedyList.g M (lastL X)) (newP X) L hL (fun m hm => by
      unfold impl_GreedyList.g
      have hmv := isPm_mv hn hlast.1 hlast.2 _ _ _ (hg m hm)
      obtain ⟨k1, k2⟩ := rank _ hmv.1 hmv.2
      refine Ev.bind (moved_ev _ (by omega) _ _ _ (by rw [hlast.2]; exact hg m hm)) (Ev.bind k1 (evPos k2 (evEq ?_)))
      have := hM _ hmv.1 hmv.2
      simp [newP, this]) L.length 0 (by omega) (by simp)
    simp only [Int.toNat_zero, List.drop_zero] at hidx
    refine Ev.step (fun k => by rw [impl_GreedyList.l0]) ?_
    rw [gre, rdL_last X hp]
    refine evPos hp (evPos (by omega) (evPos (by omega) (Ev.bind hidx ?_)))
    by_cases c : pIdx (newP X) 0 L < 0
    · rw [if_pos c]
      exact evPos c (Ev.now _)
    · obtain ⟨i, hi, e1, e2, hx⟩ := pIdx_move X L c
      rw [if_neg c, e2]
      have hgi := hg _ (List.getElem_mem hi)
      have h2 := h.next hn L[i] hgi hx
      have hmv := isPm_mv hn hlast.1 hlast.2 _ _ _ hgi
      obtain ⟨k1, k2⟩ := rank _ hmv.1 hmv.2
      have hnm : ¬ (Moves.rk (mv (lastL X) L[i].f0 L[i].f1 L[i].f2) : Int) ∈ M := fun h_ => hx ((hM _ hmv.1 hmv.2).1 h_)
      refine evNeg c (evPos (by omega) (Ev.bind (moved_ev _ (by omega) _ _ _ (by rw [hlast.2]; exact hgi)) (Ev.bind k1 (evPos k2 ?_))))
      rw [if_neg hnm]
      refine ih _ _ (by simp; omega) h2 (by simp; omega) (fun l h3 h4 => ?_)
      rw [List.mem_cons, List.mem_append, List.mem_singleton, hM l h3 h4]
      constructor
      · rintro (h5 | h5)
        · exact .inr (rk_inj hn h3 h4 hmv.1 hmv.2 (by exact_mod_cast h5))
        · exact .inl h5
      · rintro (h5 | h5)
        · exact .inr h5
        · exact .inl (by rw [h5])
theorem FnExactGreedyList (n : Int) (l : List S53) (wn : (Lit.int .i64 n).wf = true) (hm : l.length ≤ maxLen) (hg : ∀ x ∈ l, (fun x : S53 => (Lit.int .i64 x.f0).wf = true ∧ (Lit.int .i64 x.f1).wf = true ∧ (Lit.int .i64 x.f2).wf = true) x) :
    ∃ k, laws_FnExactGreedyList.Fine k n l := by
  by_cases c : l.length ≤ 1048576
  rotate_left
  · exact ⟨0, -1, by rw [szMoveS_eq l hm, if_neg c], .inl (by decide)⟩
  have ec := conv_length l
  have key : ∃ (G : List (List Int)) (b : Bool), Ev (fun q => spec_GreedyList.f q n (conv l)) (G, b) ∧ Ev (fun q => impl_GreedyList.f q n (conv l)) (G, b) ∧ G.length ≤ 1100000 ∧ ∀ t ∈ G, t.length ≤ 12 := by
    have ht := moTask_ev n (conv l) (by omega)
    have hi := areMoves_ev n (conv l) (by omega)
    unfold spec_GreedyList.f impl_GreedyList.f
    by_cases hok : okTask n (conv l) = true
    rotate_left
    · exact ⟨[], false, Ev.bind ht (evNeg hok (Ev.now _)), Ev.bind hi (evNeg hok (Ev.now _)), by simp, by simp⟩
    have h := hok
    simp only [okTask, Bool.and_eq_true, decide_eq_true_eq, List.all_eq_true] at h
    obtain ⟨N, rfl⟩ := Int.eq_ofNat_of_zero_le (show 0 ≤ n by omega)
    have hN : N ≤ 5 := by omega
    have hf := facN_5 hN
    have hf0 := facN_pos N
    have hgd : ∀ m ∈ conv l, Mgood N m.f0 m.f1 m.f2 := fun m hm => by have := h.1 m hm; simp only [isMv, decide_eq_true_eq] at this; unfold Mgood; omega
    have hu := upTo_length N
    have h0 : GInv N [upTo N] := ⟨by simp, fun t ht => by rw [List.mem_singleton.1 ht]; exact ⟨isPm_upTo (by omega), hu⟩, by simp⟩
    have r1 := spec_Greedy_l0 N hN (conv l) (by omega) hgd (facN N) [upTo N] (by simp; omega) h0
    have r2 := Greedy_l0 N hN (conv l) (by omega) hgd (facN N) [upTo N] [0] (by simp; omega) h0 (by simp) (fun t h1 h2 => by
      rw [List.mem_singleton, List.mem_singleton]
      constructor
      · intro e
        exact rk_inj hN h1 h2 (isPm_upTo (by omega)) hu (by rw [rk_upTo hN]; omega)
      · intro e
        rw [e, rk_upTo hN]; rfl)
    have hi2 := gre_inv N hN (conv l) hgd (facN N) [upTo N] h0
    have hle := perms_le hN _ hi2.pm hi2.nd
    refine ⟨_, true, Ev.bind ht (evPos hok (Ev.bind (raUpTo_ev N (by omega)) (evSome (Ev.bind (moNew_ev N hN [upTo N] (by simp) (by simp) (fun t ht => (h0.pm t ht).2) (conv l) (by omega) hgd) r1)))), Ev.bind hi (evPos hok (Ev.bind (identity_ev N (by omega)) (Ev.bind r2 (Ev.now _)))), by omega, fun t ht => by have := (hi2.pm t ht).2; omega⟩
  obtain ⟨G, b, ⟨K1, h1⟩, ⟨K2, h2⟩, hgl, hgt⟩ := key
  obtain ⟨L', m, ⟨K3, h3⟩, ⟨K4, h4⟩, ⟨K5, h5⟩, h6, h7⟩ := markSS_all G 12 (by omega) hgl hgt
  obtain ⟨e1, K8, h8⟩ := markMoveS_ev (conv l) (by omega)
  obtain ⟨K10, h10⟩ := toMoveS_ev l c
  obtain ⟨K11, h11⟩ := eqMoveS_self (conv l) (by omega)
  refine ⟨K1 + K2 + K3 + K4 + K5 + K8 + K10 + K11, 1048576 - (l.length : Int), by rw [szMoveS_eq l hm, if_pos c], .inr ⟨by omega, ?_⟩⟩
  exact ⟨G, L', b, m, conv l, e1, _, h10 _ (by omega), h11 _ (by omega), h8 _ (by omega), by omega, h1 _ (by omega), h2 _ (by omega), h3 _ (by omega), h4 _ (by omega), h5 _ (by omega), h6, h7⟩

end Go.Proofs.Ytcplfdfmebibpaa.Pure
