import Derived.Test.YtedijkelbdpcdaaBase
namespace Go.Proofs.Ytedijkelbdpcdaa.Foc
set_option linter.unusedVariables false
set_option linter.unusedSimpArgs false
def fa : List Nat → Nat → Nat
  | [], _ => 0
  | c :: cs, r => if r % c = c - 1 then fa cs (r / c) + 1 else 0
def gd : List Nat → Nat → List Int
  | [], _ => []
  | c :: cs, r => (if (r / c) % 2 = 0 then ((r % c : Nat) : Int) else (c : Int) - 1 - ((r % c : Nat) : Int)) :: gd cs (r / c)
def gu : List Nat → Nat → List Bool
  | [], _ => []
  | c :: cs, r => (decide ((r / c) % 2 = 0) != decide (r % c = c - 1)) :: gu cs (r / c)
def gp : Nat → List Nat → Nat → Bool → List Int
  | j, [], _, _ => [(j : Int)]
  | j, c :: cs, r, act => (if act then ((j + fa (c :: cs) r : Nat) : Int) else (j : Int)) :: gp (j + 1) cs (r / c) (decide (r % c ≠ c - 1))
def Rad (cs : List Nat) : Prop := ∀ c ∈ cs, 2 ≤ c
theorem Rad.head {c : Nat} {cs : List Nat} (h : Rad (c :: cs)) : 2 ≤ c := h c (List.mem_cons_self ..)
theorem Rad.tail {c : Nat} {cs : List Nat} (h : Rad (c :: cs)) : Rad cs := fun d hd => h d (List.mem_cons_of_mem _ hd)
theorem gd_length : ∀ (cs : List Nat) (r : Nat), (gd cs r).length = cs.length
  | [], _ => rfl
  | c :: cs, r => by simp [gd, gd_length cs]
theorem gu_length : ∀ (cs : List Nat) (r : Nat), (gu cs r).length = cs.length
  | [], _ => rfl
  | c :: cs, r => by simp [gu, gu_length cs]
theorem gp_length : ∀ (cs : List Nat) (j r : Nat) (a : Bool), (gp j cs r a).length = cs.length + 1
  | [], _, _, _ => rfl
  | c :: cs, j, r, a => by simp [gp, gp_length cs]
theorem gd_zero : ∀ (cs : List Nat), Rad cs → gd cs 0 = List.replicate cs.length 0
  | [], _ => rfl
  | c :: cs, h => by simp [gd, List.replicate_succ, gd_zero cs h.tail]
theorem gu_zero : ∀ (cs : List Nat), Rad cs → gu cs 0 = List.replicate cs.length true
  | [], _ => rfl
  | c :: cs, h => by
    have h2 := h.head
    have e : decide (0 = c - 1) = false := decide_eq_false (by omega)
    simp [gu, List.replicate_succ, gu_zero cs h.tail]
    exact e
theorem fa_zero : ∀ (cs : List Nat), Rad cs → fa cs 0 = 0
  | [], _ => rfl
  | c :: cs, h => by
    have := h.head
    rw [fa, if_neg (by simp; omega)]
theorem gp_zero : ∀ (cs : List Nat) (j : Nat) (a : Bool), Rad cs → gp j cs 0 a = (List.range' j (cs.length + 1)).map (fun i : Nat => (i : Int))
  | [], j, a, _ => rfl
  | c :: cs, j, a, h => by
    have h2 := h.head
    rw [gp, fa_zero _ h, List.length_cons, List.range'_succ, List.map_cons, Nat.zero_div, gp_zero cs (j + 1) _ h.tail]
    simp
structure Fo where
  d : List Int
  u : List Bool
  p : List Int
def st (cs : List Nat) (r : Nat) : Fo := ⟨(gd cs r).reverse, (gu cs r).reverse, gp 0 cs r true⟩
def step (b : List Int) (s : Fo) (j : Nat) : Fo :=
  let i := b.length - 1 - j
  let p0 := s.p.set 0 0
  let x := if s.u.getD i false then s.d.getD i 0 + 1 else s.d.getD i 0 - 1
  if x = 0 ∨ x = b.getD i 0 - 1 then ⟨s.d.set i x, s.u.set i (!s.u.getD i false), (p0.set j (p0.getD (j + 1) 0)).set (j + 1) ((j : Int) + 1)⟩
  else ⟨s.d.set i x, s.u, p0⟩
def bs (cs : List Nat) : List Int := (cs.map (fun c : Nat => (c : Int))).reverse
theorem bs_length (cs : List Nat) : (bs cs).length = cs.length := by simp [bs]
end Go.Proofs.Ytedijkelbdpcdaa.Foc
