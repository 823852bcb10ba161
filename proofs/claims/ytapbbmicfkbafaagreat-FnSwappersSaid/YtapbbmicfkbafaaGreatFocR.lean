import Derived.Test.YtapbbmicfkbafaaGreatFoc
import Derived.Test.YtapbbmicfkbafaaGreatFocB
import Derived.Test.YtapbbmicfkbafaaGreatFoW
namespace Go.Proofs.YtapbbmicfkbafaaGreat.FocR
open Go.Proofs.YtapbbmicfkbafaaGreat.Base Go.Proofs.YtapbbmicfkbafaaGreat.Foc Go.Proofs.YtapbbmicfkbafaaGreat.FocB Go.Proofs.YtapbbmicfkbafaaGreat.FoW Go.Proofs.YtapbbmicfkbafaaGreatW.PrintWords
set_option linter.unusedVariables false
set_option linter.unusedSimpArgs false
structure Ok (cs : List Nat) : Prop where mk ::
  rad : Rad cs
  le : ∀ c ∈ cs, c ≤ 12
  len : cs.length ≤ 12
theorem st_lens (cs : List Nat) (r : Nat) : (st cs r).d.length = cs.length ∧ (st cs r).u.length = cs.length ∧ (st cs r).p.length = cs.length + 1 := by
  unfold st
  simp [gd_length, gu_length, gp_length]
theorem stepF_st (cs : List Nat) (h : Ok cs) (r : Nat) (hf : fa cs r < cs.length) :
    stepF (bs cs) (st cs r).d (st cs r).u (st cs r).p = some ((st cs (r + 1)).d, (st cs (r + 1)).u, (st cs (r + 1)).p, ((fa cs r : Nat) : Int)) := by
  obtain ⟨l1, l2, l3⟩ := st_lens cs r
  have lb := bs_length cs
  have hl := h.len
  have hj : rd (st cs r).p 0 = ((fa cs r : Nat) : Int) := st_head cs r
  have hi : (((bs cs).length : Int) - 1 - ((fa cs r : Nat) : Int)).toNat = (bs cs).length - 1 - fa cs r := by omega
  have hdig : 0 ≤ rd (st cs r).d (((bs cs).length : Int) - 1 - ((fa cs r : Nat) : Int)) ∧ rd (st cs r).d (((bs cs).length : Int) - 1 - ((fa cs r : Nat) : Int)) ≤ 12 := by
    have q1 : cs.length - 1 - fa cs r < (st cs r).d.length := by omega
    have q2 : (((bs cs).length : Int) - 1 - ((fa cs r : Nat) : Int)).toNat = cs.length - 1 - fa cs r := by omega
    rw [rd_get _ _ (by rw [q2]; exact q1)]
    have q3 : (st cs r).d[(((bs cs).length : Int) - 1 - ((fa cs r : Nat) : Int)).toNat]'(by rw [q2]; exact q1) ∈ (st cs r).d := List.getElem_mem _
    have q4 : ∀ x ∈ (st cs r).d, 0 ≤ x ∧ x ≤ 12 := by
      intro x hx
      unfold st at hx
      rw [List.mem_reverse] at hx
      obtain ⟨i, hi, rfl⟩ := List.getElem_of_mem hx
      have q5 := gd_mem cs r h.rad i hi
      rw [gd_length] at hi
      have q6 : cs.getD i 0 ≤ 12 := by
        rw [List.getD_eq_getElem?_getD, List.getElem?_eq_getElem hi]
        exact h.le _ (List.getElem_mem hi)
      omega
    exact q4 _ q3
  have hbase : 0 ≤ rd (bs cs) (((bs cs).length : Int) - 1 - ((fa cs r : Nat) : Int)) ∧ rd (bs cs) (((bs cs).length : Int) - 1 - ((fa cs r : Nat) : Int)) ≤ 12 := by
    have q1 : (((bs cs).length : Int) - 1 - ((fa cs r : Nat) : Int)).toNat < (bs cs).length := by omega
    rw [rd_get _ _ q1]
    have q3 := List.getElem_mem q1
    unfold bs at q3
    rw [List.mem_reverse, List.mem_map] at q3
    obtain ⟨c, hc, e⟩ := q3
    have := h.le c hc
    have e' : (bs cs)[(((bs cs).length : Int) - 1 - ((fa cs r : Nat) : Int)).toNat] = (c : Int) := e.symm
    rw [e']
    omega
  rw [st_step cs r h.rad hf]
  unfold stepF Foc.step
  simp only [hj]
  rw [if_pos ⟨by omega, by omega, by omega, by omega, by omega, by omega, by omega, by omega, by omega, by omega⟩]
  have e1 : rd (st cs r).d (((bs cs).length : Int) - 1 - ((fa cs r : Nat) : Int)) = (st cs r).d.getD ((bs cs).length - 1 - fa cs r) 0 := by unfold rd; rw [hi]
  have e2 : rdOf false (st cs r).u (((bs cs).length : Int) - 1 - ((fa cs r : Nat) : Int)) = (st cs r).u.getD ((bs cs).length - 1 - fa cs r) false := by unfold rdOf; rw [hi]
  have e3 : rd (bs cs) (((bs cs).length : Int) - 1 - ((fa cs r : Nat) : Int)) = (bs cs).getD ((bs cs).length - 1 - fa cs r) 0 := by unfold rd; rw [hi]
  have e4 : rd ((st cs r).p.set 0 0) (((fa cs r : Nat) : Int) + 1) = ((st cs r).p.set 0 0).getD (fa cs r + 1) 0 := by unfold rd; rw [show (((fa cs r : Nat) : Int) + 1).toNat = fa cs r + 1 from by omega]
  rw [e1, e2, e3, e4, hi, Int.toNat_natCast, show (((fa cs r : Nat) : Int) + 1).toNat = fa cs r + 1 from by omega]
  generalize (if (st cs r).u.getD ((bs cs).length - 1 - fa cs r) false = true then (st cs r).d.getD ((bs cs).length - 1 - fa cs r) 0 + 1 else (st cs r).d.getD ((bs cs).length - 1 - fa cs r) 0 - 1) = X
  by_cases c : X = 0 ∨ X = (bs cs).getD ((bs cs).length - 1 - fa cs r) 0 - 1
  · rw [if_pos c, if_pos c]
  · rw [if_neg c, if_neg c]
def run (cs : List Nat) : Nat → Nat → List Int
  | _, 0 => []
  | r, m + 1 => if fa cs r < cs.length then ((cs.length : Int) - 1 - ((fa cs r : Nat) : Int)) :: run cs (r + 1) m else []
theorem last_rank (cs : List Nat) (h : Ok cs) (r : Nat) (hr : r < prod cs) : fa cs r < cs.length ↔ r + 1 < prod cs := by
  constructor
  · intro hf
    by_cases c : r + 1 = prod cs
    · have := fa_full cs r h.rad c; omega
    · omega
  · exact fa_lt cs r h.rad
theorem stF_st (cs : List Nat) (h : Ok cs) : stF (bs cs) = (bs cs, (st cs 0).d, (st cs 0).u, (st cs 0).p) := by
  unfold stF st
  rw [gd_zero cs h.rad, gu_zero cs h.rad, gp_zero cs 0 true h.rad, bs_length]
  simp only [List.reverse_replicate]
  congr 3
  unfold upTo
  rw [List.range_eq_range']
theorem ok_of {l : List Int} (h : fob l = true) : ∃ cs, Ok cs ∧ bs cs = l := by
  simp only [fob, Bool.and_eq_true, decide_eq_true_eq, List.all_eq_true] at h
  obtain ⟨h1, h2, h3⟩ := h
  refine ⟨(l.map Int.toNat).reverse, ⟨?_, ?_, by simpa using h1⟩, ?_⟩
  · intro c hc
    rw [List.mem_reverse, List.mem_map] at hc
    obtain ⟨x, hx, rfl⟩ := hc
    have := h2 x hx
    omega
  · intro c hc
    rw [List.mem_reverse, List.mem_map] at hc
    obtain ⟨x, hx, rfl⟩ := hc
    have := h2 x hx
    omega
  · unfold bs
    rw [List.map_reverse, List.reverse_reverse, List.map_map]
    refine (List.map_congr_left (fun x hx => ?_)).trans (List.map_id l)
    have := h2 x hx
    show ((x.toNat : Nat) : Int) = x
    omega
end Go.Proofs.YtapbbmicfkbafaaGreat.FocR
