import Derived.Test.YtapbbmicfkbafaaGreatSwp
import Derived.Test.YtapbbmicfkbafaaGreatSwW
namespace Go.Proofs.YtapbbmicfkbafaaGreat.SwpS
open Go.Proofs.YtapbbmicfkbafaaGreat.Base Go.Proofs.YtapbbmicfkbafaaGreat.Foc Go.Proofs.YtapbbmicfkbafaaGreat.FocB Go.Proofs.YtapbbmicfkbafaaGreat.FocR Go.Proofs.YtapbbmicfkbafaaGreat.FocG Go.Proofs.YtapbbmicfkbafaaGreat.FoW Go.Proofs.YtapbbmicfkbafaaGreat.Trot Go.Proofs.YtapbbmicfkbafaaGreat.Swp Go.Proofs.YtapbbmicfkbafaaGreatW.PrintWords
set_option linter.unusedVariables false
set_option linter.unusedSimpArgs false
theorem trot_ins (n : Nat) (r : Int) : trot (n + 1) r = (trot n (r / ((n : Int) + 1))).take (place n r).toNat ++ (n : Int) :: (trot n (r / ((n : Int) + 1))).drop (place n r).toNat := by
  have hp := place_range n r
  rw [trot, insertIdx_take _ _ _ (by rw [trot_length]; omega)]
  simp
theorem trot_perm : ∀ (n : Nat) (r : Int), (trot n r).Perm (upTo n)
  | 0, r => by simp [trot, upTo]
  | n + 1, r => by
    rw [trot_ins, upTo_succ]
    refine List.perm_middle.trans ?_
    rw [List.take_append_drop]
    refine ((trot_perm n _).cons _).trans ?_
    exact (List.perm_append_singleton _ _).symm
theorem trot_perm' (n : Nat) (r : Int) : (trot n r).Perm (upTo (trot n r).length) := by rw [trot_length]; exact trot_perm n r
theorem trot_nodup (n : Nat) (r : Int) : (trot n r).Nodup := (trot_perm n r).nodup_iff.2 (nodup_upTo n)
theorem trot_zero : ∀ n, trot n 0 = upTo n
  | 0 => rfl
  | n + 1 => by
    have hp : place n 0 = n := by unfold place; simp
    rw [trot_ins, hp, Int.zero_ediv, trot_zero n, Int.toNat_natCast, List.take_of_length_le (Nat.le_of_eq (upTo_length n)), List.drop_of_length_le (Nat.le_of_eq (upTo_length n)), upTo_succ]
theorem invL_upTo (n : Nat) : invL (upTo n) = upTo n := by
  have h : (upTo n).Perm (upTo (upTo n).length) := by rw [upTo_length]
  refine (isI_invL h ⟨rfl, fun q hq => ?_⟩).symm
  rw [upTo_length] at hq ⊢
  rw [rd_upTo n q hq, rd_upTo n q hq]
  omega
def it (n r : Nat) : List Int := trot n (r : Int)
def wh (n r : Nat) : List Int := invL (it n r)
theorem it_length (n r : Nat) : (it n r).length = n := trot_length n _
theorem wh_length (n r : Nat) : (wh n r).length = n := by unfold wh invL; rw [List.length_map, upTo_length, it_length]
theorem it_mem {n r : Nat} {x : Int} : x ∈ it n r ↔ 0 ≤ x ∧ x < n := by unfold it; rw [(trot_perm n _).mem_iff]; exact mem_upTo
theorem it_rd (n r : Nat) (q : Int) (h0 : 0 ≤ q) (h : q < n) : 0 ≤ rd (it n r) q ∧ rd (it n r) q < n := by
  have hl := it_length n r
  rw [rd_get _ _ (by omega)]
  exact it_mem.1 (List.getElem_mem _)
theorem wh_rd (n r : Nat) (x : Int) (h0 : 0 ≤ x) (h : x < n) : rd (wh n r) x = pos (it n r) x := by
  unfold wh invL
  rw [rd_map _ _ _ (by rw [upTo_length, it_length]; omega), it_length]
  congr 1
  have := rd_upTo n x.toNat (by omega)
  rwa [show ((x.toNat : Nat) : Int) = x from by omega] at this
theorem st_up (cs : List Nat) (r : Nat) (hR : Rad cs) (h : fa cs r < cs.length) : rdOf false (st cs r).u ((cs.length : Int) - 1 - (fa cs r : Int)) = (gu cs r).getD (fa cs r) false := by
  have hl := gu_length cs r
  have e : ((cs.length : Int) - 1 - (fa cs r : Int)).toNat = (gu cs r).length - 1 - fa cs r := by omega
  unfold rdOf st
  simp only
  rw [e, getD_get _ _ _ (by rw [List.length_reverse]; omega), get_rev _ _ (by omega), getD_get _ _ _ (by omega)]
theorem at_range (n r : Nat) (hn : n ≤ 7) (hr : r + 1 < fac n) : 0 ≤ atS n r ∧ atS n r + 1 < (n : Int) ∧ swp (it n r) (atS n r) = it n (r + 1) := by
  have h := okS_all n r hn hr
  unfold okS at h
  rw [Bool.and_eq_true, decide_eq_true_eq, decide_eq_true_eq] at h
  exact ⟨h.1.1, h.1.2, h.2⟩
theorem fa_cn (n r : Nat) (hn : n ≤ 7) (hr : r + 1 < fac n) : fa (cn n) r < (cn n).length := (last_rank (cn n) (cn_ok n hn) r (by rw [cn_prod]; omega)).2 (by rw [cn_prod]; exact hr)
theorem wh_next (n r : Nat) (hn : n ≤ 7) (hr : r + 1 < fac n) : swi (it n r) (wh n r) (atS n r) = wh n (r + 1) := by
  obtain ⟨h0, h1, h2⟩ := at_range n r hn hr
  have hp : (it n r).Perm (upTo (it n r).length) := trot_perm' n _
  have hI := swi_is (trot_nodup n _) (invL_is hp) h0 (by show _ < ((trot n (r : Int)).length : Int); rw [trot_length]; exact h1)
  have hI2 : IsI (it n (r + 1)) (swi (it n r) (wh n r) (atS n r)) := by rw [← h2]; exact hI
  exact isI_invL (trot_perm' n _) hI2
theorem at_eq (n r : Nat) (hn : n ≤ 7) (hr : r + 1 < fac n) : (if rdOf false (st (cn n) r).u (((cn n).length : Int) - 1 - (fa (cn n) r : Int)) = true then rd (wh n r) ((n : Int) - 1 - (fa (cn n) r : Int)) - 1 else rd (wh n r) ((n : Int) - 1 - (fa (cn n) r : Int))) = atS n r ∧ 0 ≤ (n : Int) - 1 - (fa (cn n) r : Int) ∧ (n : Int) - 1 - (fa (cn n) r : Int) < n ∧ 0 ≤ rd (wh n r) ((n : Int) - 1 - (fa (cn n) r : Int)) ∧ rd (wh n r) ((n : Int) - 1 - (fa (cn n) r : Int)) < n := by
  have hf := fa_cn n r hn hr
  have hl := cn_length n
  have hn1 : 1 ≤ n := by
    rcases Nat.eq_zero_or_pos n with e | e
    · subst e; simp [fac] at hr
    · exact e
  rw [st_up _ _ (cn_ok n hn).rad hf, wh_rd n r _ (by omega) (by omega)]
  have hp := pos_range (it n r) ((n : Int) - 1 - (fa (cn n) r : Int)) (it_mem.2 ⟨by omega, by omega⟩)
  rw [it_length] at hp
  refine ⟨?_, by omega, by omega, hp.1, hp.2.1⟩
  unfold atS
  show _ = pos (it n r) _ - _
  split <;> omega
theorem stepS_sq (n r : Nat) (hn : n ≤ 7) (hr : r + 1 < fac n) :
    SwW.stepS (bs (cn n)) (st (cn n) r).d (st (cn n) r).u (st (cn n) r).p (it n r) (wh n r) = some ((st (cn n) (r + 1)).d, (st (cn n) (r + 1)).u, (st (cn n) (r + 1)).p, it n (r + 1), wh n (r + 1), atS n r) := by
  have hf := fa_cn n r hn hr
  have hh := st_head (cn n) r
  have hh' : rd (st (cn n) r).p 0 = (fa (cn n) r : Int) := hh
  obtain ⟨e1, e2, e3, e4, e5⟩ := at_eq n r hn hr
  obtain ⟨h0, h1, h2⟩ := at_range n r hn hr
  have l1 := it_length n r
  have l2 := wh_length n r
  have i1 := it_rd n r (atS n r) h0 (by omega)
  have i2 := it_rd n r (atS n r + 1) (by omega) h1
  have hs := stepF_st (cn n) (cn_ok n hn) r hf
  have w2 := wh_next n r hn hr
  unfold SwW.stepS
  simp only [hh', bs_length, l1, l2]
  rw [e1, if_pos ⟨by omega, by omega, e2, e3, by omega, by omega, h0, h1, i1.1, i1.2, i2.1, i2.2⟩, hs, Option.bind_some]
  have a1 : ((it n r).set (atS n r).toNat (rd (it n r) (atS n r + 1))).set (atS n r + 1).toNat (rd (it n r) (atS n r)) = it n (r + 1) := h2
  have a2 : ((wh n r).set (rd (it n r) (atS n r + 1)).toNat (atS n r)).set (rd (it n r) (atS n r)).toNat (atS n r + 1) = wh n (r + 1) := w2
  rw [a1, a2]
end Go.Proofs.YtapbbmicfkbafaaGreat.SwpS
