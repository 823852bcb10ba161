import Derived.Test.YtapbbmicfkbafaaGreatFocG
namespace Go.Proofs.YtapbbmicfkbafaaGreat.FocM
open Go.Proofs.YtapbbmicfkbafaaGreat.Base Go.Proofs.YtapbbmicfkbafaaGreat.Foc Go.Proofs.YtapbbmicfkbafaaGreat.FocB Go.Proofs.YtapbbmicfkbafaaGreat.FocR Go.Proofs.YtapbbmicfkbafaaGreat.FocG Go.Proofs.YtapbbmicfkbafaaGreatW.PrintWords
set_option linter.unusedVariables false
set_option linter.unusedSimpArgs false
theorem evOk {α : Type} {o : Option α} {x : α} (h : o = some x) : Ev (fun _ => o) x := h ▸ Ev.now x
theorem all2_of : ∀ (B D : List Int), D.length = B.length → (∀ i (h : i < B.length) (h' : i < D.length), 0 ≤ D[i] ∧ D[i] ≤ B[i] - 1) → all2 B D = true
  | [], [], _, _ => rfl
  | [], _ :: _, h, _ => by simp at h
  | _ :: _, [], h, _ => by simp at h
  | b :: B, d :: D, h, hr => by
    have h0 := hr 0 (by simp) (by simp)
    simp only [List.getElem_cons_zero] at h0
    rw [all2, Bool.and_eq_true, decide_eq_true_eq]
    exact ⟨h0, all2_of B D (by simpa using h) (fun i hi hi' => by have := hr (i + 1) (by simpa using hi) (by simpa using hi'); simpa using this)⟩
theorem st_all2 (cs : List Nat) (hR : Rad cs) (r : Nat) : all2 (bs cs) (st cs r).d = true := by
  refine all2_of _ _ (by rw [bs_length]; exact (st_lens cs r).1) (fun i h h' => ?_)
  have hl := bs_length cs
  have hg := gd_length cs r
  have hd : (st cs r).d = (gd cs r).reverse := rfl
  have h2 : i < (gd cs r).reverse.length := by rw [← hd]; exact h'
  have e1 : (st cs r).d[i] = (gd cs r)[(gd cs r).length - 1 - i]'(by simp at h2; omega) := by
    have : (st cs r).d[i] = (gd cs r).reverse[i] := rfl
    rw [this, List.getElem_reverse]
  have e2 : (bs cs)[i] = (cs[cs.length - 1 - i]'(by omega) : Int) := by
    have h6 : i < (cs.map (fun c : Nat => (c : Int))).reverse.length := h
    have : (bs cs)[i] = (cs.map (fun c : Nat => (c : Int))).reverse[i] := rfl
    refine this.trans ?_
    rw [List.getElem_reverse, List.getElem_map]
    congr 2
    simp
  have hm := gd_mem cs r hR ((gd cs r).length - 1 - i) (by simp at h2; omega)
  have e3 : cs.getD ((gd cs r).length - 1 - i) 0 = cs[cs.length - 1 - i]'(by omega) := by
    rw [hg, getD_get _ _ _ (by omega)]
  rw [e3] at hm
  omega
theorem gF_st (cs : List Nat) (hk : Ok cs) (hf : fob (bs cs) = true) (r : Nat) (hr : r < prod cs) : gF (bs cs) (st cs r).d (st cs r).u (st cs r).p = true := by
  have e : mr (bs cs) (st cs r).d = r := mr_gd cs r hk.rad hr
  unfold gF
  rw [hf, st_all2 cs hk.rad r, csOf_bs, e, Int.toNat_natCast]
  simp
def md : List Int → Int → List Int
  | [], _ => []
  | _ :: B, r => (r / prodI B) :: md B (if (r / prodI B) % 2 = 1 then prodI B - 1 - r % prodI B else r % prodI B)
end Go.Proofs.YtapbbmicfkbafaaGreat.FocM
