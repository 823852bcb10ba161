/- The statement of the law FnExactIsMoveList: for every input that reads as data the call returns true and every argument reads afterwards as before. Conditions: none beyond the row's own. -/
import Derived.Test.YtcplfdfmebibpaaRows
import Derived.Test.YtcplfdfmebibpaaMFnExactIsMoveListx9
import Derived.Test.YtcplfdfmebibpaaPureFnExactIsMoveList
import Derived.WalkKit
import Derived.ProofKit
import Derived.OpenShut
import Derived.ShutString
import Derived.ChangeOld
import Derived.Below
import Derived.SizedLaws
import Derived.Lib.SmallJoins
import Derived.Test.YtcplfdfmebibpaaWSized
import Derived.Test.YtcplfdfmebibpaaOpen
namespace Go.Proofs.Ytcplfdfmebibpaa.fnExactIsMoveList
open Go.ChangeShapes Go.WideShapes Go.ChangeAt Go.RowKit Go.Joins
open Go.ChangeMaps (open_string shut_string)
set_option linter.unusedVariables false
theorem own : ownKnob Try.prog.godebug = none := by kernel_rfl
theorem laidOut : laidOutB Try.prog = true := by kernel_rfl
set_option maxRecDepth 100000 in
theorem lifted (os : Os) (started : os.Started) (H : Type) (enc : TypeId × Value → H) :
    ReturnsInHanded {} Try.checked os 14 .any (Rows.fnExactIsMoveListSpec.pre6 enc Try.prog Try.f14 Rows.fnExactIsMoveListRow.domain false) (Rows.fnExactIsMoveListSpec.post enc Try.prog Try.f14 false true false false) := by
  refine returnsInHanded_of_change_sized (C := Try.checked) own started (by kernel_rfl) Try.func14
    (ChangeSpec.witness6 (enc := enc) (C := Try.checked) false ⟨#[], #[.int .i64 0, .slice none 0 0, .slice none 0 0], []⟩ 8 (by kernel_rfl) (by kernel_rfl) (by kernel_rfl) (by kernel_rfl)) ?_
  intro W base args ds gs before hval0 hW hcnd hsz0 _
  have hsz : (DataW.weightsEach Try.prog (Try.f14.params.toList ++ Rows.fnExactIsMoveListSpec.plain.varTypes Try.prog) (ds ++ gs)).all (· ≤ reachBytes) = true := hsz0
  have hval : ∀ (j : Nat) t v, Try.f14.params[j]? = some t → args[j]? = some v → Value.okWide Try.prog W .any base t v := hval0
  have hW' := hW
  obtain ⟨p, q, hA0, hV, rfl, hfz, hnd⟩ := hW
  have hA : DataW.TrodAll enc Try.prog W 0 (fun _ => true) true Try.f14.params.toList args.toList ds p := hA0
  rw [Try.params14] at hA hval hsz
  obtain ⟨v0, vs0, d0, ds0, p0, q0, hargs, rfl, rfl, h0, r0⟩ := trodAll_cons hA
  obtain ⟨v1, vs1, d1, ds1, p1, q1, rfl, rfl, rfl, h1, r1⟩ := trodAll_cons r0
  obtain ⟨v2, vs2, d2, ds2, p2, q2, rfl, rfl, rfl, h2, r2⟩ := trodAll_cons r1
  obtain ⟨rfl, rfl, rfl⟩ := trodAll_nil r2
  obtain rfl : args = #[v0, v1, v2] := by cases args; simp_all
  obtain ⟨rfl, rfl⟩ := trodVars_none hV
  obtain ⟨a0, rfl, rfl, rfl, w0⟩ := open_int Try.underlying3 (hval 0 3 v0 rfl rfl) h0
  obtain ⟨a1, len1, cap1, rfl⟩ := okWide_slice Try.underlying36 (hval 1 36 v1 rfl rfl)
  have k1 := h1
  have lt1 : ∀ x ∈ p1, x.block < W.heap.size := by obtain ⟨m, hm⟩ := k1; exact DataW.trod_lt m _ _ _ hm
  obtain ⟨l1, hl1, hr1, hc1, hm1, hg1⟩ : ∃ l : List (List Int), len1 = l.length ∧ Go.Proofs.YtcplfdfmebibpaaW.PrintWords.Kd.C (Go.Proofs.YtcplfdfmebibpaaW.PrintWords.Kd.slice 3 (Go.Proofs.YtcplfdfmebibpaaW.PrintWords.Kd.int .i64)) W a1 l.length l ∧ l.length ≤ cap1 ∧ l.length ≤ maxLen ∧ (∀ x ∈ l, (fun l : List Int => l.length ≤ maxLen ∧ ∀ x ∈ l, (Lit.int .i64 x).wf = true) x) := by
    obtain ⟨fuel, hf⟩ := h1
    obtain ⟨A, l, cap, hcs, q1, q2, q3, q4⟩ := Open.rowC (d := Go.Proofs.YtcplfdfmebibpaaW.PrintWords.Kd.slice 3 (Go.Proofs.YtcplfdfmebibpaaW.PrintWords.Kd.int .i64)) (good := fun l : List Int => l.length ≤ maxLen ∧ ∀ x ∈ l, (Lit.int .i64 x).wf = true) Try.underlying36 (by kernel_rfl) (Open.elIS Try.underlying22 Try.underlying3 (by kernel_rfl)) hf
    simp [Value.cells] at hcs
    obtain ⟨rfl, rfl, rfl⟩ := hcs
    exact ⟨l, rfl, q3, q1, q2, q4⟩
  subst hl1
  obtain ⟨a2, len2, cap2, rfl⟩ := okWide_slice Try.underlying28 (hval 2 28 v2 rfl rfl)
  have k2 := h2
  have lt2 : ∀ x ∈ p2, x.block < W.heap.size := by obtain ⟨m, hm⟩ := k2; exact DataW.trod_lt m _ _ _ hm
  obtain ⟨l2, hl2, hr2, hc2, hm2, hg2⟩ : ∃ l : List (MFnExactIsMoveList.S53), len2 = l.length ∧ Go.Proofs.YtcplfdfmebibpaaW.PrintWords.Kd.C (MFnExactIsMoveList.k53) W a2 l.length l ∧ l.length ≤ cap2 ∧ l.length ≤ maxLen ∧ (∀ x ∈ l, (fun x : MFnExactIsMoveList.S53 => (Lit.int .i64 x.f0).wf = true ∧ (Lit.int .i64 x.f1).wf = true ∧ (Lit.int .i64 x.f2).wf = true) x) := by
    obtain ⟨fuel, hf⟩ := h2
    obtain ⟨A, l, cap, hcs, q1, q2, q3, q4⟩ := Open.rowC (d := MFnExactIsMoveList.k53) (good := fun x : MFnExactIsMoveList.S53 => (Lit.int .i64 x.f0).wf = true ∧ (Lit.int .i64 x.f1).wf = true ∧ (Lit.int .i64 x.f2).wf = true) Try.underlying28 (by kernel_rfl) (fun n cs x h => by obtain ⟨b0, b1, b2, rfl, g0, g1, g2⟩ := Open.el3 Try.underlying53 (by kernel_rfl) (by kernel_rfl) Try.underlying3 rfl rfl rfl rfl rfl rfl n cs x h; exact ⟨(⟨b0, b1, b2⟩ : MFnExactIsMoveList.S53), MFnExactIsMoveList.k53_mk W _, g0, g1, g2⟩) hf
    simp [Value.cells] at hcs
    obtain ⟨rfl, rfl, rfl⟩ := hcs
    exact ⟨l, rfl, q3, q1, q2, q4⟩
  subst hl2
  clear hA0 hval0 hsz0 hsz
  obtain ⟨k, hk⟩ := Pure.FnExactIsMoveList a0 l1 l2 w0 hm1 hg1 hm2 hg2
  refine (MFnExactIsMoveList.laws_FnExactIsMoveList.calls k a0 a1 cap1 l1 a2 cap2 l2 true W hr1 hc1 hr2 hc2 hk).mono fun e W' ⟨he, bel⟩ => ?_
  subst he
  exact ⟨_, rfl, _, _, _, [], _, [], hW', trodAll_mk1 (shut_bool Try.underlying4 _), (trodAll_cons_mk (shut_int Try.underlying3 w0) (trodAll_cons_mk (Below.trod laidOut (by kernel_rfl) (of_decide_eq_true (by kernel_rfl)) k1 bel lt1) (trodAll_cons_mk (Below.trod laidOut (by kernel_rfl) (of_decide_eq_true (by kernel_rfl)) k2 bel lt2) trodAll_mk0))), rfl, bel.frame _, fun h => by cases h⟩
theorem over : Rows.fnExactIsMoveListRow.holds Try.pinned (OpenSpec.ofChange Rows.fnExactIsMoveListSpec) :=
  OpenClaim.holds_of_wide 14 Try.f14 rfl rfl rfl rfl rfl rfl rfl ⟨rfl, rfl, rfl, rfl, rfl⟩ rfl rfl rfl rfl rfl (by kernel_rfl) Try.func14 (by kernel_rfl)
    (of_decide_eq_true (by kernel_rfl)) (by unfold Func.isWrapper; first | (rw [if_pos (by decide +kernel)]; kernel_rfl) | (rw [if_neg (by decide +kernel)]; exact ⟨rfl, rfl⟩))
    (fun os started H enc _ => lifted os started H enc)
theorem proved : Rows.FnExactIsMoveListSaid := over
#print axioms proved
end Go.Proofs.Ytcplfdfmebibpaa.fnExactIsMoveList
namespace Go.Proofs.Ytcplfdfmebibpaa
/-- The row, under a short name, for the claim. -/
theorem fnExactIsMoveList_holds : Rows.FnExactIsMoveListSaid := fnExactIsMoveList.proved
end Go.Proofs.Ytcplfdfmebibpaa
