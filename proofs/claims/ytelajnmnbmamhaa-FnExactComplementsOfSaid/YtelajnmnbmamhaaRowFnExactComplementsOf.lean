/- The statement of the law FnExactComplementsOf: for every input that reads as data the call returns true and every argument reads afterwards as before. Conditions: none beyond the row's own. -/
import Derived.Test.YtelajnmnbmamhaaRows
import Derived.Test.YtelajnmnbmamhaaMFnExactComplementsOfx5
import Derived.Test.YtelajnmnbmamhaaPureFnExactComplementsOf
import Derived.WalkKit
import Derived.ProofKit
import Derived.OpenShut
import Derived.ShutString
import Derived.ChangeOld
import Derived.Below
import Derived.SizedLaws
import Derived.Lib.SmallJoins
import Derived.Test.YtelajnmnbmamhaaWSized
import Derived.Test.YtelajnmnbmamhaaOpen
namespace Go.Proofs.Ytelajnmnbmamhaa.fnExactComplementsOf
open Go.ChangeShapes Go.WideShapes Go.ChangeAt Go.RowKit Go.Joins
open Go.ChangeMaps (open_string shut_string)
set_option linter.unusedVariables false
theorem own : ownKnob Try.prog.godebug = none := by kernel_rfl
theorem laidOut : laidOutB Try.prog = true := by kernel_rfl
set_option maxRecDepth 100000 in
theorem lifted (os : Os) (started : os.Started) (H : Type) (enc : TypeId × Value → H) :
    ReturnsInHanded {} Try.checked os 4 .any (Rows.fnExactComplementsOfSpec.pre6 enc Try.prog Try.f4 Rows.fnExactComplementsOfRow.domain false) (Rows.fnExactComplementsOfSpec.post enc Try.prog Try.f4 false true false false) := by
  refine returnsInHanded_of_change_sized (C := Try.checked) own started (by kernel_rfl) Try.func4
    (ChangeSpec.witness6 (enc := enc) (C := Try.checked) false ⟨#[], #[.int .i64 0, .slice none 0 0], []⟩ 8 (by kernel_rfl) (by kernel_rfl) (by kernel_rfl) (by kernel_rfl)) ?_
  intro W base args ds gs before hval0 hW hcnd hsz0 _
  have hsz : (DataW.weightsEach Try.prog (Try.f4.params.toList ++ Rows.fnExactComplementsOfSpec.plain.varTypes Try.prog) (ds ++ gs)).all (· ≤ reachBytes) = true := hsz0
  have hval : ∀ (j : Nat) t v, Try.f4.params[j]? = some t → args[j]? = some v → Value.okWide Try.prog W .any base t v := hval0
  have hW' := hW
  obtain ⟨p, q, hA0, hV, rfl, hfz, hnd⟩ := hW
  have hA : DataW.TrodAll enc Try.prog W 0 (fun _ => true) true Try.f4.params.toList args.toList ds p := hA0
  rw [Try.params4] at hA hval hsz
  obtain ⟨v0, vs0, d0, ds0, p0, q0, hargs, rfl, rfl, h0, r0⟩ := trodAll_cons hA
  obtain ⟨v1, vs1, d1, ds1, p1, q1, rfl, rfl, rfl, h1, r1⟩ := trodAll_cons r0
  obtain ⟨rfl, rfl, rfl⟩ := trodAll_nil r1
  obtain rfl : args = #[v0, v1] := by cases args; simp_all
  obtain ⟨rfl, rfl⟩ := trodVars_none hV
  obtain ⟨a0, rfl, rfl, rfl, w0⟩ := open_int Try.underlying3 (hval 0 3 v0 rfl rfl) h0
  obtain ⟨a1, len1, cap1, rfl⟩ := okWide_slice Try.underlying28 (hval 1 28 v1 rfl rfl)
  have k1 := h1
  have lt1 : ∀ x ∈ p1, x.block < W.heap.size := by obtain ⟨m, hm⟩ := k1; exact DataW.trod_lt m _ _ _ hm
  obtain ⟨l1, hl1, hr1, hc1, hm1, hg1⟩ : ∃ l : List (List Int), len1 = l.length ∧ Go.Proofs.YtelajnmnbmamhaaW.PrintWords.Kd.C (Go.Proofs.YtelajnmnbmamhaaW.PrintWords.Kd.slice 3 (Go.Proofs.YtelajnmnbmamhaaW.PrintWords.Kd.int .i64)) W a1 l.length l ∧ l.length ≤ cap1 ∧ l.length ≤ maxLen ∧ (∀ x ∈ l, (fun l : List Int => l.length ≤ maxLen ∧ ∀ x ∈ l, (Lit.int .i64 x).wf = true) x) := by
    obtain ⟨fuel, hf⟩ := h1
    obtain ⟨A, l, cap, hcs, q1, q2, q3, q4⟩ := Open.rowC (d := Go.Proofs.YtelajnmnbmamhaaW.PrintWords.Kd.slice 3 (Go.Proofs.YtelajnmnbmamhaaW.PrintWords.Kd.int .i64)) (good := fun l : List Int => l.length ≤ maxLen ∧ ∀ x ∈ l, (Lit.int .i64 x).wf = true) Try.underlying28 (by kernel_rfl) (Open.elIS Try.underlying22 Try.underlying3 (by kernel_rfl)) hf
    simp [Value.cells] at hcs
    obtain ⟨rfl, rfl, rfl⟩ := hcs
    exact ⟨l, rfl, q3, q1, q2, q4⟩
  subst hl1
  clear hA0 hval0 hsz0 hsz
  obtain ⟨k, hk⟩ := Pure.FnExactComplementsOf a0 l1 w0 hm1 hg1
  refine (MFnExactComplementsOf.laws_FnExactComplementsOf.calls k a0 a1 cap1 l1 W hr1 hc1 hk).mono fun e W' ⟨he, bel⟩ => ?_
  subst he
  exact ⟨_, rfl, _, _, _, [], _, [], hW', trodAll_mk1 (shut_bool Try.underlying4 _), (trodAll_cons_mk (shut_int Try.underlying3 w0) (trodAll_cons_mk (Below.trod laidOut (by kernel_rfl) (of_decide_eq_true (by kernel_rfl)) k1 bel lt1) trodAll_mk0)), rfl, bel.frame _, fun h => by cases h⟩
theorem over : Rows.fnExactComplementsOfRow.holds Try.pinned (OpenSpec.ofChange Rows.fnExactComplementsOfSpec) :=
  OpenClaim.holds_of_wide 4 Try.f4 rfl rfl rfl rfl rfl rfl rfl ⟨rfl, rfl, rfl, rfl, rfl⟩ rfl rfl rfl rfl rfl (by kernel_rfl) Try.func4 (by kernel_rfl)
    (of_decide_eq_true (by kernel_rfl)) (by unfold Func.isWrapper; first | (rw [if_pos (by decide +kernel)]; kernel_rfl) | (rw [if_neg (by decide +kernel)]; exact ⟨rfl, rfl⟩))
    (fun os started H enc _ => lifted os started H enc)
theorem proved : Rows.FnExactComplementsOfSaid := over
#print axioms proved
end Go.Proofs.Ytelajnmnbmamhaa.fnExactComplementsOf
namespace Go.Proofs.Ytelajnmnbmamhaa
/-- The row, under a short name, for the claim. -/
theorem fnExactComplementsOf_holds : Rows.FnExactComplementsOfSaid := fnExactComplementsOf.proved
end Go.Proofs.Ytelajnmnbmamhaa
