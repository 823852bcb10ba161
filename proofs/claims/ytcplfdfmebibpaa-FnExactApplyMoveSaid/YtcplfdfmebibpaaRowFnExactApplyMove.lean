/- The statement of the law FnExactApplyMove: for every input that reads as data the call returns true and every argument reads afterwards as before. Conditions: none beyond the row's own. -/
import Derived.Test.YtcplfdfmebibpaaRows
import Derived.Test.YtcplfdfmebibpaaMFnExactApplyMovex6
import Derived.Test.YtcplfdfmebibpaaPureFnExactApplyMove
import Derived.WalkKit
import Derived.ProofKit
import Derived.OpenShut
import Derived.ShutString
import Derived.ChangeOld
import Derived.Below
import Derived.SizedLaws
import Derived.Lib.SmallJoins
import Derived.Test.YtcplfdfmebibpaaWSized
import Derived.Test.YtcplfdfmebibpaaOpen
namespace Go.Proofs.Ytcplfdfmebibpaa.fnExactApplyMove
open Go.ChangeShapes Go.WideShapes Go.ChangeAt Go.RowKit Go.Joins
open Go.ChangeMaps (open_string shut_string)
set_option linter.unusedVariables false
theorem own : ownKnob Try.prog.godebug = none := by kernel_rfl
theorem laidOut : laidOutB Try.prog = true := by kernel_rfl
set_option maxRecDepth 100000 in
theorem lifted (os : Os) (started : os.Started) (H : Type) (enc : TypeId × Value → H) :
    ReturnsInHanded {} Try.checked os 11 .any (Rows.fnExactApplyMoveSpec.pre6 enc Try.prog Try.f11 Rows.fnExactApplyMoveRow.domain false) (Rows.fnExactApplyMoveSpec.post enc Try.prog Try.f11 false true false false) := by
  refine returnsInHanded_of_change_sized (C := Try.checked) own started (by kernel_rfl) Try.func11
    (ChangeSpec.witness6 (enc := enc) (C := Try.checked) false ⟨#[], #[.slice none 0 0, .agg #[.int .i64 0, .int .i64 0, .int .i64 0]], []⟩ 8 (by kernel_rfl) (by kernel_rfl) (by kernel_rfl) (by kernel_rfl)) ?_
  intro W base args ds gs before hval0 hW hcnd hsz0 _
  have hsz : (DataW.weightsEach Try.prog (Try.f11.params.toList ++ Rows.fnExactApplyMoveSpec.plain.varTypes Try.prog) (ds ++ gs)).all (· ≤ reachBytes) = true := hsz0
  have hval : ∀ (j : Nat) t v, Try.f11.params[j]? = some t → args[j]? = some v → Value.okWide Try.prog W .any base t v := hval0
  have hW' := hW
  obtain ⟨p, q, hA0, hV, rfl, hfz, hnd⟩ := hW
  have hA : DataW.TrodAll enc Try.prog W 0 (fun _ => true) true Try.f11.params.toList args.toList ds p := hA0
  rw [Try.params11] at hA hval hsz
  obtain ⟨v0, vs0, d0, ds0, p0, q0, hargs, rfl, rfl, h0, r0⟩ := trodAll_cons hA
  obtain ⟨v1, vs1, d1, ds1, p1, q1, rfl, rfl, rfl, h1, r1⟩ := trodAll_cons r0
  obtain ⟨rfl, rfl, rfl⟩ := trodAll_nil r1
  obtain rfl : args = #[v0, v1] := by cases args; simp_all
  obtain ⟨rfl, rfl⟩ := trodVars_none hV
  obtain ⟨a0, len0, cap0, rfl⟩ := okWide_slice Try.underlying22 (hval 0 22 v0 rfl rfl)
  have k0 := h0
  have lt0 : ∀ x ∈ p0, x.block < W.heap.size := by obtain ⟨m, hm⟩ := k0; exact DataW.trod_lt m _ _ _ hm
  obtain ⟨l0, hl0, hr0, hc0, hm0, hg0⟩ : ∃ l : List (Int), len0 = l.length ∧ Go.Proofs.YtcplfdfmebibpaaW.PrintWords.Kd.C (Go.Proofs.YtcplfdfmebibpaaW.PrintWords.Kd.int .i64) W a0 l.length l ∧ l.length ≤ cap0 ∧ l.length ≤ maxLen ∧ (∀ x ∈ l, (fun x : Int => (Lit.int .i64 x).wf = true) x) := by
    obtain ⟨fuel, hf⟩ := h0
    obtain ⟨A, l, cap, hcs, q1, q2, q3, q4⟩ := Open.rowC (d := Go.Proofs.YtcplfdfmebibpaaW.PrintWords.Kd.int .i64) (good := fun x : Int => (Lit.int .i64 x).wf = true) Try.underlying22 (by kernel_rfl) (Open.elI Try.underlying3) hf
    simp [Value.cells] at hcs
    obtain ⟨rfl, rfl, rfl⟩ := hcs
    exact ⟨l, rfl, q3, q1, q2, q4⟩
  subst hl0
  have k1 := h1
  have lt1 : ∀ x ∈ p1, x.block < W.heap.size := by obtain ⟨m, hm⟩ := k1; exact DataW.trod_lt m _ _ _ hm
  obtain ⟨c1_0, c1_1, c1_2, y1_0, y1_1, y1_2, m1, rfl, _, _, hy1_0, hy1_1, hy1_2⟩ := open_agg3 Try.underlying53 (by kernel_rfl) (by kernel_rfl) (hval 1 53 v1 rfl rfl) h1
  obtain ⟨a1_0, e1_0, _, w1_0⟩ := DataW.trod_int Try.underlying3 hy1_0
  obtain rfl := List.singleton_inj.1 e1_0
  obtain ⟨a1_1, e1_1, _, w1_1⟩ := DataW.trod_int Try.underlying3 hy1_1
  obtain rfl := List.singleton_inj.1 e1_1
  obtain ⟨a1_2, e1_2, _, w1_2⟩ := DataW.trod_int Try.underlying3 hy1_2
  obtain rfl := List.singleton_inj.1 e1_2
  clear hA0 hval0 hsz0 hsz
  obtain ⟨k, hk⟩ := Pure.FnExactApplyMove l0 a1_0 a1_1 a1_2 hm0 hg0 w1_0 w1_1 w1_2
  refine (MFnExactApplyMove.laws_FnExactApplyMove.calls k a0 cap0 l0 a1_0 a1_1 a1_2 true W hr0 hc0 hk).mono fun e W' ⟨he, bel⟩ => ?_
  subst he
  exact ⟨_, rfl, _, _, _, [], _, [], hW', trodAll_mk1 (shut_bool Try.underlying4 _), (trodAll_cons_mk (Below.trod laidOut (by kernel_rfl) (of_decide_eq_true (by kernel_rfl)) k0 bel lt0) (trodAll_cons_mk (Below.trod laidOut (by kernel_rfl) (of_decide_eq_true (by kernel_rfl)) k1 bel lt1) trodAll_mk0)), rfl, bel.frame _, fun h => by cases h⟩
theorem over : Rows.fnExactApplyMoveRow.holds Try.pinned (OpenSpec.ofChange Rows.fnExactApplyMoveSpec) :=
  OpenClaim.holds_of_wide 11 Try.f11 rfl rfl rfl rfl rfl rfl rfl ⟨rfl, rfl, rfl, rfl, rfl⟩ rfl rfl rfl rfl rfl (by kernel_rfl) Try.func11 (by kernel_rfl)
    (of_decide_eq_true (by kernel_rfl)) (by unfold Func.isWrapper; first | (rw [if_pos (by decide +kernel)]; kernel_rfl) | (rw [if_neg (by decide +kernel)]; exact ⟨rfl, rfl⟩))
    (fun os started H enc _ => lifted os started H enc)
theorem proved : Rows.FnExactApplyMoveSaid := over
#print axioms proved
end Go.Proofs.Ytcplfdfmebibpaa.fnExactApplyMove
namespace Go.Proofs.Ytcplfdfmebibpaa
/-- The row, under a short name, for the claim. -/
theorem fnExactApplyMove_holds : Rows.FnExactApplyMoveSaid := fnExactApplyMove.proved
end Go.Proofs.Ytcplfdfmebibpaa
