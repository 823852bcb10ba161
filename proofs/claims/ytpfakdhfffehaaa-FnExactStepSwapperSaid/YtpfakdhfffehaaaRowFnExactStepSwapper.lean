import Derived.Test.YtpfakdhfffehaaaRows
import Derived.Test.YtpfakdhfffehaaaMFnExactStepSwapperx12
import Derived.Test.YtpfakdhfffehaaaPureFnExactStepSwapper
import Derived.WalkKit
import Derived.ProofKit
import Derived.OpenShut
import Derived.ShutString
import Derived.ChangeOld
import Derived.Below
import Derived.SizedLaws
import Derived.Lib.SmallJoins
import Derived.Test.YtpfakdhfffehaaaWSized
import Derived.Test.YtpfakdhfffehaaaOpen
namespace Go.Proofs.Ytpfakdhfffehaaa.fnExactStepSwapper
open Go.ChangeShapes Go.WideShapes Go.ChangeAt Go.RowKit Go.Joins
open Go.ChangeMaps (open_string shut_string)
set_option linter.unusedVariables false
theorem own : ownKnob Try.prog.godebug = none := by kernel_rfl
theorem laidOut : laidOutB Try.prog = true := by kernel_rfl
set_option maxRecDepth 100000 in
theorem lifted (os : Os) (started : os.Started) (H : Type) (enc : TypeId × Value → H) :
    ReturnsInHanded {} Try.checked os 7 .any (Rows.fnExactStepSwapperSpec.pre6 enc Try.prog Try.f7 Rows.fnExactStepSwapperRow.domain false) (Rows.fnExactStepSwapperSpec.post enc Try.prog Try.f7 false true false false) := by
  refine returnsInHanded_of_change_sized (C := Try.checked) own started (by kernel_rfl) Try.func7
    (ChangeSpec.witness6 (enc := enc) (C := Try.checked) false ⟨#[], #[.agg #[.slice none 0 0, .slice none 0 0, .slice none 0 0, .slice none 0 0, .slice none 0 0, .slice none 0 0]], []⟩ 8 (by kernel_rfl) (by kernel_rfl) (by kernel_rfl) (by kernel_rfl)) ?_
  intro W base args ds gs before hval0 hW hcnd hsz0 _
  have hsz : (DataW.weightsEach Try.prog (Try.f7.params.toList ++ Rows.fnExactStepSwapperSpec.plain.varTypes Try.prog) (ds ++ gs)).all (· ≤ reachBytes) = true := hsz0
  have hval : ∀ (j : Nat) t v, Try.f7.params[j]? = some t → args[j]? = some v → Value.okWide Try.prog W .any base t v := hval0
  have hW' := hW
  obtain ⟨p, q, hA0, hV, rfl, hfz, hnd⟩ := hW
  have hA : DataW.TrodAll enc Try.prog W 0 (fun _ => true) true Try.f7.params.toList args.toList ds p := hA0
  rw [Try.params7] at hA hval hsz
  obtain ⟨v0, vs0, d0, ds0, p0, q0, hargs, rfl, rfl, h0, r0⟩ := trodAll_cons hA
  obtain ⟨rfl, rfl, rfl⟩ := trodAll_nil r0
  obtain rfl : args = #[v0] := by cases args; simp_all
  obtain ⟨rfl, rfl⟩ := trodVars_none hV
  have k0 := h0
  have lt0 : ∀ x ∈ p0, x.block < W.heap.size := by obtain ⟨m, hm⟩ := k0; exact DataW.trod_lt m _ _ _ hm
  obtain ⟨c0_0, c0_1, c0_2, c0_3, c0_4, c0_5, y0_0, y0_1, y0_2, y0_3, y0_4, y0_5, n0, m0, rfl, hy0_0, hy0_1, hy0_2, hy0_3, hy0_4, hy0_5⟩ := Open.open_sw Try.underlying42 Try.underlying25 (by kernel_rfl) (hval 0 42 v0 rfl rfl) h0
  obtain ⟨a0_0, l0_0, cap0_0, e0_0, hc0_0, hm0_0, hr0_0, hg0_0⟩ := Open.rowC (d := (Go.Proofs.YtpfakdhfffehaaaW.PrintWords.Kd.int .i64)) (good := fun x : Int => (Lit.int .i64 x).wf = true) Try.underlying22 (by kernel_rfl) (Open.elI Try.underlying3) hy0_0
  obtain rfl := List.singleton_inj.1 e0_0
  obtain ⟨a0_1, l0_1, cap0_1, e0_1, hc0_1, hm0_1, hr0_1, hg0_1⟩ := Open.rowC (d := (Go.Proofs.YtpfakdhfffehaaaW.PrintWords.Kd.int .i64)) (good := fun x : Int => (Lit.int .i64 x).wf = true) Try.underlying22 (by kernel_rfl) (Open.elI Try.underlying3) hy0_1
  obtain rfl := List.singleton_inj.1 e0_1
  obtain ⟨a0_2, l0_2, cap0_2, e0_2, hc0_2, hm0_2, hr0_2, hg0_2⟩ := Open.rowC (d := (Go.Proofs.YtpfakdhfffehaaaW.PrintWords.Kd.bool)) (good := fun _ : Bool => True) Try.underlying23 (by kernel_rfl) (Open.elB Try.underlying4) hy0_2
  obtain rfl := List.singleton_inj.1 e0_2
  obtain ⟨a0_3, l0_3, cap0_3, e0_3, hc0_3, hm0_3, hr0_3, hg0_3⟩ := Open.rowC (d := (Go.Proofs.YtpfakdhfffehaaaW.PrintWords.Kd.int .i64)) (good := fun x : Int => (Lit.int .i64 x).wf = true) Try.underlying22 (by kernel_rfl) (Open.elI Try.underlying3) hy0_3
  obtain rfl := List.singleton_inj.1 e0_3
  obtain ⟨a0_4, l0_4, cap0_4, e0_4, hc0_4, hm0_4, hr0_4, hg0_4⟩ := Open.rowC (d := (Go.Proofs.YtpfakdhfffehaaaW.PrintWords.Kd.int .i64)) (good := fun x : Int => (Lit.int .i64 x).wf = true) Try.underlying22 (by kernel_rfl) (Open.elI Try.underlying3) hy0_4
  obtain rfl := List.singleton_inj.1 e0_4
  obtain ⟨a0_5, l0_5, cap0_5, e0_5, hc0_5, hm0_5, hr0_5, hg0_5⟩ := Open.rowC (d := (Go.Proofs.YtpfakdhfffehaaaW.PrintWords.Kd.int .i64)) (good := fun x : Int => (Lit.int .i64 x).wf = true) Try.underlying22 (by kernel_rfl) (Open.elI Try.underlying3) hy0_5
  obtain rfl := List.singleton_inj.1 e0_5
  clear hA0 hval0 hsz0 hsz
  obtain ⟨k, hk⟩ := Pure.FnExactStepSwapper l0_0 l0_1 l0_2 l0_3 l0_4 l0_5 hm0_0 hg0_0 hm0_1 hg0_1 hm0_2 hm0_3 hg0_3 hm0_4 hg0_4 hm0_5 hg0_5
  refine (MFnExactStepSwapper.laws_FnExactStepSwapper.calls k a0_0 cap0_0 l0_0 a0_1 cap0_1 l0_1 a0_2 cap0_2 l0_2 a0_3 cap0_3 l0_3 a0_4 cap0_4 l0_4 a0_5 cap0_5 l0_5 W hr0_0 hc0_0 hr0_1 hc0_1 hr0_2 hc0_2 hr0_3 hc0_3 hr0_4 hc0_4 hr0_5 hc0_5 hk).mono fun e W' ⟨he, bel⟩ => ?_
  subst he
  exact ⟨_, rfl, _, _, _, [], _, [], hW', trodAll_mk1 (shut_bool Try.underlying4 _), (trodAll_cons_mk (Below.trod laidOut (by kernel_rfl) (of_decide_eq_true (by kernel_rfl)) k0 bel lt0) trodAll_mk0), rfl, bel.frame _, fun h => by cases h⟩
theorem over : Rows.fnExactStepSwapperRow.holds Try.pinned (OpenSpec.ofChange Rows.fnExactStepSwapperSpec) :=
  OpenClaim.holds_of_wide 7 Try.f7 rfl rfl rfl rfl rfl rfl rfl ⟨rfl, rfl, rfl, rfl, rfl⟩ rfl rfl rfl rfl rfl (by kernel_rfl) Try.func7 (by kernel_rfl)
    (of_decide_eq_true (by kernel_rfl)) (by unfold Func.isWrapper; first | (rw [if_pos (by decide +kernel)]; kernel_rfl) | (rw [if_neg (by decide +kernel)]; exact ⟨rfl, rfl⟩))
    (fun os started H enc _ => lifted os started H enc)
theorem proved : Rows.FnExactStepSwapperSaid := over
#print axioms proved
end Go.Proofs.Ytpfakdhfffehaaa.fnExactStepSwapper
namespace Go.Proofs.Ytpfakdhfffehaaa
theorem fnExactStepSwapper_holds : Rows.FnExactStepSwapperSaid := fnExactStepSwapper.proved
end Go.Proofs.Ytpfakdhfffehaaa
