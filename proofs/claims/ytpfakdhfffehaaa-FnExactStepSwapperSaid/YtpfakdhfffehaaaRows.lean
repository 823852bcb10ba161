/-
  No cell of these rows narrows 'for every input' (looked for: loops, veiled, ifaces, maps, wideKeys, modest, calm, conditions, laid).
  DERIVED. THE GIVEN ROWS OF THIS SEAT. 5 by the template 'for every input the law returns true; each argument reads behind the call as it read before'; 0 by the template 'total and deterministic' (their statements: YtpfakdhfffehaaaTotals.lean).
  GIVEN WITH THE SEED: the statements are not yours to turn. If you find one false, say at which input.
  Laid BY PROGRAM, IN A SANDBOX (cutbox-rows.mjs): the forced cells as the released guide's own fill.sh prints them over the translation 2d0f5db3a540d289… (all of the seat's roots in one cut). By AI agents, Wed Nov 11 2026. No macro, syntax, notation, axiom, sorry.
-/
import Derived.Test.YtpfakdhfffehaaaChecked
import GoSem.Claim
import GoSem.ClaimJoined
import GoSem.ClaimMapViews
import Derived.JoinedTies
import Derived.KernelRfl
namespace Go.Proofs.Ytpfakdhfffehaaa
/- THE CELL 'sum', in the pinned program and in every row, IS THE sha256 OF THE DUMP (.gsa) THAT YtpfakdhfffehaaaProg.lean LOADS. Nothing in Lean hashes anything: it is a label: what it is worth is what the hold of that sum in a sandbox is worth. -/
noncomputable def Try.pinned : Pinned := { name := "ytpfakdhfffehaaa", sum := "2d0f5db3a540d289edbe8fcfa1d78d466bf28ef96e84c32019db4e51c6b868a9", checked := Try.checked }
namespace Rows
def none {H : Type} : Left H := { results := [], args := [] }

/-- 'laws.FnExactStepFocus': WHATEVER THE INPUT: true; the input reads as it did. -/
def fnExactStepFocusSpec : ChangeSpec := { name := "fnExactStepFocus", fn := fun _ => fun
  | [d] => { results := [.lit (.bool true)], args := [d] }
  | _ => none }
def fnExactStepFocusRow : OpenClaim := { program := "ytpfakdhfffehaaa", sum := "2d0f5db3a540d289edbe8fcfa1d78d466bf28ef96e84c32019db4e51c6b868a9", func := "loop.example/g01104/laws.FnExactStepFocus", spec := "fnExactStepFocus", recurses := true, apart := false }
def FnExactStepFocusSaid : Prop := fnExactStepFocusRow.holds Try.pinned (OpenSpec.ofChange fnExactStepFocusSpec)

/-- ITS FALSE NEIGHBOUR: 'it returns false'. Refute it at one input. -/
def fnExactStepFocusWrong : ChangeSpec := { name := "fnExactStepFocus", fn := fun _ => fun
  | [d] => { results := [.lit (.bool false)], args := [d] }
  | _ => none }
def FnExactStepFocusWrongFalsely : Prop := fnExactStepFocusRow.holds Try.pinned (OpenSpec.ofChange fnExactStepFocusWrong)

/-- 'laws.FnExactSwapperAt': WHATEVER THE INPUT: true; the input reads as it did. -/
def fnExactSwapperAtSpec : ChangeSpec := { name := "fnExactSwapperAt", fn := fun _ => fun
  | [d1, d2] => { results := [.lit (.bool true)], args := [d1, d2] }
  | _ => none }
def fnExactSwapperAtRow : OpenClaim := { program := "ytpfakdhfffehaaa", sum := "2d0f5db3a540d289edbe8fcfa1d78d466bf28ef96e84c32019db4e51c6b868a9", func := "loop.example/g01104/laws.FnExactSwapperAt", spec := "fnExactSwapperAt", recurses := true, apart := false }
def FnExactSwapperAtSaid : Prop := fnExactSwapperAtRow.holds Try.pinned (OpenSpec.ofChange fnExactSwapperAtSpec)

/-- ITS FALSE NEIGHBOUR: 'it returns false'. Refute it at one input. -/
def fnExactSwapperAtWrong : ChangeSpec := { name := "fnExactSwapperAt", fn := fun _ => fun
  | [d1, d2] => { results := [.lit (.bool false)], args := [d1, d2] }
  | _ => none }
def FnExactSwapperAtWrongFalsely : Prop := fnExactSwapperAtRow.holds Try.pinned (OpenSpec.ofChange fnExactSwapperAtWrong)

/-- 'laws.FnExactIsSwapper': WHATEVER THE INPUT: true; the input reads as it did. -/
def fnExactIsSwapperSpec : ChangeSpec := { name := "fnExactIsSwapper", fn := fun _ => fun
  | [d] => { results := [.lit (.bool true)], args := [d] }
  | _ => none }
def fnExactIsSwapperRow : OpenClaim := { program := "ytpfakdhfffehaaa", sum := "2d0f5db3a540d289edbe8fcfa1d78d466bf28ef96e84c32019db4e51c6b868a9", func := "loop.example/g01104/laws.FnExactIsSwapper", spec := "fnExactIsSwapper", recurses := true, apart := false }
def FnExactIsSwapperSaid : Prop := fnExactIsSwapperRow.holds Try.pinned (OpenSpec.ofChange fnExactIsSwapperSpec)

/-- ITS FALSE NEIGHBOUR: 'it returns false'. Refute it at one input. -/
def fnExactIsSwapperWrong : ChangeSpec := { name := "fnExactIsSwapper", fn := fun _ => fun
  | [d] => { results := [.lit (.bool false)], args := [d] }
  | _ => none }
def FnExactIsSwapperWrongFalsely : Prop := fnExactIsSwapperRow.holds Try.pinned (OpenSpec.ofChange fnExactIsSwapperWrong)

/-- 'laws.FnExactSwapperRank': WHATEVER THE INPUT: true; the input reads as it did. -/
def fnExactSwapperRankSpec : ChangeSpec := { name := "fnExactSwapperRank", fn := fun _ => fun
  | [d] => { results := [.lit (.bool true)], args := [d] }
  | _ => none }
def fnExactSwapperRankRow : OpenClaim := { program := "ytpfakdhfffehaaa", sum := "2d0f5db3a540d289edbe8fcfa1d78d466bf28ef96e84c32019db4e51c6b868a9", func := "loop.example/g01104/laws.FnExactSwapperRank", spec := "fnExactSwapperRank", recurses := true, apart := false }
def FnExactSwapperRankSaid : Prop := fnExactSwapperRankRow.holds Try.pinned (OpenSpec.ofChange fnExactSwapperRankSpec)

/-- ITS FALSE NEIGHBOUR: 'it returns false'. Refute it at one input. -/
def fnExactSwapperRankWrong : ChangeSpec := { name := "fnExactSwapperRank", fn := fun _ => fun
  | [d] => { results := [.lit (.bool false)], args := [d] }
  | _ => none }
def FnExactSwapperRankWrongFalsely : Prop := fnExactSwapperRankRow.holds Try.pinned (OpenSpec.ofChange fnExactSwapperRankWrong)

/-- 'laws.FnExactStepSwapper': WHATEVER THE INPUT: true; the input reads as it did. -/
def fnExactStepSwapperSpec : ChangeSpec := { name := "fnExactStepSwapper", fn := fun _ => fun
  | [d] => { results := [.lit (.bool true)], args := [d] }
  | _ => none }
def fnExactStepSwapperRow : OpenClaim := { program := "ytpfakdhfffehaaa", sum := "2d0f5db3a540d289edbe8fcfa1d78d466bf28ef96e84c32019db4e51c6b868a9", func := "loop.example/g01104/laws.FnExactStepSwapper", spec := "fnExactStepSwapper", recurses := true, apart := false }
def FnExactStepSwapperSaid : Prop := fnExactStepSwapperRow.holds Try.pinned (OpenSpec.ofChange fnExactStepSwapperSpec)

/-- ITS FALSE NEIGHBOUR: 'it returns false'. Refute it at one input. -/
def fnExactStepSwapperWrong : ChangeSpec := { name := "fnExactStepSwapper", fn := fun _ => fun
  | [d] => { results := [.lit (.bool false)], args := [d] }
  | _ => none }
def FnExactStepSwapperWrongFalsely : Prop := fnExactStepSwapperRow.holds Try.pinned (OpenSpec.ofChange fnExactStepSwapperWrong)

/- THE SECOND FORM. 'bulk': how many values and letters a reading holds, each counted each time it is reached (what is shared counts as often as it is met; a slice's spare places count too). A statement '..UptoSaid' is the law's where the arguments, and the package variables that the reading takes, are together of bulk at most 1048576: NARROWER than '..Said'. Prove '..Said' where nothing that the law and all that it calls make is longer than what came in: it says more and counts as full. Else prove '..UptoSaid'. A law counts once. -/
mutual
def uptoBulk {H : Type} : DataW H → Nat
  | .lit (.string bytes) => bytes.length + 1
  | .lit _ => 1
  | .nil => 1
  | .ptr d => uptoBulk d + 1
  | .slice elems spare => uptoBulkAll elems + uptoBulkAll spare + 1
  | .agg parts => uptoBulkAll parts + 1
  | .iface _ d => uptoBulk d + 1
  | .map entries => uptoBulkEntries entries + 1
  | .held _ => 1
def uptoBulkAll {H : Type} : List (DataW H) → Nat
  | [] => 0
  | d :: r => uptoBulk d + uptoBulkAll r
def uptoBulkEntries {H : Type} : List (Lit × DataW H) → Nat
  | [] => 0
  | x :: r => uptoBulkEntry x + uptoBulkEntries r
def uptoBulkEntry {H : Type} : Lit × DataW H → Nat
  | (.string bytes, d) => bytes.length + uptoBulk d + 1
  | (_, d) => uptoBulk d + 1
 end
def uptoSmall : (H : Type) → List (DataW H) → Bool := fun _ ds => decide (uptoBulkAll ds ≤ 1048576)
def OpenSpec.upto (s : _root_.Go.ChangeSpec) : _root_.Go.OpenSpec := { _root_.Go.OpenSpec.ofChange s with cond := some uptoSmall }

/-- 'laws.FnExactStepFocus', WHERE WHAT IT READS IS OF BULK AT MOST 1048576: true; the input reads as it did. -/
def fnExactStepFocusUptoRow : OpenClaim := { program := "ytpfakdhfffehaaa", sum := "2d0f5db3a540d289edbe8fcfa1d78d466bf28ef96e84c32019db4e51c6b868a9", func := "loop.example/g01104/laws.FnExactStepFocus", spec := "fnExactStepFocus", recurses := true, apart := false, narrowed := true }
def FnExactStepFocusUptoSaid : Prop := fnExactStepFocusUptoRow.holds Try.pinned (OpenSpec.upto fnExactStepFocusSpec)

/-- 'laws.FnExactSwapperAt', WHERE WHAT IT READS IS OF BULK AT MOST 1048576: true; the input reads as it did. -/
def fnExactSwapperAtUptoRow : OpenClaim := { program := "ytpfakdhfffehaaa", sum := "2d0f5db3a540d289edbe8fcfa1d78d466bf28ef96e84c32019db4e51c6b868a9", func := "loop.example/g01104/laws.FnExactSwapperAt", spec := "fnExactSwapperAt", recurses := true, apart := false, narrowed := true }
def FnExactSwapperAtUptoSaid : Prop := fnExactSwapperAtUptoRow.holds Try.pinned (OpenSpec.upto fnExactSwapperAtSpec)

/-- 'laws.FnExactIsSwapper', WHERE WHAT IT READS IS OF BULK AT MOST 1048576: true; the input reads as it did. -/
def fnExactIsSwapperUptoRow : OpenClaim := { program := "ytpfakdhfffehaaa", sum := "2d0f5db3a540d289edbe8fcfa1d78d466bf28ef96e84c32019db4e51c6b868a9", func := "loop.example/g01104/laws.FnExactIsSwapper", spec := "fnExactIsSwapper", recurses := true, apart := false, narrowed := true }
def FnExactIsSwapperUptoSaid : Prop := fnExactIsSwapperUptoRow.holds Try.pinned (OpenSpec.upto fnExactIsSwapperSpec)

/-- 'laws.FnExactSwapperRank', WHERE WHAT IT READS IS OF BULK AT MOST 1048576: true; the input reads as it did. -/
def fnExactSwapperRankUptoRow : OpenClaim := { program := "ytpfakdhfffehaaa", sum := "2d0f5db3a540d289edbe8fcfa1d78d466bf28ef96e84c32019db4e51c6b868a9", func := "loop.example/g01104/laws.FnExactSwapperRank", spec := "fnExactSwapperRank", recurses := true, apart := false, narrowed := true }
def FnExactSwapperRankUptoSaid : Prop := fnExactSwapperRankUptoRow.holds Try.pinned (OpenSpec.upto fnExactSwapperRankSpec)

/-- 'laws.FnExactStepSwapper', WHERE WHAT IT READS IS OF BULK AT MOST 1048576: true; the input reads as it did. -/
def fnExactStepSwapperUptoRow : OpenClaim := { program := "ytpfakdhfffehaaa", sum := "2d0f5db3a540d289edbe8fcfa1d78d466bf28ef96e84c32019db4e51c6b868a9", func := "loop.example/g01104/laws.FnExactStepSwapper", spec := "fnExactStepSwapper", recurses := true, apart := false, narrowed := true }
def FnExactStepSwapperUptoSaid : Prop := fnExactStepSwapperUptoRow.holds Try.pinned (OpenSpec.upto fnExactStepSwapperSpec)

end Rows
end Go.Proofs.Ytpfakdhfffehaaa
