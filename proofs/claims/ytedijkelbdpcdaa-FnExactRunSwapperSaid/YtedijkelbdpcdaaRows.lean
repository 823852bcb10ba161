/-
  No cell of these rows narrows 'for every input' (looked for: loops, veiled, ifaces, maps, wideKeys, modest, calm, conditions, laid).
  DERIVED. THE GIVEN ROWS OF THIS SEAT. 9 by the template 'for every input the law returns true; each argument reads behind the call as it read before'; 0 by the template 'total and deterministic' (their statements: YtedijkelbdpcdaaTotals.lean).
  GIVEN WITH THE SEED: the statements are not yours to turn. If you find one false, say at which input.
  Laid BY PROGRAM, IN A SANDBOX (cutbox-rows.mjs): the forced cells as the released guide's own fill.sh prints them over the translation 51ced3cf748b4b3b… (all of the seat's roots in one cut). By AI agents, Wed Nov 11 2026. No macro, syntax, notation, axiom, sorry.
-/
import Derived.Test.YtedijkelbdpcdaaChecked
import GoSem.Claim
import GoSem.ClaimJoined
import GoSem.ClaimMapViews
import Derived.JoinedTies
import Derived.KernelRfl
namespace Go.Proofs.Ytedijkelbdpcdaa
/- THE CELL 'sum', in the pinned program and in every row, IS THE sha256 OF THE DUMP (.gsa) THAT YtedijkelbdpcdaaProg.lean LOADS. Nothing in Lean hashes anything: it is a label: what it is worth is what the hold of that sum in a sandbox is worth. -/
noncomputable def Try.pinned : Pinned := { name := "ytedijkelbdpcdaa", sum := "51ced3cf748b4b3b8ab97a0f3dd3b0c422b1172b34745ed0d8bcee68ec8f05cc", checked := Try.checked }
namespace Rows
def none {H : Type} : Left H := { results := [], args := [] }

/-- 'laws.FnExactFocusRank': WHATEVER THE INPUT: true; the input reads as it did. -/
def fnExactFocusRankSpec : ChangeSpec := { name := "fnExactFocusRank", fn := fun _ => fun
  | [d] => { results := [.lit (.bool true)], args := [d] }
  | _ => none }
def fnExactFocusRankRow : OpenClaim := { program := "ytedijkelbdpcdaa", sum := "51ced3cf748b4b3b8ab97a0f3dd3b0c422b1172b34745ed0d8bcee68ec8f05cc", func := "loop.example/g01104/laws.FnExactFocusRank", spec := "fnExactFocusRank", recurses := true, apart := false }
def FnExactFocusRankSaid : Prop := fnExactFocusRankRow.holds Try.pinned (OpenSpec.ofChange fnExactFocusRankSpec)

/-- ITS FALSE NEIGHBOUR: 'it returns false'. Refute it at one input. -/
def fnExactFocusRankWrong : ChangeSpec := { name := "fnExactFocusRank", fn := fun _ => fun
  | [d] => { results := [.lit (.bool false)], args := [d] }
  | _ => none }
def FnExactFocusRankWrongFalsely : Prop := fnExactFocusRankRow.holds Try.pinned (OpenSpec.ofChange fnExactFocusRankWrong)

/-- 'laws.FnExactIsLastFocus': WHATEVER THE INPUT: true; the input reads as it did. -/
def fnExactIsLastFocusSpec : ChangeSpec := { name := "fnExactIsLastFocus", fn := fun _ => fun
  | [d] => { results := [.lit (.bool true)], args := [d] }
  | _ => none }
def fnExactIsLastFocusRow : OpenClaim := { program := "ytedijkelbdpcdaa", sum := "51ced3cf748b4b3b8ab97a0f3dd3b0c422b1172b34745ed0d8bcee68ec8f05cc", func := "loop.example/g01104/laws.FnExactIsLastFocus", spec := "fnExactIsLastFocus", recurses := true, apart := false }
def FnExactIsLastFocusSaid : Prop := fnExactIsLastFocusRow.holds Try.pinned (OpenSpec.ofChange fnExactIsLastFocusSpec)

/-- ITS FALSE NEIGHBOUR: 'it returns false'. Refute it at one input. -/
def fnExactIsLastFocusWrong : ChangeSpec := { name := "fnExactIsLastFocus", fn := fun _ => fun
  | [d] => { results := [.lit (.bool false)], args := [d] }
  | _ => none }
def FnExactIsLastFocusWrongFalsely : Prop := fnExactIsLastFocusRow.holds Try.pinned (OpenSpec.ofChange fnExactIsLastFocusWrong)

/-- 'laws.FnExactStepFocus': WHATEVER THE INPUT: true; the input reads as it did. -/
def fnExactStepFocusSpec : ChangeSpec := { name := "fnExactStepFocus", fn := fun _ => fun
  | [d] => { results := [.lit (.bool true)], args := [d] }
  | _ => none }
def fnExactStepFocusRow : OpenClaim := { program := "ytedijkelbdpcdaa", sum := "51ced3cf748b4b3b8ab97a0f3dd3b0c422b1172b34745ed0d8bcee68ec8f05cc", func := "loop.example/g01104/laws.FnExactStepFocus", spec := "fnExactStepFocus", recurses := true, apart := false }
def FnExactStepFocusSaid : Prop := fnExactStepFocusRow.holds Try.pinned (OpenSpec.ofChange fnExactStepFocusSpec)

/-- ITS FALSE NEIGHBOUR: 'it returns false'. Refute it at one input. -/
def fnExactStepFocusWrong : ChangeSpec := { name := "fnExactStepFocus", fn := fun _ => fun
  | [d] => { results := [.lit (.bool false)], args := [d] }
  | _ => none }
def FnExactStepFocusWrongFalsely : Prop := fnExactStepFocusRow.holds Try.pinned (OpenSpec.ofChange fnExactStepFocusWrong)

/-- 'laws.FnExactStartSwapper': WHATEVER THE INPUT: true; the input reads as it did. -/
def fnExactStartSwapperSpec : ChangeSpec := { name := "fnExactStartSwapper", fn := fun _ => fun
  | [d] => { results := [.lit (.bool true)], args := [d] }
  | _ => none }
def fnExactStartSwapperRow : OpenClaim := { program := "ytedijkelbdpcdaa", sum := "51ced3cf748b4b3b8ab97a0f3dd3b0c422b1172b34745ed0d8bcee68ec8f05cc", func := "loop.example/g01104/laws.FnExactStartSwapper", spec := "fnExactStartSwapper", apart := false }
def FnExactStartSwapperSaid : Prop := fnExactStartSwapperRow.holds Try.pinned (OpenSpec.ofChange fnExactStartSwapperSpec)

/-- ITS FALSE NEIGHBOUR: 'it returns false'. Refute it at one input. -/
def fnExactStartSwapperWrong : ChangeSpec := { name := "fnExactStartSwapper", fn := fun _ => fun
  | [d] => { results := [.lit (.bool false)], args := [d] }
  | _ => none }
def FnExactStartSwapperWrongFalsely : Prop := fnExactStartSwapperRow.holds Try.pinned (OpenSpec.ofChange fnExactStartSwapperWrong)

/-- 'laws.FnExactRunSwapper': WHATEVER THE INPUT: true; the input reads as it did. -/
def fnExactRunSwapperSpec : ChangeSpec := { name := "fnExactRunSwapper", fn := fun _ => fun
  | [d1, d2] => { results := [.lit (.bool true)], args := [d1, d2] }
  | _ => none }
def fnExactRunSwapperRow : OpenClaim := { program := "ytedijkelbdpcdaa", sum := "51ced3cf748b4b3b8ab97a0f3dd3b0c422b1172b34745ed0d8bcee68ec8f05cc", func := "loop.example/g01104/laws.FnExactRunSwapper", spec := "fnExactRunSwapper", apart := false }
def FnExactRunSwapperSaid : Prop := fnExactRunSwapperRow.holds Try.pinned (OpenSpec.ofChange fnExactRunSwapperSpec)

/-- ITS FALSE NEIGHBOUR: 'it returns false'. Refute it at one input. -/
def fnExactRunSwapperWrong : ChangeSpec := { name := "fnExactRunSwapper", fn := fun _ => fun
  | [d1, d2] => { results := [.lit (.bool false)], args := [d1, d2] }
  | _ => none }
def FnExactRunSwapperWrongFalsely : Prop := fnExactRunSwapperRow.holds Try.pinned (OpenSpec.ofChange fnExactRunSwapperWrong)

/-- 'laws.FnExactSwapperAt': WHATEVER THE INPUT: true; the input reads as it did. -/
def fnExactSwapperAtSpec : ChangeSpec := { name := "fnExactSwapperAt", fn := fun _ => fun
  | [d1, d2] => { results := [.lit (.bool true)], args := [d1, d2] }
  | _ => none }
def fnExactSwapperAtRow : OpenClaim := { program := "ytedijkelbdpcdaa", sum := "51ced3cf748b4b3b8ab97a0f3dd3b0c422b1172b34745ed0d8bcee68ec8f05cc", func := "loop.example/g01104/laws.FnExactSwapperAt", spec := "fnExactSwapperAt", recurses := true, apart := false }
def FnExactSwapperAtSaid : Prop := fnExactSwapperAtRow.holds Try.pinned (OpenSpec.ofChange fnExactSwapperAtSpec)

/-- ITS FALSE NEIGHBOUR: 'it returns false'. Refute it at one input. -/
def fnExactSwapperAtWrong : ChangeSpec := { name := "fnExactSwapperAt", fn := fun _ => fun
  | [d1, d2] => { results := [.lit (.bool false)], args := [d1, d2] }
  | _ => none }
def FnExactSwapperAtWrongFalsely : Prop := fnExactSwapperAtRow.holds Try.pinned (OpenSpec.ofChange fnExactSwapperAtWrong)

/-- 'laws.FnExactIsSwapper': WHATEVER THE INPUT: true; the input reads as it did. -/
def fnExactIsSwapperSpec : ChangeSpec := { name := "fnExactIsSwapper", fn := fun _ => fun
  | [d] => { results := [.lit (.bool true)], args := [d] }
  | _ => none }
def fnExactIsSwapperRow : OpenClaim := { program := "ytedijkelbdpcdaa", sum := "51ced3cf748b4b3b8ab97a0f3dd3b0c422b1172b34745ed0d8bcee68ec8f05cc", func := "loop.example/g01104/laws.FnExactIsSwapper", spec := "fnExactIsSwapper", recurses := true, apart := false }
def FnExactIsSwapperSaid : Prop := fnExactIsSwapperRow.holds Try.pinned (OpenSpec.ofChange fnExactIsSwapperSpec)

/-- ITS FALSE NEIGHBOUR: 'it returns false'. Refute it at one input. -/
def fnExactIsSwapperWrong : ChangeSpec := { name := "fnExactIsSwapper", fn := fun _ => fun
  | [d] => { results := [.lit (.bool false)], args := [d] }
  | _ => none }
def FnExactIsSwapperWrongFalsely : Prop := fnExactIsSwapperRow.holds Try.pinned (OpenSpec.ofChange fnExactIsSwapperWrong)

/-- 'laws.FnExactSwapperRank': WHATEVER THE INPUT: true; the input reads as it did. -/
def fnExactSwapperRankSpec : ChangeSpec := { name := "fnExactSwapperRank", fn := fun _ => fun
  | [d] => { results := [.lit (.bool true)], args := [d] }
  | _ => none }
def fnExactSwapperRankRow : OpenClaim := { program := "ytedijkelbdpcdaa", sum := "51ced3cf748b4b3b8ab97a0f3dd3b0c422b1172b34745ed0d8bcee68ec8f05cc", func := "loop.example/g01104/laws.FnExactSwapperRank", spec := "fnExactSwapperRank", recurses := true, apart := false }
def FnExactSwapperRankSaid : Prop := fnExactSwapperRankRow.holds Try.pinned (OpenSpec.ofChange fnExactSwapperRankSpec)

/-- ITS FALSE NEIGHBOUR: 'it returns false'. Refute it at one input. -/
def fnExactSwapperRankWrong : ChangeSpec := { name := "fnExactSwapperRank", fn := fun _ => fun
  | [d] => { results := [.lit (.bool false)], args := [d] }
  | _ => none }
def FnExactSwapperRankWrongFalsely : Prop := fnExactSwapperRankRow.holds Try.pinned (OpenSpec.ofChange fnExactSwapperRankWrong)

/-- 'laws.FnExactStepSwapper': WHATEVER THE INPUT: true; the input reads as it did. -/
def fnExactStepSwapperSpec : ChangeSpec := { name := "fnExactStepSwapper", fn := fun _ => fun
  | [d] => { results := [.lit (.bool true)], args := [d] }
  | _ => none }
def fnExactStepSwapperRow : OpenClaim := { program := "ytedijkelbdpcdaa", sum := "51ced3cf748b4b3b8ab97a0f3dd3b0c422b1172b34745ed0d8bcee68ec8f05cc", func := "loop.example/g01104/laws.FnExactStepSwapper", spec := "fnExactStepSwapper", recurses := true, apart := false }
def FnExactStepSwapperSaid : Prop := fnExactStepSwapperRow.holds Try.pinned (OpenSpec.ofChange fnExactStepSwapperSpec)

/-- ITS FALSE NEIGHBOUR: 'it returns false'. Refute it at one input. -/
def fnExactStepSwapperWrong : ChangeSpec := { name := "fnExactStepSwapper", fn := fun _ => fun
  | [d] => { results := [.lit (.bool false)], args := [d] }
  | _ => none }
def FnExactStepSwapperWrongFalsely : Prop := fnExactStepSwapperRow.holds Try.pinned (OpenSpec.ofChange fnExactStepSwapperWrong)

/- THE SECOND FORM. 'bulk': how many values and letters a reading holds, each counted each time it is reached (what is shared counts as often as it is met; a slice's spare places count too). A statement '..UptoSaid' is the law's where the arguments, and the package variables that the reading takes, are together of bulk at most 1048576: NARROWER than '..Said'. Prove '..Said' where nothing that the law and all that it calls make is longer than what came in: it says more and counts as full. Else prove '..UptoSaid'. A law counts once. -/
mutual
def uptoBulk {H : Type} : DataW H → Nat
  | .lit (.string bytes) => bytes.length + 1
  | .lit _ => 1
  | .nil => 1
  | .ptr d => uptoBulk d + 1
  | .slice elems spare => uptoBulkAll elems + uptoBulkAll spare + 1
  | .agg parts => uptoBulkAll parts + 1
  | .iface _ d => uptoBulk d + 1
  | .map entries => uptoBulkEntries entries + 1
  | .held _ => 1
def uptoBulkAll {H : Type} : List (DataW H) → Nat
  | [] => 0
  | d :: r => uptoBulk d + uptoBulkAll r
def uptoBulkEntries {H : Type} : List (Lit × DataW H) → Nat
  | [] => 0
  | x :: r => uptoBulkEntry x + uptoBulkEntries r
def uptoBulkEntry {H : Type} : Lit × DataW H → Nat
  | (.string bytes, d) => bytes.length + uptoBulk d + 1
  | (_, d) => uptoBulk d + 1
 end
def uptoSmall : (H : Type) → List (DataW H) → Bool := fun _ ds => decide (uptoBulkAll ds ≤ 1048576)
def OpenSpec.upto (s : _root_.Go.ChangeSpec) : _root_.Go.OpenSpec := { _root_.Go.OpenSpec.ofChange s with cond := some uptoSmall }

/-- 'laws.FnExactFocusRank', WHERE WHAT IT READS IS OF BULK AT MOST 1048576: true; the input reads as it did. -/
def fnExactFocusRankUptoRow : OpenClaim := { program := "ytedijkelbdpcdaa", sum := "51ced3cf748b4b3b8ab97a0f3dd3b0c422b1172b34745ed0d8bcee68ec8f05cc", func := "loop.example/g01104/laws.FnExactFocusRank", spec := "fnExactFocusRank", recurses := true, apart := false, narrowed := true }
def FnExactFocusRankUptoSaid : Prop := fnExactFocusRankUptoRow.holds Try.pinned (OpenSpec.upto fnExactFocusRankSpec)

/-- 'laws.FnExactIsLastFocus', WHERE WHAT IT READS IS OF BULK AT MOST 1048576: true; the input reads as it did. -/
def fnExactIsLastFocusUptoRow : OpenClaim := { program := "ytedijkelbdpcdaa", sum := "51ced3cf748b4b3b8ab97a0f3dd3b0c422b1172b34745ed0d8bcee68ec8f05cc", func := "loop.example/g01104/laws.FnExactIsLastFocus", spec := "fnExactIsLastFocus", recurses := true, apart := false, narrowed := true }
def FnExactIsLastFocusUptoSaid : Prop := fnExactIsLastFocusUptoRow.holds Try.pinned (OpenSpec.upto fnExactIsLastFocusSpec)

/-- 'laws.FnExactStepFocus', WHERE WHAT IT READS IS OF BULK AT MOST 1048576: true; the input reads as it did. -/
def fnExactStepFocusUptoRow : OpenClaim := { program := "ytedijkelbdpcdaa", sum := "51ced3cf748b4b3b8ab97a0f3dd3b0c422b1172b34745ed0d8bcee68ec8f05cc", func := "loop.example/g01104/laws.FnExactStepFocus", spec := "fnExactStepFocus", recurses := true, apart := false, narrowed := true }
def FnExactStepFocusUptoSaid : Prop := fnExactStepFocusUptoRow.holds Try.pinned (OpenSpec.upto fnExactStepFocusSpec)

/-- 'laws.FnExactStartSwapper', WHERE WHAT IT READS IS OF BULK AT MOST 1048576: true; the input reads as it did. -/
def fnExactStartSwapperUptoRow : OpenClaim := { program := "ytedijkelbdpcdaa", sum := "51ced3cf748b4b3b8ab97a0f3dd3b0c422b1172b34745ed0d8bcee68ec8f05cc", func := "loop.example/g01104/laws.FnExactStartSwapper", spec := "fnExactStartSwapper", apart := false, narrowed := true }
def FnExactStartSwapperUptoSaid : Prop := fnExactStartSwapperUptoRow.holds Try.pinned (OpenSpec.upto fnExactStartSwapperSpec)

/-- 'laws.FnExactRunSwapper', WHERE WHAT IT READS IS OF BULK AT MOST 1048576: true; the input reads as it did. -/
def fnExactRunSwapperUptoRow : OpenClaim := { program := "ytedijkelbdpcdaa", sum := "51ced3cf748b4b3b8ab97a0f3dd3b0c422b1172b34745ed0d8bcee68ec8f05cc", func := "loop.example/g01104/laws.FnExactRunSwapper", spec := "fnExactRunSwapper", apart := false, narrowed := true }
def FnExactRunSwapperUptoSaid : Prop := fnExactRunSwapperUptoRow.holds Try.pinned (OpenSpec.upto fnExactRunSwapperSpec)

/-- 'laws.FnExactSwapperAt', WHERE WHAT IT READS IS OF BULK AT MOST 1048576: true; the input reads as it did. -/
def fnExactSwapperAtUptoRow : OpenClaim := { program := "ytedijkelbdpcdaa", sum := "51ced3cf748b4b3b8ab97a0f3dd3b0c422b1172b34745ed0d8bcee68ec8f05cc", func := "loop.example/g01104/laws.FnExactSwapperAt", spec := "fnExactSwapperAt", recurses := true, apart := false, narrowed := true }
def FnExactSwapperAtUptoSaid : Prop := fnExactSwapperAtUptoRow.holds Try.pinned (OpenSpec.upto fnExactSwapperAtSpec)

/-- 'laws.FnExactIsSwapper', WHERE WHAT IT READS IS OF BULK AT MOST 1048576: true; the input reads as it did. -/
def fnExactIsSwapperUptoRow : OpenClaim := { program := "ytedijkelbdpcdaa", sum := "51ced3cf748b4b3b8ab97a0f3dd3b0c422b1172b34745ed0d8bcee68ec8f05cc", func := "loop.example/g01104/laws.FnExactIsSwapper", spec := "fnExactIsSwapper", recurses := true, apart := false, narrowed := true }
def FnExactIsSwapperUptoSaid : Prop := fnExactIsSwapperUptoRow.holds Try.pinned (OpenSpec.upto fnExactIsSwapperSpec)

/-- 'laws.FnExactSwapperRank', WHERE WHAT IT READS IS OF BULK AT MOST 1048576: true; the input reads as it did. -/
def fnExactSwapperRankUptoRow : OpenClaim := { program := "ytedijkelbdpcdaa", sum := "51ced3cf748b4b3b8ab97a0f3dd3b0c422b1172b34745ed0d8bcee68ec8f05cc", func := "loop.example/g01104/laws.FnExactSwapperRank", spec := "fnExactSwapperRank", recurses := true, apart := false, narrowed := true }
def FnExactSwapperRankUptoSaid : Prop := fnExactSwapperRankUptoRow.holds Try.pinned (OpenSpec.upto fnExactSwapperRankSpec)

/-- 'laws.FnExactStepSwapper', WHERE WHAT IT READS IS OF BULK AT MOST 1048576: true; the input reads as it did. -/
def fnExactStepSwapperUptoRow : OpenClaim := { program := "ytedijkelbdpcdaa", sum := "51ced3cf748b4b3b8ab97a0f3dd3b0c422b1172b34745ed0d8bcee68ec8f05cc", func := "loop.example/g01104/laws.FnExactStepSwapper", spec := "fnExactStepSwapper", recurses := true, apart := false, narrowed := true }
def FnExactStepSwapperUptoSaid : Prop := fnExactStepSwapperUptoRow.holds Try.pinned (OpenSpec.upto fnExactStepSwapperSpec)

end Rows
end Go.Proofs.Ytedijkelbdpcdaa
