/-
  No cell of these rows narrows 'for every input' (looked for: loops, veiled, ifaces, maps, wideKeys, modest, calm, conditions, laid).
  DERIVED. THE GIVEN ROWS OF THIS SEAT. 3 by the template 'for every input the law returns true; each argument reads behind the call as it read before'; 0 by the template 'total and deterministic' (their statements: YtllhnnjkonghlaaTotals.lean).
  GIVEN WITH THE SEED: the statements are not yours to turn. If you find one false, say at which input.
  Laid BY PROGRAM, IN A SANDBOX (cutbox-rows.mjs): the forced cells as the released guide's own fill.sh prints them over the translation 16e2494f8f0613c2… (all of the seat's roots in one cut). By AI agents, Wed Nov 11 2026. No macro, syntax, notation, axiom, sorry.
-/
import Derived.Test.YtllhnnjkonghlaaChecked
import GoSem.Claim
import GoSem.ClaimJoined
import GoSem.ClaimMapViews
import Derived.JoinedTies
import Derived.KernelRfl
namespace Go.Proofs.Ytllhnnjkonghlaa
/- THE CELL 'sum', in the pinned program and in every row, IS THE sha256 OF THE DUMP (.gsa) THAT YtllhnnjkonghlaaProg.lean LOADS. Nothing in Lean hashes anything: it is a label: what it is worth is what the hold of that sum in a sandbox is worth. -/
noncomputable def Try.pinned : Pinned := { name := "ytllhnnjkonghlaa", sum := "16e2494f8f0613c2a9a0c7fbe60fee56a10f13fa4307280a59611bdcbb574b64", checked := Try.checked }
namespace Rows
def none {H : Type} : Left H := { results := [], args := [] }

/-- 'laws.FnExactFirstPath': WHATEVER THE INPUT: true; the input reads as it did. -/
def fnExactFirstPathSpec : ChangeSpec := { name := "fnExactFirstPath", fn := fun _ => fun
  | [d1, d2, d3] => { results := [.lit (.bool true)], args := [d1, d2, d3] }
  | _ => none }
def fnExactFirstPathRow : OpenClaim := { program := "ytllhnnjkonghlaa", sum := "16e2494f8f0613c2a9a0c7fbe60fee56a10f13fa4307280a59611bdcbb574b64", func := "loop.example/g01104/laws.FnExactFirstPath", spec := "fnExactFirstPath", unfollowed := true, recurses := true, apart := false }
def FnExactFirstPathSaid : Prop := fnExactFirstPathRow.holds Try.pinned (OpenSpec.ofChange fnExactFirstPathSpec)

/-- ITS FALSE NEIGHBOUR: 'it returns false'. Refute it at one input. -/
def fnExactFirstPathWrong : ChangeSpec := { name := "fnExactFirstPath", fn := fun _ => fun
  | [d1, d2, d3] => { results := [.lit (.bool false)], args := [d1, d2, d3] }
  | _ => none }
def FnExactFirstPathWrongFalsely : Prop := fnExactFirstPathRow.holds Try.pinned (OpenSpec.ofChange fnExactFirstPathWrong)

/-- 'laws.FnReached': WHATEVER THE INPUT: true; the input reads as it did. -/
def fnReachedSpec : ChangeSpec := { name := "fnReached", fn := fun _ => fun
  | [d1, d2] => { results := [.lit (.bool true)], args := [d1, d2] }
  | _ => none }
def fnReachedRow : OpenClaim := { program := "ytllhnnjkonghlaa", sum := "16e2494f8f0613c2a9a0c7fbe60fee56a10f13fa4307280a59611bdcbb574b64", func := "loop.example/g01104/laws.FnReached", spec := "fnReached", unfollowed := true, recurses := true, apart := false }
def FnReachedSaid : Prop := fnReachedRow.holds Try.pinned (OpenSpec.ofChange fnReachedSpec)

/-- ITS FALSE NEIGHBOUR: 'it returns false'. Refute it at one input. -/
def fnReachedWrong : ChangeSpec := { name := "fnReached", fn := fun _ => fun
  | [d1, d2] => { results := [.lit (.bool false)], args := [d1, d2] }
  | _ => none }
def FnReachedWrongFalsely : Prop := fnReachedRow.holds Try.pinned (OpenSpec.ofChange fnReachedWrong)

/-- 'laws.FnGreedyLists': WHATEVER THE INPUT: true; the input reads as it did. -/
def fnGreedyListsSpec : ChangeSpec := { name := "fnGreedyLists", fn := fun _ => fun
  | [d1, d2] => { results := [.lit (.bool true)], args := [d1, d2] }
  | _ => none }
def fnGreedyListsRow : OpenClaim := { program := "ytllhnnjkonghlaa", sum := "16e2494f8f0613c2a9a0c7fbe60fee56a10f13fa4307280a59611bdcbb574b64", func := "loop.example/g01104/laws.FnGreedyLists", spec := "fnGreedyLists", unfollowed := true, recurses := true, apart := false }
def FnGreedyListsSaid : Prop := fnGreedyListsRow.holds Try.pinned (OpenSpec.ofChange fnGreedyListsSpec)

/-- ITS FALSE NEIGHBOUR: 'it returns false'. Refute it at one input. -/
def fnGreedyListsWrong : ChangeSpec := { name := "fnGreedyLists", fn := fun _ => fun
  | [d1, d2] => { results := [.lit (.bool false)], args := [d1, d2] }
  | _ => none }
def FnGreedyListsWrongFalsely : Prop := fnGreedyListsRow.holds Try.pinned (OpenSpec.ofChange fnGreedyListsWrong)

/- THE SECOND FORM. 'bulk': how many values and letters a reading holds, each counted each time it is reached (what is shared counts as often as it is met; a slice's spare places count too). A statement '..UptoSaid' is the law's where the arguments, and the package variables that the reading takes, are together of bulk at most 1048576: NARROWER than '..Said'. Prove '..Said' where nothing that the law and all that it calls make is longer than what came in: it says more and counts as full. Else prove '..UptoSaid'. A law counts once. -/
mutual
def uptoBulk {H : Type} : DataW H → Nat
  | .lit (.string bytes) => bytes.length + 1
  | .lit _ => 1
  | .nil => 1
  | .ptr d => uptoBulk d + 1
  | .slice elems spare => uptoBulkAll elems + uptoBulkAll spare + 1
  | .agg parts => uptoBulkAll parts + 1
  | .iface _ d => uptoBulk d + 1
  | .map entries => uptoBulkEntries entries + 1
  | .held _ => 1
def uptoBulkAll {H : Type} : List (DataW H) → Nat
  | [] => 0
  | d :: r => uptoBulk d + uptoBulkAll r
def uptoBulkEntries {H : Type} : List (Lit × DataW H) → Nat
  | [] => 0
  | x :: r => uptoBulkEntry x + uptoBulkEntries r
def uptoBulkEntry {H : Type} : Lit × DataW H → Nat
  | (.string bytes, d) => bytes.length + uptoBulk d + 1
  | (_, d) => uptoBulk d + 1
 end
def uptoSmall : (H : Type) → List (DataW H) → Bool := fun _ ds => decide (uptoBulkAll ds ≤ 1048576)
def OpenSpec.upto (s : _root_.Go.ChangeSpec) : _root_.Go.OpenSpec := { _root_.Go.OpenSpec.ofChange s with cond := some uptoSmall }

/-- 'laws.FnExactFirstPath', WHERE WHAT IT READS IS OF BULK AT MOST 1048576: true; the input reads as it did. -/
def fnExactFirstPathUptoRow : OpenClaim := { program := "ytllhnnjkonghlaa", sum := "16e2494f8f0613c2a9a0c7fbe60fee56a10f13fa4307280a59611bdcbb574b64", func := "loop.example/g01104/laws.FnExactFirstPath", spec := "fnExactFirstPath", unfollowed := true, recurses := true, apart := false, narrowed := true }
def FnExactFirstPathUptoSaid : Prop := fnExactFirstPathUptoRow.holds Try.pinned (OpenSpec.upto fnExactFirstPathSpec)

/-- 'laws.FnReached', WHERE WHAT IT READS IS OF BULK AT MOST 1048576: true; the input reads as it did. -/
def fnReachedUptoRow : OpenClaim := { program := "ytllhnnjkonghlaa", sum := "16e2494f8f0613c2a9a0c7fbe60fee56a10f13fa4307280a59611bdcbb574b64", func := "loop.example/g01104/laws.FnReached", spec := "fnReached", unfollowed := true, recurses := true, apart := false, narrowed := true }
def FnReachedUptoSaid : Prop := fnReachedUptoRow.holds Try.pinned (OpenSpec.upto fnReachedSpec)

/-- 'laws.FnGreedyLists', WHERE WHAT IT READS IS OF BULK AT MOST 1048576: true; the input reads as it did. -/
def fnGreedyListsUptoRow : OpenClaim := { program := "ytllhnnjkonghlaa", sum := "16e2494f8f0613c2a9a0c7fbe60fee56a10f13fa4307280a59611bdcbb574b64", func := "loop.example/g01104/laws.FnGreedyLists", spec := "fnGreedyLists", unfollowed := true, recurses := true, apart := false, narrowed := true }
def FnGreedyListsUptoSaid : Prop := fnGreedyListsUptoRow.holds Try.pinned (OpenSpec.upto fnGreedyListsSpec)

end Rows
end Go.Proofs.Ytllhnnjkonghlaa
