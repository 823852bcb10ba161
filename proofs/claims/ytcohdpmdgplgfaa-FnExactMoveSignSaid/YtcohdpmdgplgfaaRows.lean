/-
  No cell of these rows narrows 'for every input' (looked for: loops, veiled, ifaces, maps, wideKeys, modest, calm, conditions, laid).
  DERIVED. THE GIVEN ROWS OF THIS SEAT. 12 by the template 'for every input the law returns true; each argument reads behind the call as it read before'; 0 by the template 'total and deterministic' (their statements: YtcohdpmdgplgfaaTotals.lean).
  GIVEN WITH THE SEED: the statements are not yours to turn. If you find one false, say at which input.
  Laid BY PROGRAM, IN A SANDBOX (cutbox-rows.mjs): the forced cells as the released guide's own fill.sh prints them over the translation 1bae1dc8c17d0377… (all of the seat's roots in one cut). By AI agents, Wed Nov 11 2026. No macro, syntax, notation, axiom, sorry.
-/
import Derived.Test.YtcohdpmdgplgfaaChecked
import GoSem.Claim
import GoSem.ClaimJoined
import GoSem.ClaimMapViews
import Derived.JoinedTies
import Derived.KernelRfl
namespace Go.Proofs.Ytcohdpmdgplgfaa
/- THE CELL 'sum', in the pinned program and in every row, IS THE sha256 OF THE DUMP (.gsa) THAT YtcohdpmdgplgfaaProg.lean LOADS. Nothing in Lean hashes anything: it is a label: what it is worth is what the hold of that sum in a sandbox is worth. -/
noncomputable def Try.pinned : Pinned := { name := "ytcohdpmdgplgfaa", sum := "1bae1dc8c17d0377837ab443c940e92d369d61d0ef8e2acf62ebade99ed66e2b", checked := Try.checked }
namespace Rows
def none {H : Type} : Left H := { results := [], args := [] }

/-- 'laws.FnExactIsMove': WHATEVER THE INPUT: true; the input reads as it did. -/
def fnExactIsMoveSpec : ChangeSpec := { name := "fnExactIsMove", fn := fun _ => fun
  | [d1, d2] => { results := [.lit (.bool true)], args := [d1, d2] }
  | _ => none }
def fnExactIsMoveRow : OpenClaim := { program := "ytcohdpmdgplgfaa", sum := "1bae1dc8c17d0377837ab443c940e92d369d61d0ef8e2acf62ebade99ed66e2b", func := "loop.example/g01104/laws.FnExactIsMove", spec := "fnExactIsMove", apart := false }
def FnExactIsMoveSaid : Prop := fnExactIsMoveRow.holds Try.pinned (OpenSpec.ofChange fnExactIsMoveSpec)

/-- ITS FALSE NEIGHBOUR: 'it returns false'. Refute it at one input. -/
def fnExactIsMoveWrong : ChangeSpec := { name := "fnExactIsMove", fn := fun _ => fun
  | [d1, d2] => { results := [.lit (.bool false)], args := [d1, d2] }
  | _ => none }
def FnExactIsMoveWrongFalsely : Prop := fnExactIsMoveRow.holds Try.pinned (OpenSpec.ofChange fnExactIsMoveWrong)

/-- 'laws.FnExactMoveOrder': WHATEVER THE INPUT: true; the input reads as it did. -/
def fnExactMoveOrderSpec : ChangeSpec := { name := "fnExactMoveOrder", fn := fun _ => fun
  | [d] => { results := [.lit (.bool true)], args := [d] }
  | _ => none }
def fnExactMoveOrderRow : OpenClaim := { program := "ytcohdpmdgplgfaa", sum := "1bae1dc8c17d0377837ab443c940e92d369d61d0ef8e2acf62ebade99ed66e2b", func := "loop.example/g01104/laws.FnExactMoveOrder", spec := "fnExactMoveOrder", apart := false }
def FnExactMoveOrderSaid : Prop := fnExactMoveOrderRow.holds Try.pinned (OpenSpec.ofChange fnExactMoveOrderSpec)

/-- ITS FALSE NEIGHBOUR: 'it returns false'. Refute it at one input. -/
def fnExactMoveOrderWrong : ChangeSpec := { name := "fnExactMoveOrder", fn := fun _ => fun
  | [d] => { results := [.lit (.bool false)], args := [d] }
  | _ => none }
def FnExactMoveOrderWrongFalsely : Prop := fnExactMoveOrderRow.holds Try.pinned (OpenSpec.ofChange fnExactMoveOrderWrong)

/-- 'laws.FnExactAdjacentHalves': WHATEVER THE INPUT: true; the input reads as it did. -/
def fnExactAdjacentHalvesSpec : ChangeSpec := { name := "fnExactAdjacentHalves", fn := fun _ => fun
  | [d1, d2] => { results := [.lit (.bool true)], args := [d1, d2] }
  | _ => none }
def fnExactAdjacentHalvesRow : OpenClaim := { program := "ytcohdpmdgplgfaa", sum := "1bae1dc8c17d0377837ab443c940e92d369d61d0ef8e2acf62ebade99ed66e2b", func := "loop.example/g01104/laws.FnExactAdjacentHalves", spec := "fnExactAdjacentHalves", recurses := true, apart := false }
def FnExactAdjacentHalvesSaid : Prop := fnExactAdjacentHalvesRow.holds Try.pinned (OpenSpec.ofChange fnExactAdjacentHalvesSpec)

/-- ITS FALSE NEIGHBOUR: 'it returns false'. Refute it at one input. -/
def fnExactAdjacentHalvesWrong : ChangeSpec := { name := "fnExactAdjacentHalves", fn := fun _ => fun
  | [d1, d2] => { results := [.lit (.bool false)], args := [d1, d2] }
  | _ => none }
def FnExactAdjacentHalvesWrongFalsely : Prop := fnExactAdjacentHalvesRow.holds Try.pinned (OpenSpec.ofChange fnExactAdjacentHalvesWrong)

/-- 'laws.FnExactBitsOf': WHATEVER THE INPUT: true; the input reads as it did. -/
def fnExactBitsOfSpec : ChangeSpec := { name := "fnExactBitsOf", fn := fun _ => fun
  | [d1, d2] => { results := [.lit (.bool true)], args := [d1, d2] }
  | _ => none }
def fnExactBitsOfRow : OpenClaim := { program := "ytcohdpmdgplgfaa", sum := "1bae1dc8c17d0377837ab443c940e92d369d61d0ef8e2acf62ebade99ed66e2b", func := "loop.example/g01104/laws.FnExactBitsOf", spec := "fnExactBitsOf", apart := false }
def FnExactBitsOfSaid : Prop := fnExactBitsOfRow.holds Try.pinned (OpenSpec.ofChange fnExactBitsOfSpec)

/-- ITS FALSE NEIGHBOUR: 'it returns false'. Refute it at one input. -/
def fnExactBitsOfWrong : ChangeSpec := { name := "fnExactBitsOf", fn := fun _ => fun
  | [d1, d2] => { results := [.lit (.bool false)], args := [d1, d2] }
  | _ => none }
def FnExactBitsOfWrongFalsely : Prop := fnExactBitsOfRow.holds Try.pinned (OpenSpec.ofChange fnExactBitsOfWrong)

/-- 'laws.FnExactNextCool': WHATEVER THE INPUT: true; the input reads as it did. -/
def fnExactNextCoolSpec : ChangeSpec := { name := "fnExactNextCool", fn := fun _ => fun
  | [d] => { results := [.lit (.bool true)], args := [d] }
  | _ => none }
def fnExactNextCoolRow : OpenClaim := { program := "ytcohdpmdgplgfaa", sum := "1bae1dc8c17d0377837ab443c940e92d369d61d0ef8e2acf62ebade99ed66e2b", func := "loop.example/g01104/laws.FnExactNextCool", spec := "fnExactNextCool", apart := false }
def FnExactNextCoolSaid : Prop := fnExactNextCoolRow.holds Try.pinned (OpenSpec.ofChange fnExactNextCoolSpec)

/-- ITS FALSE NEIGHBOUR: 'it returns false'. Refute it at one input. -/
def fnExactNextCoolWrong : ChangeSpec := { name := "fnExactNextCool", fn := fun _ => fun
  | [d] => { results := [.lit (.bool false)], args := [d] }
  | _ => none }
def FnExactNextCoolWrongFalsely : Prop := fnExactNextCoolRow.holds Try.pinned (OpenSpec.ofChange fnExactNextCoolWrong)

/-- 'laws.FnExactRevolvingAt': WHATEVER THE INPUT: true; the input reads as it did. -/
def fnExactRevolvingAtSpec : ChangeSpec := { name := "fnExactRevolvingAt", fn := fun _ => fun
  | [d1, d2, d3] => { results := [.lit (.bool true)], args := [d1, d2, d3] }
  | _ => none }
def fnExactRevolvingAtRow : OpenClaim := { program := "ytcohdpmdgplgfaa", sum := "1bae1dc8c17d0377837ab443c940e92d369d61d0ef8e2acf62ebade99ed66e2b", func := "loop.example/g01104/laws.FnExactRevolvingAt", spec := "fnExactRevolvingAt", recurses := true, apart := false }
def FnExactRevolvingAtSaid : Prop := fnExactRevolvingAtRow.holds Try.pinned (OpenSpec.ofChange fnExactRevolvingAtSpec)

/-- ITS FALSE NEIGHBOUR: 'it returns false'. Refute it at one input. -/
def fnExactRevolvingAtWrong : ChangeSpec := { name := "fnExactRevolvingAt", fn := fun _ => fun
  | [d1, d2, d3] => { results := [.lit (.bool false)], args := [d1, d2, d3] }
  | _ => none }
def FnExactRevolvingAtWrongFalsely : Prop := fnExactRevolvingAtRow.holds Try.pinned (OpenSpec.ofChange fnExactRevolvingAtWrong)

/-- 'laws.FnExactExchangeOf': WHATEVER THE INPUT: true; the input reads as it did. -/
def fnExactExchangeOfSpec : ChangeSpec := { name := "fnExactExchangeOf", fn := fun _ => fun
  | [d1, d2, d3] => { results := [.lit (.bool true)], args := [d1, d2, d3] }
  | _ => none }
def fnExactExchangeOfRow : OpenClaim := { program := "ytcohdpmdgplgfaa", sum := "1bae1dc8c17d0377837ab443c940e92d369d61d0ef8e2acf62ebade99ed66e2b", func := "loop.example/g01104/laws.FnExactExchangeOf", spec := "fnExactExchangeOf", apart := false }
def FnExactExchangeOfSaid : Prop := fnExactExchangeOfRow.holds Try.pinned (OpenSpec.ofChange fnExactExchangeOfSpec)

/-- ITS FALSE NEIGHBOUR: 'it returns false'. Refute it at one input. -/
def fnExactExchangeOfWrong : ChangeSpec := { name := "fnExactExchangeOf", fn := fun _ => fun
  | [d1, d2, d3] => { results := [.lit (.bool false)], args := [d1, d2, d3] }
  | _ => none }
def FnExactExchangeOfWrongFalsely : Prop := fnExactExchangeOfRow.holds Try.pinned (OpenSpec.ofChange fnExactExchangeOfWrong)

/-- 'laws.FnExactRevolvingRank': WHATEVER THE INPUT: true; the input reads as it did. -/
def fnExactRevolvingRankSpec : ChangeSpec := { name := "fnExactRevolvingRank", fn := fun _ => fun
  | [d1, d2] => { results := [.lit (.bool true)], args := [d1, d2] }
  | _ => none }
def fnExactRevolvingRankRow : OpenClaim := { program := "ytcohdpmdgplgfaa", sum := "1bae1dc8c17d0377837ab443c940e92d369d61d0ef8e2acf62ebade99ed66e2b", func := "loop.example/g01104/laws.FnExactRevolvingRank", spec := "fnExactRevolvingRank", recurses := true, apart := false }
def FnExactRevolvingRankSaid : Prop := fnExactRevolvingRankRow.holds Try.pinned (OpenSpec.ofChange fnExactRevolvingRankSpec)

/-- ITS FALSE NEIGHBOUR: 'it returns false'. Refute it at one input. -/
def fnExactRevolvingRankWrong : ChangeSpec := { name := "fnExactRevolvingRank", fn := fun _ => fun
  | [d1, d2] => { results := [.lit (.bool false)], args := [d1, d2] }
  | _ => none }
def FnExactRevolvingRankWrongFalsely : Prop := fnExactRevolvingRankRow.holds Try.pinned (OpenSpec.ofChange fnExactRevolvingRankWrong)

/-- 'laws.FnExactRevolvingList': WHATEVER THE INPUT: true; the input reads as it did. -/
def fnExactRevolvingListSpec : ChangeSpec := { name := "fnExactRevolvingList", fn := fun _ => fun
  | [d1, d2] => { results := [.lit (.bool true)], args := [d1, d2] }
  | _ => none }
def fnExactRevolvingListRow : OpenClaim := { program := "ytcohdpmdgplgfaa", sum := "1bae1dc8c17d0377837ab443c940e92d369d61d0ef8e2acf62ebade99ed66e2b", func := "loop.example/g01104/laws.FnExactRevolvingList", spec := "fnExactRevolvingList", recurses := true, apart := false }
def FnExactRevolvingListSaid : Prop := fnExactRevolvingListRow.holds Try.pinned (OpenSpec.ofChange fnExactRevolvingListSpec)

/-- ITS FALSE NEIGHBOUR: 'it returns false'. Refute it at one input. -/
def fnExactRevolvingListWrong : ChangeSpec := { name := "fnExactRevolvingList", fn := fun _ => fun
  | [d1, d2] => { results := [.lit (.bool false)], args := [d1, d2] }
  | _ => none }
def FnExactRevolvingListWrongFalsely : Prop := fnExactRevolvingListRow.holds Try.pinned (OpenSpec.ofChange fnExactRevolvingListWrong)

/-- 'laws.FnExactMoveSign': WHATEVER THE INPUT: true; the input reads as it did. -/
def fnExactMoveSignSpec : ChangeSpec := { name := "fnExactMoveSign", fn := fun _ => fun
  | [d] => { results := [.lit (.bool true)], args := [d] }
  | _ => none }
def fnExactMoveSignRow : OpenClaim := { program := "ytcohdpmdgplgfaa", sum := "1bae1dc8c17d0377837ab443c940e92d369d61d0ef8e2acf62ebade99ed66e2b", func := "loop.example/g01104/laws.FnExactMoveSign", spec := "fnExactMoveSign", apart := false }
def FnExactMoveSignSaid : Prop := fnExactMoveSignRow.holds Try.pinned (OpenSpec.ofChange fnExactMoveSignSpec)

/-- ITS FALSE NEIGHBOUR: 'it returns false'. Refute it at one input. -/
def fnExactMoveSignWrong : ChangeSpec := { name := "fnExactMoveSign", fn := fun _ => fun
  | [d] => { results := [.lit (.bool false)], args := [d] }
  | _ => none }
def FnExactMoveSignWrongFalsely : Prop := fnExactMoveSignRow.holds Try.pinned (OpenSpec.ofChange fnExactMoveSignWrong)

/-- 'laws.FnExactCoolList': WHATEVER THE INPUT: true; the input reads as it did. -/
def fnExactCoolListSpec : ChangeSpec := { name := "fnExactCoolList", fn := fun _ => fun
  | [d1, d2] => { results := [.lit (.bool true)], args := [d1, d2] }
  | _ => none }
def fnExactCoolListRow : OpenClaim := { program := "ytcohdpmdgplgfaa", sum := "1bae1dc8c17d0377837ab443c940e92d369d61d0ef8e2acf62ebade99ed66e2b", func := "loop.example/g01104/laws.FnExactCoolList", spec := "fnExactCoolList", apart := false }
def FnExactCoolListSaid : Prop := fnExactCoolListRow.holds Try.pinned (OpenSpec.ofChange fnExactCoolListSpec)

/-- ITS FALSE NEIGHBOUR: 'it returns false'. Refute it at one input. -/
def fnExactCoolListWrong : ChangeSpec := { name := "fnExactCoolList", fn := fun _ => fun
  | [d1, d2] => { results := [.lit (.bool false)], args := [d1, d2] }
  | _ => none }
def FnExactCoolListWrongFalsely : Prop := fnExactCoolListRow.holds Try.pinned (OpenSpec.ofChange fnExactCoolListWrong)

/-- 'laws.FnExactNextRevolving': WHATEVER THE INPUT: true; the input reads as it did. -/
def fnExactNextRevolvingSpec : ChangeSpec := { name := "fnExactNextRevolving", fn := fun _ => fun
  | [d1, d2] => { results := [.lit (.bool true)], args := [d1, d2] }
  | _ => none }
def fnExactNextRevolvingRow : OpenClaim := { program := "ytcohdpmdgplgfaa", sum := "1bae1dc8c17d0377837ab443c940e92d369d61d0ef8e2acf62ebade99ed66e2b", func := "loop.example/g01104/laws.FnExactNextRevolving", spec := "fnExactNextRevolving", recurses := true, apart := false }
def FnExactNextRevolvingSaid : Prop := fnExactNextRevolvingRow.holds Try.pinned (OpenSpec.ofChange fnExactNextRevolvingSpec)

/-- ITS FALSE NEIGHBOUR: 'it returns false'. Refute it at one input. -/
def fnExactNextRevolvingWrong : ChangeSpec := { name := "fnExactNextRevolving", fn := fun _ => fun
  | [d1, d2] => { results := [.lit (.bool false)], args := [d1, d2] }
  | _ => none }
def FnExactNextRevolvingWrongFalsely : Prop := fnExactNextRevolvingRow.holds Try.pinned (OpenSpec.ofChange fnExactNextRevolvingWrong)

/- THE SECOND FORM. 'bulk': how many values and letters a reading holds, each counted each time it is reached (what is shared counts as often as it is met; a slice's spare places count too). A statement '..UptoSaid' is the law's where the arguments, and the package variables that the reading takes, are together of bulk at most 1048576: NARROWER than '..Said'. Prove '..Said' where nothing that the law and all that it calls make is longer than what came in: it says more and counts as full. Else prove '..UptoSaid'. A law counts once. -/
mutual
def uptoBulk {H : Type} : DataW H → Nat
  | .lit (.string bytes) => bytes.length + 1
  | .lit _ => 1
  | .nil => 1
  | .ptr d => uptoBulk d + 1
  | .slice elems spare => uptoBulkAll elems + uptoBulkAll spare + 1
  | .agg parts => uptoBulkAll parts + 1
  | .iface _ d => uptoBulk d + 1
  | .map entries => uptoBulkEntries entries + 1
  | .held _ => 1
def uptoBulkAll {H : Type} : List (DataW H) → Nat
  | [] => 0
  | d :: r => uptoBulk d + uptoBulkAll r
def uptoBulkEntries {H : Type} : List (Lit × DataW H) → Nat
  | [] => 0
  | x :: r => uptoBulkEntry x + uptoBulkEntries r
def uptoBulkEntry {H : Type} : Lit × DataW H → Nat
  | (.string bytes, d) => bytes.length + uptoBulk d + 1
  | (_, d) => uptoBulk d + 1
 end
def uptoSmall : (H : Type) → List (DataW H) → Bool := fun _ ds => decide (uptoBulkAll ds ≤ 1048576)
def OpenSpec.upto (s : _root_.Go.ChangeSpec) : _root_.Go.OpenSpec := { _root_.Go.OpenSpec.ofChange s with cond := some uptoSmall }

/-- 'laws.FnExactIsMove', WHERE WHAT IT READS IS OF BULK AT MOST 1048576: true; the input reads as it did. -/
def fnExactIsMoveUptoRow : OpenClaim := { program := "ytcohdpmdgplgfaa", sum := "1bae1dc8c17d0377837ab443c940e92d369d61d0ef8e2acf62ebade99ed66e2b", func := "loop.example/g01104/laws.FnExactIsMove", spec := "fnExactIsMove", apart := false, narrowed := true }
def FnExactIsMoveUptoSaid : Prop := fnExactIsMoveUptoRow.holds Try.pinned (OpenSpec.upto fnExactIsMoveSpec)

/-- 'laws.FnExactMoveOrder', WHERE WHAT IT READS IS OF BULK AT MOST 1048576: true; the input reads as it did. -/
def fnExactMoveOrderUptoRow : OpenClaim := { program := "ytcohdpmdgplgfaa", sum := "1bae1dc8c17d0377837ab443c940e92d369d61d0ef8e2acf62ebade99ed66e2b", func := "loop.example/g01104/laws.FnExactMoveOrder", spec := "fnExactMoveOrder", apart := false, narrowed := true }
def FnExactMoveOrderUptoSaid : Prop := fnExactMoveOrderUptoRow.holds Try.pinned (OpenSpec.upto fnExactMoveOrderSpec)

/-- 'laws.FnExactAdjacentHalves', WHERE WHAT IT READS IS OF BULK AT MOST 1048576: true; the input reads as it did. -/
def fnExactAdjacentHalvesUptoRow : OpenClaim := { program := "ytcohdpmdgplgfaa", sum := "1bae1dc8c17d0377837ab443c940e92d369d61d0ef8e2acf62ebade99ed66e2b", func := "loop.example/g01104/laws.FnExactAdjacentHalves", spec := "fnExactAdjacentHalves", recurses := true, apart := false, narrowed := true }
def FnExactAdjacentHalvesUptoSaid : Prop := fnExactAdjacentHalvesUptoRow.holds Try.pinned (OpenSpec.upto fnExactAdjacentHalvesSpec)

/-- 'laws.FnExactBitsOf', WHERE WHAT IT READS IS OF BULK AT MOST 1048576: true; the input reads as it did. -/
def fnExactBitsOfUptoRow : OpenClaim := { program := "ytcohdpmdgplgfaa", sum := "1bae1dc8c17d0377837ab443c940e92d369d61d0ef8e2acf62ebade99ed66e2b", func := "loop.example/g01104/laws.FnExactBitsOf", spec := "fnExactBitsOf", apart := false, narrowed := true }
def FnExactBitsOfUptoSaid : Prop := fnExactBitsOfUptoRow.holds Try.pinned (OpenSpec.upto fnExactBitsOfSpec)

/-- 'laws.FnExactNextCool', WHERE WHAT IT READS IS OF BULK AT MOST 1048576: true; the input reads as it did. -/
def fnExactNextCoolUptoRow : OpenClaim := { program := "ytcohdpmdgplgfaa", sum := "1bae1dc8c17d0377837ab443c940e92d369d61d0ef8e2acf62ebade99ed66e2b", func := "loop.example/g01104/laws.FnExactNextCool", spec := "fnExactNextCool", apart := false, narrowed := true }
def FnExactNextCoolUptoSaid : Prop := fnExactNextCoolUptoRow.holds Try.pinned (OpenSpec.upto fnExactNextCoolSpec)

/-- 'laws.FnExactRevolvingAt', WHERE WHAT IT READS IS OF BULK AT MOST 1048576: true; the input reads as it did. -/
def fnExactRevolvingAtUptoRow : OpenClaim := { program := "ytcohdpmdgplgfaa", sum := "1bae1dc8c17d0377837ab443c940e92d369d61d0ef8e2acf62ebade99ed66e2b", func := "loop.example/g01104/laws.FnExactRevolvingAt", spec := "fnExactRevolvingAt", recurses := true, apart := false, narrowed := true }
def FnExactRevolvingAtUptoSaid : Prop := fnExactRevolvingAtUptoRow.holds Try.pinned (OpenSpec.upto fnExactRevolvingAtSpec)

/-- 'laws.FnExactExchangeOf', WHERE WHAT IT READS IS OF BULK AT MOST 1048576: true; the input reads as it did. -/
def fnExactExchangeOfUptoRow : OpenClaim := { program := "ytcohdpmdgplgfaa", sum := "1bae1dc8c17d0377837ab443c940e92d369d61d0ef8e2acf62ebade99ed66e2b", func := "loop.example/g01104/laws.FnExactExchangeOf", spec := "fnExactExchangeOf", apart := false, narrowed := true }
def FnExactExchangeOfUptoSaid : Prop := fnExactExchangeOfUptoRow.holds Try.pinned (OpenSpec.upto fnExactExchangeOfSpec)

/-- 'laws.FnExactRevolvingRank', WHERE WHAT IT READS IS OF BULK AT MOST 1048576: true; the input reads as it did. -/
def fnExactRevolvingRankUptoRow : OpenClaim := { program := "ytcohdpmdgplgfaa", sum := "1bae1dc8c17d0377837ab443c940e92d369d61d0ef8e2acf62ebade99ed66e2b", func := "loop.example/g01104/laws.FnExactRevolvingRank", spec := "fnExactRevolvingRank", recurses := true, apart := false, narrowed := true }
def FnExactRevolvingRankUptoSaid : Prop := fnExactRevolvingRankUptoRow.holds Try.pinned (OpenSpec.upto fnExactRevolvingRankSpec)

/-- 'laws.FnExactRevolvingList', WHERE WHAT IT READS IS OF BULK AT MOST 1048576: true; the input reads as it did. -/
def fnExactRevolvingListUptoRow : OpenClaim := { program := "ytcohdpmdgplgfaa", sum := "1bae1dc8c17d0377837ab443c940e92d369d61d0ef8e2acf62ebade99ed66e2b", func := "loop.example/g01104/laws.FnExactRevolvingList", spec := "fnExactRevolvingList", recurses := true, apart := false, narrowed := true }
def FnExactRevolvingListUptoSaid : Prop := fnExactRevolvingListUptoRow.holds Try.pinned (OpenSpec.upto fnExactRevolvingListSpec)

/-- 'laws.FnExactMoveSign', WHERE WHAT IT READS IS OF BULK AT MOST 1048576: true; the input reads as it did. -/
def fnExactMoveSignUptoRow : OpenClaim := { program := "ytcohdpmdgplgfaa", sum := "1bae1dc8c17d0377837ab443c940e92d369d61d0ef8e2acf62ebade99ed66e2b", func := "loop.example/g01104/laws.FnExactMoveSign", spec := "fnExactMoveSign", apart := false, narrowed := true }
def FnExactMoveSignUptoSaid : Prop := fnExactMoveSignUptoRow.holds Try.pinned (OpenSpec.upto fnExactMoveSignSpec)

/-- 'laws.FnExactCoolList', WHERE WHAT IT READS IS OF BULK AT MOST 1048576: true; the input reads as it did. -/
def fnExactCoolListUptoRow : OpenClaim := { program := "ytcohdpmdgplgfaa", sum := "1bae1dc8c17d0377837ab443c940e92d369d61d0ef8e2acf62ebade99ed66e2b", func := "loop.example/g01104/laws.FnExactCoolList", spec := "fnExactCoolList", apart := false, narrowed := true }
def FnExactCoolListUptoSaid : Prop := fnExactCoolListUptoRow.holds Try.pinned (OpenSpec.upto fnExactCoolListSpec)

/-- 'laws.FnExactNextRevolving', WHERE WHAT IT READS IS OF BULK AT MOST 1048576: true; the input reads as it did. -/
def fnExactNextRevolvingUptoRow : OpenClaim := { program := "ytcohdpmdgplgfaa", sum := "1bae1dc8c17d0377837ab443c940e92d369d61d0ef8e2acf62ebade99ed66e2b", func := "loop.example/g01104/laws.FnExactNextRevolving", spec := "fnExactNextRevolving", recurses := true, apart := false, narrowed := true }
def FnExactNextRevolvingUptoSaid : Prop := fnExactNextRevolvingUptoRow.holds Try.pinned (OpenSpec.upto fnExactNextRevolvingSpec)

end Rows
end Go.Proofs.Ytcohdpmdgplgfaa
