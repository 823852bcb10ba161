/-
  No cell of these rows narrows 'for every input' (looked for: loops, veiled, ifaces, maps, wideKeys, modest, calm, conditions, laid).
  DERIVED. THE GIVEN ROWS OF THIS SEAT. 10 by the template 'for every input the law returns true; each argument reads behind the call as it read before'; 0 by the template 'total and deterministic' (their statements: YtelajnmnbmamhaaTotals.lean).
  GIVEN WITH THE SEED: the statements are not yours to turn. If you find one false, say at which input.
  Laid BY PROGRAM, IN A SANDBOX (cutbox-rows.mjs): the forced cells as the released guide's own fill.sh prints them over the translation 05bedf6f480b6287… (all of the seat's roots in one cut). By AI agents, Wed Nov 11 2026. No macro, syntax, notation, axiom, sorry.
-/
import Derived.Test.YtelajnmnbmamhaaChecked
import GoSem.Claim
import GoSem.ClaimJoined
import GoSem.ClaimMapViews
import Derived.JoinedTies
import Derived.KernelRfl
namespace Go.Proofs.Ytelajnmnbmamhaa
/- THE CELL 'sum', in the pinned program and in every row, IS THE sha256 OF THE DUMP (.gsa) THAT YtelajnmnbmamhaaProg.lean LOADS. Nothing in Lean hashes anything: it is a label: what it is worth is what the hold of that sum in a sandbox is worth. -/
noncomputable def Try.pinned : Pinned := { name := "ytelajnmnbmamhaa", sum := "05bedf6f480b6287a9e68c8580669eeec18d1e21a933020a5d05f288deffa6f6", checked := Try.checked }
namespace Rows
def none {H : Type} : Left H := { results := [], args := [] }

/-- 'laws.FnExactCoolRank': WHATEVER THE INPUT: true; the input reads as it did. -/
def fnExactCoolRankSpec : ChangeSpec := { name := "fnExactCoolRank", fn := fun _ => fun
  | [d] => { results := [.lit (.bool true)], args := [d] }
  | _ => none }
def fnExactCoolRankRow : OpenClaim := { program := "ytelajnmnbmamhaa", sum := "05bedf6f480b6287a9e68c8580669eeec18d1e21a933020a5d05f288deffa6f6", func := "loop.example/g01104/laws.FnExactCoolRank", spec := "fnExactCoolRank", unfollowed := true, recurses := true, plainKeys := false, apart := false }
def FnExactCoolRankSaid : Prop := fnExactCoolRankRow.holds Try.pinned (OpenSpec.ofChange fnExactCoolRankSpec)

/-- ITS FALSE NEIGHBOUR: 'it returns false'. Refute it at one input. -/
def fnExactCoolRankWrong : ChangeSpec := { name := "fnExactCoolRank", fn := fun _ => fun
  | [d] => { results := [.lit (.bool false)], args := [d] }
  | _ => none }
def FnExactCoolRankWrongFalsely : Prop := fnExactCoolRankRow.holds Try.pinned (OpenSpec.ofChange fnExactCoolRankWrong)

/-- 'laws.FnExactComplementsOf': WHATEVER THE INPUT: true; the input reads as it did. -/
def fnExactComplementsOfSpec : ChangeSpec := { name := "fnExactComplementsOf", fn := fun _ => fun
  | [d1, d2] => { results := [.lit (.bool true)], args := [d1, d2] }
  | _ => none }
def fnExactComplementsOfRow : OpenClaim := { program := "ytelajnmnbmamhaa", sum := "05bedf6f480b6287a9e68c8580669eeec18d1e21a933020a5d05f288deffa6f6", func := "loop.example/g01104/laws.FnExactComplementsOf", spec := "fnExactComplementsOf", plainKeys := false, apart := false }
def FnExactComplementsOfSaid : Prop := fnExactComplementsOfRow.holds Try.pinned (OpenSpec.ofChange fnExactComplementsOfSpec)

/-- ITS FALSE NEIGHBOUR: 'it returns false'. Refute it at one input. -/
def fnExactComplementsOfWrong : ChangeSpec := { name := "fnExactComplementsOf", fn := fun _ => fun
  | [d1, d2] => { results := [.lit (.bool false)], args := [d1, d2] }
  | _ => none }
def FnExactComplementsOfWrongFalsely : Prop := fnExactComplementsOfRow.holds Try.pinned (OpenSpec.ofChange fnExactComplementsOfWrong)

/-- 'laws.FnExactIsAdjacentList': WHATEVER THE INPUT: true; the input reads as it did. -/
def fnExactIsAdjacentListSpec : ChangeSpec := { name := "fnExactIsAdjacentList", fn := fun _ => fun
  | [d1, d2, d3] => { results := [.lit (.bool true)], args := [d1, d2, d3] }
  | _ => none }
def fnExactIsAdjacentListRow : OpenClaim := { program := "ytelajnmnbmamhaa", sum := "05bedf6f480b6287a9e68c8580669eeec18d1e21a933020a5d05f288deffa6f6", func := "loop.example/g01104/laws.FnExactIsAdjacentList", spec := "fnExactIsAdjacentList", unfollowed := true, recurses := true, plainKeys := false, apart := false }
def FnExactIsAdjacentListSaid : Prop := fnExactIsAdjacentListRow.holds Try.pinned (OpenSpec.ofChange fnExactIsAdjacentListSpec)

/-- ITS FALSE NEIGHBOUR: 'it returns false'. Refute it at one input. -/
def fnExactIsAdjacentListWrong : ChangeSpec := { name := "fnExactIsAdjacentList", fn := fun _ => fun
  | [d1, d2, d3] => { results := [.lit (.bool false)], args := [d1, d2, d3] }
  | _ => none }
def FnExactIsAdjacentListWrongFalsely : Prop := fnExactIsAdjacentListRow.holds Try.pinned (OpenSpec.ofChange fnExactIsAdjacentListWrong)

/-- 'laws.FnExactIsExchangeList': WHATEVER THE INPUT: true; the input reads as it did. -/
def fnExactIsExchangeListSpec : ChangeSpec := { name := "fnExactIsExchangeList", fn := fun _ => fun
  | [d1, d2, d3] => { results := [.lit (.bool true)], args := [d1, d2, d3] }
  | _ => none }
def fnExactIsExchangeListRow : OpenClaim := { program := "ytelajnmnbmamhaa", sum := "05bedf6f480b6287a9e68c8580669eeec18d1e21a933020a5d05f288deffa6f6", func := "loop.example/g01104/laws.FnExactIsExchangeList", spec := "fnExactIsExchangeList", unfollowed := true, recurses := true, plainKeys := false, apart := false }
def FnExactIsExchangeListSaid : Prop := fnExactIsExchangeListRow.holds Try.pinned (OpenSpec.ofChange fnExactIsExchangeListSpec)

/-- ITS FALSE NEIGHBOUR: 'it returns false'. Refute it at one input. -/
def fnExactIsExchangeListWrong : ChangeSpec := { name := "fnExactIsExchangeList", fn := fun _ => fun
  | [d1, d2, d3] => { results := [.lit (.bool false)], args := [d1, d2, d3] }
  | _ => none }
def FnExactIsExchangeListWrongFalsely : Prop := fnExactIsExchangeListRow.holds Try.pinned (OpenSpec.ofChange fnExactIsExchangeListWrong)

/-- 'laws.FnExactIsRoundExchange': WHATEVER THE INPUT: true; the input reads as it did. -/
def fnExactIsRoundExchangeSpec : ChangeSpec := { name := "fnExactIsRoundExchange", fn := fun _ => fun
  | [d1, d2, d3] => { results := [.lit (.bool true)], args := [d1, d2, d3] }
  | _ => none }
def fnExactIsRoundExchangeRow : OpenClaim := { program := "ytelajnmnbmamhaa", sum := "05bedf6f480b6287a9e68c8580669eeec18d1e21a933020a5d05f288deffa6f6", func := "loop.example/g01104/laws.FnExactIsRoundExchange", spec := "fnExactIsRoundExchange", unfollowed := true, recurses := true, plainKeys := false, apart := false }
def FnExactIsRoundExchangeSaid : Prop := fnExactIsRoundExchangeRow.holds Try.pinned (OpenSpec.ofChange fnExactIsRoundExchangeSpec)

/-- ITS FALSE NEIGHBOUR: 'it returns false'. Refute it at one input. -/
def fnExactIsRoundExchangeWrong : ChangeSpec := { name := "fnExactIsRoundExchange", fn := fun _ => fun
  | [d1, d2, d3] => { results := [.lit (.bool false)], args := [d1, d2, d3] }
  | _ => none }
def FnExactIsRoundExchangeWrongFalsely : Prop := fnExactIsRoundExchangeRow.holds Try.pinned (OpenSpec.ofChange fnExactIsRoundExchangeWrong)

/-- 'laws.FnExactAdjacentList': WHATEVER THE INPUT: true; the input reads as it did. -/
def fnExactAdjacentListSpec : ChangeSpec := { name := "fnExactAdjacentList", fn := fun _ => fun
  | [d1, d2] => { results := [.lit (.bool true)], args := [d1, d2] }
  | _ => none }
def fnExactAdjacentListRow : OpenClaim := { program := "ytelajnmnbmamhaa", sum := "05bedf6f480b6287a9e68c8580669eeec18d1e21a933020a5d05f288deffa6f6", func := "loop.example/g01104/laws.FnExactAdjacentList", spec := "fnExactAdjacentList", unfollowed := true, recurses := true, plainKeys := false, apart := false }
def FnExactAdjacentListSaid : Prop := fnExactAdjacentListRow.holds Try.pinned (OpenSpec.ofChange fnExactAdjacentListSpec)

/-- ITS FALSE NEIGHBOUR: 'it returns false'. Refute it at one input. -/
def fnExactAdjacentListWrong : ChangeSpec := { name := "fnExactAdjacentList", fn := fun _ => fun
  | [d1, d2] => { results := [.lit (.bool false)], args := [d1, d2] }
  | _ => none }
def FnExactAdjacentListWrongFalsely : Prop := fnExactAdjacentListRow.holds Try.pinned (OpenSpec.ofChange fnExactAdjacentListWrong)

/-- 'laws.FnCoolLists': WHATEVER THE INPUT: true; the input reads as it did. -/
def fnCoolListsSpec : ChangeSpec := { name := "fnCoolLists", fn := fun _ => fun
  | [d1, d2] => { results := [.lit (.bool true)], args := [d1, d2] }
  | _ => none }
def fnCoolListsRow : OpenClaim := { program := "ytelajnmnbmamhaa", sum := "05bedf6f480b6287a9e68c8580669eeec18d1e21a933020a5d05f288deffa6f6", func := "loop.example/g01104/laws.FnCoolLists", spec := "fnCoolLists", unfollowed := true, recurses := true, plainKeys := false, apart := false }
def FnCoolListsSaid : Prop := fnCoolListsRow.holds Try.pinned (OpenSpec.ofChange fnCoolListsSpec)

/-- ITS FALSE NEIGHBOUR: 'it returns false'. Refute it at one input. -/
def fnCoolListsWrong : ChangeSpec := { name := "fnCoolLists", fn := fun _ => fun
  | [d1, d2] => { results := [.lit (.bool false)], args := [d1, d2] }
  | _ => none }
def FnCoolListsWrongFalsely : Prop := fnCoolListsRow.holds Try.pinned (OpenSpec.ofChange fnCoolListsWrong)

/-- 'laws.FnAdjacentLists': WHATEVER THE INPUT: true; the input reads as it did. -/
def fnAdjacentListsSpec : ChangeSpec := { name := "fnAdjacentLists", fn := fun _ => fun
  | [d1, d2] => { results := [.lit (.bool true)], args := [d1, d2] }
  | _ => none }
def fnAdjacentListsRow : OpenClaim := { program := "ytelajnmnbmamhaa", sum := "05bedf6f480b6287a9e68c8580669eeec18d1e21a933020a5d05f288deffa6f6", func := "loop.example/g01104/laws.FnAdjacentLists", spec := "fnAdjacentLists", unfollowed := true, recurses := true, plainKeys := false, apart := false }
def FnAdjacentListsSaid : Prop := fnAdjacentListsRow.holds Try.pinned (OpenSpec.ofChange fnAdjacentListsSpec)

/-- ITS FALSE NEIGHBOUR: 'it returns false'. Refute it at one input. -/
def fnAdjacentListsWrong : ChangeSpec := { name := "fnAdjacentLists", fn := fun _ => fun
  | [d1, d2] => { results := [.lit (.bool false)], args := [d1, d2] }
  | _ => none }
def FnAdjacentListsWrongFalsely : Prop := fnAdjacentListsRow.holds Try.pinned (OpenSpec.ofChange fnAdjacentListsWrong)

/-- 'laws.FnRevolvingDoor': WHATEVER THE INPUT: true; the input reads as it did. -/
def fnRevolvingDoorSpec : ChangeSpec := { name := "fnRevolvingDoor", fn := fun _ => fun
  | [d1, d2] => { results := [.lit (.bool true)], args := [d1, d2] }
  | _ => none }
def fnRevolvingDoorRow : OpenClaim := { program := "ytelajnmnbmamhaa", sum := "05bedf6f480b6287a9e68c8580669eeec18d1e21a933020a5d05f288deffa6f6", func := "loop.example/g01104/laws.FnRevolvingDoor", spec := "fnRevolvingDoor", unfollowed := true, recurses := true, plainKeys := false, apart := false }
def FnRevolvingDoorSaid : Prop := fnRevolvingDoorRow.holds Try.pinned (OpenSpec.ofChange fnRevolvingDoorSpec)

/-- ITS FALSE NEIGHBOUR: 'it returns false'. Refute it at one input. -/
def fnRevolvingDoorWrong : ChangeSpec := { name := "fnRevolvingDoor", fn := fun _ => fun
  | [d1, d2] => { results := [.lit (.bool false)], args := [d1, d2] }
  | _ => none }
def FnRevolvingDoorWrongFalsely : Prop := fnRevolvingDoorRow.holds Try.pinned (OpenSpec.ofChange fnRevolvingDoorWrong)

/-- 'laws.FnExchanges': WHATEVER THE INPUT: true; the input reads as it did. -/
def fnExchangesSpec : ChangeSpec := { name := "fnExchanges", fn := fun _ => fun
  | [d1, d2] => { results := [.lit (.bool true)], args := [d1, d2] }
  | _ => none }
def fnExchangesRow : OpenClaim := { program := "ytelajnmnbmamhaa", sum := "05bedf6f480b6287a9e68c8580669eeec18d1e21a933020a5d05f288deffa6f6", func := "loop.example/g01104/laws.FnExchanges", spec := "fnExchanges", unfollowed := true, recurses := true, plainKeys := false, apart := false }
def FnExchangesSaid : Prop := fnExchangesRow.holds Try.pinned (OpenSpec.ofChange fnExchangesSpec)

/-- ITS FALSE NEIGHBOUR: 'it returns false'. Refute it at one input. -/
def fnExchangesWrong : ChangeSpec := { name := "fnExchanges", fn := fun _ => fun
  | [d1, d2] => { results := [.lit (.bool false)], args := [d1, d2] }
  | _ => none }
def FnExchangesWrongFalsely : Prop := fnExchangesRow.holds Try.pinned (OpenSpec.ofChange fnExchangesWrong)

/- THE SECOND FORM. 'bulk': how many values and letters a reading holds, each counted each time it is reached (what is shared counts as often as it is met; a slice's spare places count too). A statement '..UptoSaid' is the law's where the arguments, and the package variables that the reading takes, are together of bulk at most 1048576: NARROWER than '..Said'. Prove '..Said' where nothing that the law and all that it calls make is longer than what came in: it says more and counts as full. Else prove '..UptoSaid'. A law counts once. -/
mutual
def uptoBulk {H : Type} : DataW H → Nat
  | .lit (.string bytes) => bytes.length + 1
  | .lit _ => 1
  | .nil => 1
  | .ptr d => uptoBulk d + 1
  | .slice elems spare => uptoBulkAll elems + uptoBulkAll spare + 1
  | .agg parts => uptoBulkAll parts + 1
  | .iface _ d => uptoBulk d + 1
  | .map entries => uptoBulkEntries entries + 1
  | .held _ => 1
def uptoBulkAll {H : Type} : List (DataW H) → Nat
  | [] => 0
  | d :: r => uptoBulk d + uptoBulkAll r
def uptoBulkEntries {H : Type} : List (Lit × DataW H) → Nat
  | [] => 0
  | x :: r => uptoBulkEntry x + uptoBulkEntries r
def uptoBulkEntry {H : Type} : Lit × DataW H → Nat
  | (.string bytes, d) => bytes.length + uptoBulk d + 1
  | (_, d) => uptoBulk d + 1
 end
def uptoSmall : (H : Type) → List (DataW H) → Bool := fun _ ds => decide (uptoBulkAll ds ≤ 1048576)
def OpenSpec.upto (s : _root_.Go.ChangeSpec) : _root_.Go.OpenSpec := { _root_.Go.OpenSpec.ofChange s with cond := some uptoSmall }

/-- 'laws.FnExactCoolRank', WHERE WHAT IT READS IS OF BULK AT MOST 1048576: true; the input reads as it did. -/
def fnExactCoolRankUptoRow : OpenClaim := { program := "ytelajnmnbmamhaa", sum := "05bedf6f480b6287a9e68c8580669eeec18d1e21a933020a5d05f288deffa6f6", func := "loop.example/g01104/laws.FnExactCoolRank", spec := "fnExactCoolRank", unfollowed := true, recurses := true, plainKeys := false, apart := false, narrowed := true }
def FnExactCoolRankUptoSaid : Prop := fnExactCoolRankUptoRow.holds Try.pinned (OpenSpec.upto fnExactCoolRankSpec)

/-- 'laws.FnExactComplementsOf', WHERE WHAT IT READS IS OF BULK AT MOST 1048576: true; the input reads as it did. -/
def fnExactComplementsOfUptoRow : OpenClaim := { program := "ytelajnmnbmamhaa", sum := "05bedf6f480b6287a9e68c8580669eeec18d1e21a933020a5d05f288deffa6f6", func := "loop.example/g01104/laws.FnExactComplementsOf", spec := "fnExactComplementsOf", plainKeys := false, apart := false, narrowed := true }
def FnExactComplementsOfUptoSaid : Prop := fnExactComplementsOfUptoRow.holds Try.pinned (OpenSpec.upto fnExactComplementsOfSpec)

/-- 'laws.FnExactIsAdjacentList', WHERE WHAT IT READS IS OF BULK AT MOST 1048576: true; the input reads as it did. -/
def fnExactIsAdjacentListUptoRow : OpenClaim := { program := "ytelajnmnbmamhaa", sum := "05bedf6f480b6287a9e68c8580669eeec18d1e21a933020a5d05f288deffa6f6", func := "loop.example/g01104/laws.FnExactIsAdjacentList", spec := "fnExactIsAdjacentList", unfollowed := true, recurses := true, plainKeys := false, apart := false, narrowed := true }
def FnExactIsAdjacentListUptoSaid : Prop := fnExactIsAdjacentListUptoRow.holds Try.pinned (OpenSpec.upto fnExactIsAdjacentListSpec)

/-- 'laws.FnExactIsExchangeList', WHERE WHAT IT READS IS OF BULK AT MOST 1048576: true; the input reads as it did. -/
def fnExactIsExchangeListUptoRow : OpenClaim := { program := "ytelajnmnbmamhaa", sum := "05bedf6f480b6287a9e68c8580669eeec18d1e21a933020a5d05f288deffa6f6", func := "loop.example/g01104/laws.FnExactIsExchangeList", spec := "fnExactIsExchangeList", unfollowed := true, recurses := true, plainKeys := false, apart := false, narrowed := true }
def FnExactIsExchangeListUptoSaid : Prop := fnExactIsExchangeListUptoRow.holds Try.pinned (OpenSpec.upto fnExactIsExchangeListSpec)

/-- 'laws.FnExactIsRoundExchange', WHERE WHAT IT READS IS OF BULK AT MOST 1048576: true; the input reads as it did. -/
def fnExactIsRoundExchangeUptoRow : OpenClaim := { program := "ytelajnmnbmamhaa", sum := "05bedf6f480b6287a9e68c8580669eeec18d1e21a933020a5d05f288deffa6f6", func := "loop.example/g01104/laws.FnExactIsRoundExchange", spec := "fnExactIsRoundExchange", unfollowed := true, recurses := true, plainKeys := false, apart := false, narrowed := true }
def FnExactIsRoundExchangeUptoSaid : Prop := fnExactIsRoundExchangeUptoRow.holds Try.pinned (OpenSpec.upto fnExactIsRoundExchangeSpec)

/-- 'laws.FnExactAdjacentList', WHERE WHAT IT READS IS OF BULK AT MOST 1048576: true; the input reads as it did. -/
def fnExactAdjacentListUptoRow : OpenClaim := { program := "ytelajnmnbmamhaa", sum := "05bedf6f480b6287a9e68c8580669eeec18d1e21a933020a5d05f288deffa6f6", func := "loop.example/g01104/laws.FnExactAdjacentList", spec := "fnExactAdjacentList", unfollowed := true, recurses := true, plainKeys := false, apart := false, narrowed := true }
def FnExactAdjacentListUptoSaid : Prop := fnExactAdjacentListUptoRow.holds Try.pinned (OpenSpec.upto fnExactAdjacentListSpec)

/-- 'laws.FnCoolLists', WHERE WHAT IT READS IS OF BULK AT MOST 1048576: true; the input reads as it did. -/
def fnCoolListsUptoRow : OpenClaim := { program := "ytelajnmnbmamhaa", sum := "05bedf6f480b6287a9e68c8580669eeec18d1e21a933020a5d05f288deffa6f6", func := "loop.example/g01104/laws.FnCoolLists", spec := "fnCoolLists", unfollowed := true, recurses := true, plainKeys := false, apart := false, narrowed := true }
def FnCoolListsUptoSaid : Prop := fnCoolListsUptoRow.holds Try.pinned (OpenSpec.upto fnCoolListsSpec)

/-- 'laws.FnAdjacentLists', WHERE WHAT IT READS IS OF BULK AT MOST 1048576: true; the input reads as it did. -/
def fnAdjacentListsUptoRow : OpenClaim := { program := "ytelajnmnbmamhaa", sum := "05bedf6f480b6287a9e68c8580669eeec18d1e21a933020a5d05f288deffa6f6", func := "loop.example/g01104/laws.FnAdjacentLists", spec := "fnAdjacentLists", unfollowed := true, recurses := true, plainKeys := false, apart := false, narrowed := true }
def FnAdjacentListsUptoSaid : Prop := fnAdjacentListsUptoRow.holds Try.pinned (OpenSpec.upto fnAdjacentListsSpec)

/-- 'laws.FnRevolvingDoor', WHERE WHAT IT READS IS OF BULK AT MOST 1048576: true; the input reads as it did. -/
def fnRevolvingDoorUptoRow : OpenClaim := { program := "ytelajnmnbmamhaa", sum := "05bedf6f480b6287a9e68c8580669eeec18d1e21a933020a5d05f288deffa6f6", func := "loop.example/g01104/laws.FnRevolvingDoor", spec := "fnRevolvingDoor", unfollowed := true, recurses := true, plainKeys := false, apart := false, narrowed := true }
def FnRevolvingDoorUptoSaid : Prop := fnRevolvingDoorUptoRow.holds Try.pinned (OpenSpec.upto fnRevolvingDoorSpec)

/-- 'laws.FnExchanges', WHERE WHAT IT READS IS OF BULK AT MOST 1048576: true; the input reads as it did. -/
def fnExchangesUptoRow : OpenClaim := { program := "ytelajnmnbmamhaa", sum := "05bedf6f480b6287a9e68c8580669eeec18d1e21a933020a5d05f288deffa6f6", func := "loop.example/g01104/laws.FnExchanges", spec := "fnExchanges", unfollowed := true, recurses := true, plainKeys := false, apart := false, narrowed := true }
def FnExchangesUptoSaid : Prop := fnExchangesUptoRow.holds Try.pinned (OpenSpec.upto fnExchangesSpec)

end Rows
end Go.Proofs.Ytelajnmnbmamhaa
