/-
  No cell of these rows narrows 'for every input' (looked for: loops, veiled, ifaces, maps, wideKeys, modest, calm, conditions, laid).
  DERIVED. THE GIVEN ROWS OF THIS SEAT. 14 by the template 'for every input the law returns true; each argument reads behind the call as it read before'; 0 by the template 'total and deterministic' (their statements: YtaogaigpnmpdcaaTotals.lean).
  GIVEN WITH THE SEED: the statements are not yours to turn. If you find one false, say at which input.
  Laid BY PROGRAM, IN A SANDBOX (cutbox-rows.mjs): the forced cells as the released guide's own fill.sh prints them over the translation 03098d90ac60adc3… (all of the seat's roots in one cut). By AI agents, Wed Nov 11 2026. No macro, syntax, notation, axiom, sorry.
-/
import Derived.Test.YtaogaigpnmpdcaaChecked
import GoSem.Claim
import GoSem.ClaimJoined
import GoSem.ClaimMapViews
import Derived.JoinedTies
import Derived.KernelRfl
namespace Go.Proofs.Ytaogaigpnmpdcaa
/- THE CELL 'sum', in the pinned program and in every row, IS THE sha256 OF THE DUMP (.gsa) THAT YtaogaigpnmpdcaaProg.lean LOADS. Nothing in Lean hashes anything: it is a label: what it is worth is what the hold of that sum in a sandbox is worth. -/
noncomputable def Try.pinned : Pinned := { name := "ytaogaigpnmpdcaa", sum := "03098d90ac60adc30739333964bfddd4b0ef693c40caa7b2db6b5a3941507fc0", checked := Try.checked }
namespace Rows
def none {H : Type} : Left H := { results := [], args := [] }

/-- 'laws.FnExactRunFocus': WHATEVER THE INPUT: true; the input reads as it did. -/
def fnExactRunFocusSpec : ChangeSpec := { name := "fnExactRunFocus", fn := fun _ => fun
  | [d1, d2] => { results := [.lit (.bool true)], args := [d1, d2] }
  | _ => none }
def fnExactRunFocusRow : OpenClaim := { program := "ytaogaigpnmpdcaa", sum := "03098d90ac60adc30739333964bfddd4b0ef693c40caa7b2db6b5a3941507fc0", func := "loop.example/g01104/laws.FnExactRunFocus", spec := "fnExactRunFocus", apart := false }
def FnExactRunFocusSaid : Prop := fnExactRunFocusRow.holds Try.pinned (OpenSpec.ofChange fnExactRunFocusSpec)

/-- ITS FALSE NEIGHBOUR: 'it returns false'. Refute it at one input. -/
def fnExactRunFocusWrong : ChangeSpec := { name := "fnExactRunFocus", fn := fun _ => fun
  | [d1, d2] => { results := [.lit (.bool false)], args := [d1, d2] }
  | _ => none }
def FnExactRunFocusWrongFalsely : Prop := fnExactRunFocusRow.holds Try.pinned (OpenSpec.ofChange fnExactRunFocusWrong)

/-- 'laws.FnExactStartFocus': WHATEVER THE INPUT: true; the input reads as it did. -/
def fnExactStartFocusSpec : ChangeSpec := { name := "fnExactStartFocus", fn := fun _ => fun
  | [d] => { results := [.lit (.bool true)], args := [d] }
  | _ => none }
def fnExactStartFocusRow : OpenClaim := { program := "ytaogaigpnmpdcaa", sum := "03098d90ac60adc30739333964bfddd4b0ef693c40caa7b2db6b5a3941507fc0", func := "loop.example/g01104/laws.FnExactStartFocus", spec := "fnExactStartFocus", apart := false }
def FnExactStartFocusSaid : Prop := fnExactStartFocusRow.holds Try.pinned (OpenSpec.ofChange fnExactStartFocusSpec)

/-- ITS FALSE NEIGHBOUR: 'it returns false'. Refute it at one input. -/
def fnExactStartFocusWrong : ChangeSpec := { name := "fnExactStartFocus", fn := fun _ => fun
  | [d] => { results := [.lit (.bool false)], args := [d] }
  | _ => none }
def FnExactStartFocusWrongFalsely : Prop := fnExactStartFocusRow.holds Try.pinned (OpenSpec.ofChange fnExactStartFocusWrong)

/-- 'laws.FnExactStartSwapper': WHATEVER THE INPUT: true; the input reads as it did. -/
def fnExactStartSwapperSpec : ChangeSpec := { name := "fnExactStartSwapper", fn := fun _ => fun
  | [d] => { results := [.lit (.bool true)], args := [d] }
  | _ => none }
def fnExactStartSwapperRow : OpenClaim := { program := "ytaogaigpnmpdcaa", sum := "03098d90ac60adc30739333964bfddd4b0ef693c40caa7b2db6b5a3941507fc0", func := "loop.example/g01104/laws.FnExactStartSwapper", spec := "fnExactStartSwapper", apart := false }
def FnExactStartSwapperSaid : Prop := fnExactStartSwapperRow.holds Try.pinned (OpenSpec.ofChange fnExactStartSwapperSpec)

/-- ITS FALSE NEIGHBOUR: 'it returns false'. Refute it at one input. -/
def fnExactStartSwapperWrong : ChangeSpec := { name := "fnExactStartSwapper", fn := fun _ => fun
  | [d] => { results := [.lit (.bool false)], args := [d] }
  | _ => none }
def FnExactStartSwapperWrongFalsely : Prop := fnExactStartSwapperRow.holds Try.pinned (OpenSpec.ofChange fnExactStartSwapperWrong)

/-- 'laws.FnExactCountTurns': WHATEVER THE INPUT: true; the input reads as it did. -/
def fnExactCountTurnsSpec : ChangeSpec := { name := "fnExactCountTurns", fn := fun _ => fun
  | [d] => { results := [.lit (.bool true)], args := [d] }
  | _ => none }
def fnExactCountTurnsRow : OpenClaim := { program := "ytaogaigpnmpdcaa", sum := "03098d90ac60adc30739333964bfddd4b0ef693c40caa7b2db6b5a3941507fc0", func := "loop.example/g01104/laws.FnExactCountTurns", spec := "fnExactCountTurns", apart := false }
def FnExactCountTurnsSaid : Prop := fnExactCountTurnsRow.holds Try.pinned (OpenSpec.ofChange fnExactCountTurnsSpec)

/-- ITS FALSE NEIGHBOUR: 'it returns false'. Refute it at one input. -/
def fnExactCountTurnsWrong : ChangeSpec := { name := "fnExactCountTurns", fn := fun _ => fun
  | [d] => { results := [.lit (.bool false)], args := [d] }
  | _ => none }
def FnExactCountTurnsWrongFalsely : Prop := fnExactCountTurnsRow.holds Try.pinned (OpenSpec.ofChange fnExactCountTurnsWrong)

/-- 'laws.FnExactRunSwapper': WHATEVER THE INPUT: true; the input reads as it did. -/
def fnExactRunSwapperSpec : ChangeSpec := { name := "fnExactRunSwapper", fn := fun _ => fun
  | [d1, d2] => { results := [.lit (.bool true)], args := [d1, d2] }
  | _ => none }
def fnExactRunSwapperRow : OpenClaim := { program := "ytaogaigpnmpdcaa", sum := "03098d90ac60adc30739333964bfddd4b0ef693c40caa7b2db6b5a3941507fc0", func := "loop.example/g01104/laws.FnExactRunSwapper", spec := "fnExactRunSwapper", apart := false }
def FnExactRunSwapperSaid : Prop := fnExactRunSwapperRow.holds Try.pinned (OpenSpec.ofChange fnExactRunSwapperSpec)

/-- ITS FALSE NEIGHBOUR: 'it returns false'. Refute it at one input. -/
def fnExactRunSwapperWrong : ChangeSpec := { name := "fnExactRunSwapper", fn := fun _ => fun
  | [d1, d2] => { results := [.lit (.bool false)], args := [d1, d2] }
  | _ => none }
def FnExactRunSwapperWrongFalsely : Prop := fnExactRunSwapperRow.holds Try.pinned (OpenSpec.ofChange fnExactRunSwapperWrong)

/-- 'laws.FnExactFocusAt': WHATEVER THE INPUT: true; the input reads as it did. -/
def fnExactFocusAtSpec : ChangeSpec := { name := "fnExactFocusAt", fn := fun _ => fun
  | [d1, d2] => { results := [.lit (.bool true)], args := [d1, d2] }
  | _ => none }
def fnExactFocusAtRow : OpenClaim := { program := "ytaogaigpnmpdcaa", sum := "03098d90ac60adc30739333964bfddd4b0ef693c40caa7b2db6b5a3941507fc0", func := "loop.example/g01104/laws.FnExactFocusAt", spec := "fnExactFocusAt", apart := false }
def FnExactFocusAtSaid : Prop := fnExactFocusAtRow.holds Try.pinned (OpenSpec.ofChange fnExactFocusAtSpec)

/-- ITS FALSE NEIGHBOUR: 'it returns false'. Refute it at one input. -/
def fnExactFocusAtWrong : ChangeSpec := { name := "fnExactFocusAt", fn := fun _ => fun
  | [d1, d2] => { results := [.lit (.bool false)], args := [d1, d2] }
  | _ => none }
def FnExactFocusAtWrongFalsely : Prop := fnExactFocusAtRow.holds Try.pinned (OpenSpec.ofChange fnExactFocusAtWrong)

/-- 'laws.FnExactIsFocus': WHATEVER THE INPUT: true; the input reads as it did. -/
def fnExactIsFocusSpec : ChangeSpec := { name := "fnExactIsFocus", fn := fun _ => fun
  | [d] => { results := [.lit (.bool true)], args := [d] }
  | _ => none }
def fnExactIsFocusRow : OpenClaim := { program := "ytaogaigpnmpdcaa", sum := "03098d90ac60adc30739333964bfddd4b0ef693c40caa7b2db6b5a3941507fc0", func := "loop.example/g01104/laws.FnExactIsFocus", spec := "fnExactIsFocus", recurses := true, apart := false }
def FnExactIsFocusSaid : Prop := fnExactIsFocusRow.holds Try.pinned (OpenSpec.ofChange fnExactIsFocusSpec)

/-- ITS FALSE NEIGHBOUR: 'it returns false'. Refute it at one input. -/
def fnExactIsFocusWrong : ChangeSpec := { name := "fnExactIsFocus", fn := fun _ => fun
  | [d] => { results := [.lit (.bool false)], args := [d] }
  | _ => none }
def FnExactIsFocusWrongFalsely : Prop := fnExactIsFocusRow.holds Try.pinned (OpenSpec.ofChange fnExactIsFocusWrong)

/-- 'laws.FnExactSwapperAt': WHATEVER THE INPUT: true; the input reads as it did. -/
def fnExactSwapperAtSpec : ChangeSpec := { name := "fnExactSwapperAt", fn := fun _ => fun
  | [d1, d2] => { results := [.lit (.bool true)], args := [d1, d2] }
  | _ => none }
def fnExactSwapperAtRow : OpenClaim := { program := "ytaogaigpnmpdcaa", sum := "03098d90ac60adc30739333964bfddd4b0ef693c40caa7b2db6b5a3941507fc0", func := "loop.example/g01104/laws.FnExactSwapperAt", spec := "fnExactSwapperAt", recurses := true, apart := false }
def FnExactSwapperAtSaid : Prop := fnExactSwapperAtRow.holds Try.pinned (OpenSpec.ofChange fnExactSwapperAtSpec)

/-- ITS FALSE NEIGHBOUR: 'it returns false'. Refute it at one input. -/
def fnExactSwapperAtWrong : ChangeSpec := { name := "fnExactSwapperAt", fn := fun _ => fun
  | [d1, d2] => { results := [.lit (.bool false)], args := [d1, d2] }
  | _ => none }
def FnExactSwapperAtWrongFalsely : Prop := fnExactSwapperAtRow.holds Try.pinned (OpenSpec.ofChange fnExactSwapperAtWrong)

/-- 'laws.FnExactFocusRank': WHATEVER THE INPUT: true; the input reads as it did. -/
def fnExactFocusRankSpec : ChangeSpec := { name := "fnExactFocusRank", fn := fun _ => fun
  | [d] => { results := [.lit (.bool true)], args := [d] }
  | _ => none }
def fnExactFocusRankRow : OpenClaim := { program := "ytaogaigpnmpdcaa", sum := "03098d90ac60adc30739333964bfddd4b0ef693c40caa7b2db6b5a3941507fc0", func := "loop.example/g01104/laws.FnExactFocusRank", spec := "fnExactFocusRank", recurses := true, apart := false }
def FnExactFocusRankSaid : Prop := fnExactFocusRankRow.holds Try.pinned (OpenSpec.ofChange fnExactFocusRankSpec)

/-- ITS FALSE NEIGHBOUR: 'it returns false'. Refute it at one input. -/
def fnExactFocusRankWrong : ChangeSpec := { name := "fnExactFocusRank", fn := fun _ => fun
  | [d] => { results := [.lit (.bool false)], args := [d] }
  | _ => none }
def FnExactFocusRankWrongFalsely : Prop := fnExactFocusRankRow.holds Try.pinned (OpenSpec.ofChange fnExactFocusRankWrong)

/-- 'laws.FnExactIsLastFocus': WHATEVER THE INPUT: true; the input reads as it did. -/
def fnExactIsLastFocusSpec : ChangeSpec := { name := "fnExactIsLastFocus", fn := fun _ => fun
  | [d] => { results := [.lit (.bool true)], args := [d] }
  | _ => none }
def fnExactIsLastFocusRow : OpenClaim := { program := "ytaogaigpnmpdcaa", sum := "03098d90ac60adc30739333964bfddd4b0ef693c40caa7b2db6b5a3941507fc0", func := "loop.example/g01104/laws.FnExactIsLastFocus", spec := "fnExactIsLastFocus", recurses := true, apart := false }
def FnExactIsLastFocusSaid : Prop := fnExactIsLastFocusRow.holds Try.pinned (OpenSpec.ofChange fnExactIsLastFocusSpec)

/-- ITS FALSE NEIGHBOUR: 'it returns false'. Refute it at one input. -/
def fnExactIsLastFocusWrong : ChangeSpec := { name := "fnExactIsLastFocus", fn := fun _ => fun
  | [d] => { results := [.lit (.bool false)], args := [d] }
  | _ => none }
def FnExactIsLastFocusWrongFalsely : Prop := fnExactIsLastFocusRow.holds Try.pinned (OpenSpec.ofChange fnExactIsLastFocusWrong)

/-- 'laws.FnExactStepFocus': WHATEVER THE INPUT: true; the input reads as it did. -/
def fnExactStepFocusSpec : ChangeSpec := { name := "fnExactStepFocus", fn := fun _ => fun
  | [d] => { results := [.lit (.bool true)], args := [d] }
  | _ => none }
def fnExactStepFocusRow : OpenClaim := { program := "ytaogaigpnmpdcaa", sum := "03098d90ac60adc30739333964bfddd4b0ef693c40caa7b2db6b5a3941507fc0", func := "loop.example/g01104/laws.FnExactStepFocus", spec := "fnExactStepFocus", recurses := true, apart := false }
def FnExactStepFocusSaid : Prop := fnExactStepFocusRow.holds Try.pinned (OpenSpec.ofChange fnExactStepFocusSpec)

/-- ITS FALSE NEIGHBOUR: 'it returns false'. Refute it at one input. -/
def fnExactStepFocusWrong : ChangeSpec := { name := "fnExactStepFocus", fn := fun _ => fun
  | [d] => { results := [.lit (.bool false)], args := [d] }
  | _ => none }
def FnExactStepFocusWrongFalsely : Prop := fnExactStepFocusRow.holds Try.pinned (OpenSpec.ofChange fnExactStepFocusWrong)

/-- 'laws.FnExactIsSwapper': WHATEVER THE INPUT: true; the input reads as it did. -/
def fnExactIsSwapperSpec : ChangeSpec := { name := "fnExactIsSwapper", fn := fun _ => fun
  | [d] => { results := [.lit (.bool true)], args := [d] }
  | _ => none }
def fnExactIsSwapperRow : OpenClaim := { program := "ytaogaigpnmpdcaa", sum := "03098d90ac60adc30739333964bfddd4b0ef693c40caa7b2db6b5a3941507fc0", func := "loop.example/g01104/laws.FnExactIsSwapper", spec := "fnExactIsSwapper", recurses := true, apart := false }
def FnExactIsSwapperSaid : Prop := fnExactIsSwapperRow.holds Try.pinned (OpenSpec.ofChange fnExactIsSwapperSpec)

/-- ITS FALSE NEIGHBOUR: 'it returns false'. Refute it at one input. -/
def fnExactIsSwapperWrong : ChangeSpec := { name := "fnExactIsSwapper", fn := fun _ => fun
  | [d] => { results := [.lit (.bool false)], args := [d] }
  | _ => none }
def FnExactIsSwapperWrongFalsely : Prop := fnExactIsSwapperRow.holds Try.pinned (OpenSpec.ofChange fnExactIsSwapperWrong)

/-- 'laws.FnExactSwapperRank': WHATEVER THE INPUT: true; the input reads as it did. -/
def fnExactSwapperRankSpec : ChangeSpec := { name := "fnExactSwapperRank", fn := fun _ => fun
  | [d] => { results := [.lit (.bool true)], args := [d] }
  | _ => none }
def fnExactSwapperRankRow : OpenClaim := { program := "ytaogaigpnmpdcaa", sum := "03098d90ac60adc30739333964bfddd4b0ef693c40caa7b2db6b5a3941507fc0", func := "loop.example/g01104/laws.FnExactSwapperRank", spec := "fnExactSwapperRank", recurses := true, apart := false }
def FnExactSwapperRankSaid : Prop := fnExactSwapperRankRow.holds Try.pinned (OpenSpec.ofChange fnExactSwapperRankSpec)

/-- ITS FALSE NEIGHBOUR: 'it returns false'. Refute it at one input. -/
def fnExactSwapperRankWrong : ChangeSpec := { name := "fnExactSwapperRank", fn := fun _ => fun
  | [d] => { results := [.lit (.bool false)], args := [d] }
  | _ => none }
def FnExactSwapperRankWrongFalsely : Prop := fnExactSwapperRankRow.holds Try.pinned (OpenSpec.ofChange fnExactSwapperRankWrong)

/-- 'laws.FnExactStepSwapper': WHATEVER THE INPUT: true; the input reads as it did. -/
def fnExactStepSwapperSpec : ChangeSpec := { name := "fnExactStepSwapper", fn := fun _ => fun
  | [d] => { results := [.lit (.bool true)], args := [d] }
  | _ => none }
def fnExactStepSwapperRow : OpenClaim := { program := "ytaogaigpnmpdcaa", sum := "03098d90ac60adc30739333964bfddd4b0ef693c40caa7b2db6b5a3941507fc0", func := "loop.example/g01104/laws.FnExactStepSwapper", spec := "fnExactStepSwapper", recurses := true, apart := false }
def FnExactStepSwapperSaid : Prop := fnExactStepSwapperRow.holds Try.pinned (OpenSpec.ofChange fnExactStepSwapperSpec)

/-- ITS FALSE NEIGHBOUR: 'it returns false'. Refute it at one input. -/
def fnExactStepSwapperWrong : ChangeSpec := { name := "fnExactStepSwapper", fn := fun _ => fun
  | [d] => { results := [.lit (.bool false)], args := [d] }
  | _ => none }
def FnExactStepSwapperWrongFalsely : Prop := fnExactStepSwapperRow.holds Try.pinned (OpenSpec.ofChange fnExactStepSwapperWrong)

/- THE SECOND FORM. 'bulk': how many values and letters a reading holds, each counted each time it is reached (what is shared counts as often as it is met; a slice's spare places count too). A statement '..UptoSaid' is the law's where the arguments, and the package variables that the reading takes, are together of bulk at most 1048576: NARROWER than '..Said'. Prove '..Said' where nothing that the law and all that it calls make is longer than what came in: it says more and counts as full. Else prove '..UptoSaid'. A law counts once. -/
mutual
def uptoBulk {H : Type} : DataW H → Nat
  | .lit (.string bytes) => bytes.length + 1
  | .lit _ => 1
  | .nil => 1
  | .ptr d => uptoBulk d + 1
  | .slice elems spare => uptoBulkAll elems + uptoBulkAll spare + 1
  | .agg parts => uptoBulkAll parts + 1
  | .iface _ d => uptoBulk d + 1
  | .map entries => uptoBulkEntries entries + 1
  | .held _ => 1
def uptoBulkAll {H : Type} : List (DataW H) → Nat
  | [] => 0
  | d :: r => uptoBulk d + uptoBulkAll r
def uptoBulkEntries {H : Type} : List (Lit × DataW H) → Nat
  | [] => 0
  | x :: r => uptoBulkEntry x + uptoBulkEntries r
def uptoBulkEntry {H : Type} : Lit × DataW H → Nat
  | (.string bytes, d) => bytes.length + uptoBulk d + 1
  | (_, d) => uptoBulk d + 1
 end
def uptoSmall : (H : Type) → List (DataW H) → Bool := fun _ ds => decide (uptoBulkAll ds ≤ 1048576)
def OpenSpec.upto (s : _root_.Go.ChangeSpec) : _root_.Go.OpenSpec := { _root_.Go.OpenSpec.ofChange s with cond := some uptoSmall }

/-- 'laws.FnExactRunFocus', WHERE WHAT IT READS IS OF BULK AT MOST 1048576: true; the input reads as it did. -/
def fnExactRunFocusUptoRow : OpenClaim := { program := "ytaogaigpnmpdcaa", sum := "03098d90ac60adc30739333964bfddd4b0ef693c40caa7b2db6b5a3941507fc0", func := "loop.example/g01104/laws.FnExactRunFocus", spec := "fnExactRunFocus", apart := false, narrowed := true }
def FnExactRunFocusUptoSaid : Prop := fnExactRunFocusUptoRow.holds Try.pinned (OpenSpec.upto fnExactRunFocusSpec)

/-- 'laws.FnExactStartFocus', WHERE WHAT IT READS IS OF BULK AT MOST 1048576: true; the input reads as it did. -/
def fnExactStartFocusUptoRow : OpenClaim := { program := "ytaogaigpnmpdcaa", sum := "03098d90ac60adc30739333964bfddd4b0ef693c40caa7b2db6b5a3941507fc0", func := "loop.example/g01104/laws.FnExactStartFocus", spec := "fnExactStartFocus", apart := false, narrowed := true }
def FnExactStartFocusUptoSaid : Prop := fnExactStartFocusUptoRow.holds Try.pinned (OpenSpec.upto fnExactStartFocusSpec)

/-- 'laws.FnExactStartSwapper', WHERE WHAT IT READS IS OF BULK AT MOST 1048576: true; the input reads as it did. -/
def fnExactStartSwapperUptoRow : OpenClaim := { program := "ytaogaigpnmpdcaa", sum := "03098d90ac60adc30739333964bfddd4b0ef693c40caa7b2db6b5a3941507fc0", func := "loop.example/g01104/laws.FnExactStartSwapper", spec := "fnExactStartSwapper", apart := false, narrowed := true }
def FnExactStartSwapperUptoSaid : Prop := fnExactStartSwapperUptoRow.holds Try.pinned (OpenSpec.upto fnExactStartSwapperSpec)

/-- 'laws.FnExactCountTurns', WHERE WHAT IT READS IS OF BULK AT MOST 1048576: true; the input reads as it did. -/
def fnExactCountTurnsUptoRow : OpenClaim := { program := "ytaogaigpnmpdcaa", sum := "03098d90ac60adc30739333964bfddd4b0ef693c40caa7b2db6b5a3941507fc0", func := "loop.example/g01104/laws.FnExactCountTurns", spec := "fnExactCountTurns", apart := false, narrowed := true }
def FnExactCountTurnsUptoSaid : Prop := fnExactCountTurnsUptoRow.holds Try.pinned (OpenSpec.upto fnExactCountTurnsSpec)

/-- 'laws.FnExactRunSwapper', WHERE WHAT IT READS IS OF BULK AT MOST 1048576: true; the input reads as it did. -/
def fnExactRunSwapperUptoRow : OpenClaim := { program := "ytaogaigpnmpdcaa", sum := "03098d90ac60adc30739333964bfddd4b0ef693c40caa7b2db6b5a3941507fc0", func := "loop.example/g01104/laws.FnExactRunSwapper", spec := "fnExactRunSwapper", apart := false, narrowed := true }
def FnExactRunSwapperUptoSaid : Prop := fnExactRunSwapperUptoRow.holds Try.pinned (OpenSpec.upto fnExactRunSwapperSpec)

/-- 'laws.FnExactFocusAt', WHERE WHAT IT READS IS OF BULK AT MOST 1048576: true; the input reads as it did. -/
def fnExactFocusAtUptoRow : OpenClaim := { program := "ytaogaigpnmpdcaa", sum := "03098d90ac60adc30739333964bfddd4b0ef693c40caa7b2db6b5a3941507fc0", func := "loop.example/g01104/laws.FnExactFocusAt", spec := "fnExactFocusAt", apart := false, narrowed := true }
def FnExactFocusAtUptoSaid : Prop := fnExactFocusAtUptoRow.holds Try.pinned (OpenSpec.upto fnExactFocusAtSpec)

/-- 'laws.FnExactIsFocus', WHERE WHAT IT READS IS OF BULK AT MOST 1048576: true; the input reads as it did. -/
def fnExactIsFocusUptoRow : OpenClaim := { program := "ytaogaigpnmpdcaa", sum := "03098d90ac60adc30739333964bfddd4b0ef693c40caa7b2db6b5a3941507fc0", func := "loop.example/g01104/laws.FnExactIsFocus", spec := "fnExactIsFocus", recurses := true, apart := false, narrowed := true }
def FnExactIsFocusUptoSaid : Prop := fnExactIsFocusUptoRow.holds Try.pinned (OpenSpec.upto fnExactIsFocusSpec)

/-- 'laws.FnExactSwapperAt', WHERE WHAT IT READS IS OF BULK AT MOST 1048576: true; the input reads as it did. -/
def fnExactSwapperAtUptoRow : OpenClaim := { program := "ytaogaigpnmpdcaa", sum := "03098d90ac60adc30739333964bfddd4b0ef693c40caa7b2db6b5a3941507fc0", func := "loop.example/g01104/laws.FnExactSwapperAt", spec := "fnExactSwapperAt", recurses := true, apart := false, narrowed := true }
def FnExactSwapperAtUptoSaid : Prop := fnExactSwapperAtUptoRow.holds Try.pinned (OpenSpec.upto fnExactSwapperAtSpec)

/-- 'laws.FnExactFocusRank', WHERE WHAT IT READS IS OF BULK AT MOST 1048576: true; the input reads as it did. -/
def fnExactFocusRankUptoRow : OpenClaim := { program := "ytaogaigpnmpdcaa", sum := "03098d90ac60adc30739333964bfddd4b0ef693c40caa7b2db6b5a3941507fc0", func := "loop.example/g01104/laws.FnExactFocusRank", spec := "fnExactFocusRank", recurses := true, apart := false, narrowed := true }
def FnExactFocusRankUptoSaid : Prop := fnExactFocusRankUptoRow.holds Try.pinned (OpenSpec.upto fnExactFocusRankSpec)

/-- 'laws.FnExactIsLastFocus', WHERE WHAT IT READS IS OF BULK AT MOST 1048576: true; the input reads as it did. -/
def fnExactIsLastFocusUptoRow : OpenClaim := { program := "ytaogaigpnmpdcaa", sum := "03098d90ac60adc30739333964bfddd4b0ef693c40caa7b2db6b5a3941507fc0", func := "loop.example/g01104/laws.FnExactIsLastFocus", spec := "fnExactIsLastFocus", recurses := true, apart := false, narrowed := true }
def FnExactIsLastFocusUptoSaid : Prop := fnExactIsLastFocusUptoRow.holds Try.pinned (OpenSpec.upto fnExactIsLastFocusSpec)

/-- 'laws.FnExactStepFocus', WHERE WHAT IT READS IS OF BULK AT MOST 1048576: true; the input reads as it did. -/
def fnExactStepFocusUptoRow : OpenClaim := { program := "ytaogaigpnmpdcaa", sum := "03098d90ac60adc30739333964bfddd4b0ef693c40caa7b2db6b5a3941507fc0", func := "loop.example/g01104/laws.FnExactStepFocus", spec := "fnExactStepFocus", recurses := true, apart := false, narrowed := true }
def FnExactStepFocusUptoSaid : Prop := fnExactStepFocusUptoRow.holds Try.pinned (OpenSpec.upto fnExactStepFocusSpec)

/-- 'laws.FnExactIsSwapper', WHERE WHAT IT READS IS OF BULK AT MOST 1048576: true; the input reads as it did. -/
def fnExactIsSwapperUptoRow : OpenClaim := { program := "ytaogaigpnmpdcaa", sum := "03098d90ac60adc30739333964bfddd4b0ef693c40caa7b2db6b5a3941507fc0", func := "loop.example/g01104/laws.FnExactIsSwapper", spec := "fnExactIsSwapper", recurses := true, apart := false, narrowed := true }
def FnExactIsSwapperUptoSaid : Prop := fnExactIsSwapperUptoRow.holds Try.pinned (OpenSpec.upto fnExactIsSwapperSpec)

/-- 'laws.FnExactSwapperRank', WHERE WHAT IT READS IS OF BULK AT MOST 1048576: true; the input reads as it did. -/
def fnExactSwapperRankUptoRow : OpenClaim := { program := "ytaogaigpnmpdcaa", sum := "03098d90ac60adc30739333964bfddd4b0ef693c40caa7b2db6b5a3941507fc0", func := "loop.example/g01104/laws.FnExactSwapperRank", spec := "fnExactSwapperRank", recurses := true, apart := false, narrowed := true }
def FnExactSwapperRankUptoSaid : Prop := fnExactSwapperRankUptoRow.holds Try.pinned (OpenSpec.upto fnExactSwapperRankSpec)

/-- 'laws.FnExactStepSwapper', WHERE WHAT IT READS IS OF BULK AT MOST 1048576: true; the input reads as it did. -/
def fnExactStepSwapperUptoRow : OpenClaim := { program := "ytaogaigpnmpdcaa", sum := "03098d90ac60adc30739333964bfddd4b0ef693c40caa7b2db6b5a3941507fc0", func := "loop.example/g01104/laws.FnExactStepSwapper", spec := "fnExactStepSwapper", recurses := true, apart := false, narrowed := true }
def FnExactStepSwapperUptoSaid : Prop := fnExactStepSwapperUptoRow.holds Try.pinned (OpenSpec.upto fnExactStepSwapperSpec)

end Rows
end Go.Proofs.Ytaogaigpnmpdcaa
