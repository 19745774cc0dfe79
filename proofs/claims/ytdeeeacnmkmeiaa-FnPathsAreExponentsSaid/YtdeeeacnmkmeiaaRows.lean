/-
  No cell of these rows narrows 'for every input' (looked for: loops, veiled, ifaces, maps, wideKeys, modest, calm, conditions, laid).
  DERIVED. THE GIVEN ROWS OF THIS SEAT. 12 by the template 'for every input the law returns true; each argument reads behind the call as it read before'; 0 by the template 'total and deterministic' (their statements: YtdeeeacnmkmeiaaTotals.lean).
  GIVEN WITH THE SEED: the statements are not yours to turn. If you find one false, say at which input.
  Laid BY PROGRAM, IN A SANDBOX (cutbox-rows.mjs): the forced cells as the released guide's own fill.sh prints them over the translation 7426611286233ce4… (all of the seat's roots in one cut). By AI agents, Wed Nov 11 2026. No macro, syntax, notation, axiom, sorry.
-/
import Derived.Test.YtdeeeacnmkmeiaaChecked
import GoSem.Claim
import GoSem.ClaimJoined
import GoSem.ClaimMapViews
import Derived.JoinedTies
import Derived.KernelRfl
namespace Go.Proofs.Ytdeeeacnmkmeiaa
/- THE CELL 'sum', in the pinned program and in every row, IS THE sha256 OF THE DUMP (.gsa) THAT YtdeeeacnmkmeiaaProg.lean LOADS. Nothing in Lean hashes anything: it is a label: what it is worth is what the hold of that sum in a sandbox is worth. -/
noncomputable def Try.pinned : Pinned := { name := "ytdeeeacnmkmeiaa", sum := "7426611286233ce4b18a1ef245cd1c2fb2c5524a1aa5cef1250b17a660687e5b", checked := Try.checked }
namespace Rows
def none {H : Type} : Left H := { results := [], args := [] }

/-- 'laws.FnPathsAreExponents': WHATEVER THE INPUT: true; the input reads as it did. -/
def fnPathsAreExponentsSpec : ChangeSpec := { name := "fnPathsAreExponents", fn := fun _ => fun
  | [d1, d2] => { results := [.lit (.bool true)], args := [d1, d2] }
  | _ => none }
def fnPathsAreExponentsRow : OpenClaim := { program := "ytdeeeacnmkmeiaa", sum := "7426611286233ce4b18a1ef245cd1c2fb2c5524a1aa5cef1250b17a660687e5b", func := "loop.example/g01098/laws.FnPathsAreExponents", spec := "fnPathsAreExponents", unfollowed := true, recurses := true, apart := false }
def FnPathsAreExponentsSaid : Prop := fnPathsAreExponentsRow.holds Try.pinned (OpenSpec.ofChange fnPathsAreExponentsSpec)

/-- ITS FALSE NEIGHBOUR: 'it returns false'. Refute it at one input. -/
def fnPathsAreExponentsWrong : ChangeSpec := { name := "fnPathsAreExponents", fn := fun _ => fun
  | [d1, d2] => { results := [.lit (.bool false)], args := [d1, d2] }
  | _ => none }
def FnPathsAreExponentsWrongFalsely : Prop := fnPathsAreExponentsRow.holds Try.pinned (OpenSpec.ofChange fnPathsAreExponentsWrong)

/-- 'laws.FnExactCountPaths': WHATEVER THE INPUT: true; the input reads as it did. -/
def fnExactCountPathsSpec : ChangeSpec := { name := "fnExactCountPaths", fn := fun _ => fun
  | [d1, d2, d3] => { results := [.lit (.bool true)], args := [d1, d2, d3] }
  | _ => none }
def fnExactCountPathsRow : OpenClaim := { program := "ytdeeeacnmkmeiaa", sum := "7426611286233ce4b18a1ef245cd1c2fb2c5524a1aa5cef1250b17a660687e5b", func := "loop.example/g01098/laws.FnExactCountPaths", spec := "fnExactCountPaths", unfollowed := true, recurses := true, apart := false }
def FnExactCountPathsSaid : Prop := fnExactCountPathsRow.holds Try.pinned (OpenSpec.ofChange fnExactCountPathsSpec)

/-- ITS FALSE NEIGHBOUR: 'it returns false'. Refute it at one input. -/
def fnExactCountPathsWrong : ChangeSpec := { name := "fnExactCountPaths", fn := fun _ => fun
  | [d1, d2, d3] => { results := [.lit (.bool false)], args := [d1, d2, d3] }
  | _ => none }
def FnExactCountPathsWrongFalsely : Prop := fnExactCountPathsRow.holds Try.pinned (OpenSpec.ofChange fnExactCountPathsWrong)

/-- 'laws.FnExactCanTurn': WHATEVER THE INPUT: true; the input reads as it did. -/
def fnExactCanTurnSpec : ChangeSpec := { name := "fnExactCanTurn", fn := fun _ => fun
  | [d] => { results := [.lit (.bool true)], args := [d] }
  | _ => none }
def fnExactCanTurnRow : OpenClaim := { program := "ytdeeeacnmkmeiaa", sum := "7426611286233ce4b18a1ef245cd1c2fb2c5524a1aa5cef1250b17a660687e5b", func := "loop.example/g01098/laws.FnExactCanTurn", spec := "fnExactCanTurn", unfollowed := true, recurses := true, apart := false }
def FnExactCanTurnSaid : Prop := fnExactCanTurnRow.holds Try.pinned (OpenSpec.ofChange fnExactCanTurnSpec)

/-- ITS FALSE NEIGHBOUR: 'it returns false'. Refute it at one input. -/
def fnExactCanTurnWrong : ChangeSpec := { name := "fnExactCanTurn", fn := fun _ => fun
  | [d] => { results := [.lit (.bool false)], args := [d] }
  | _ => none }
def FnExactCanTurnWrongFalsely : Prop := fnExactCanTurnRow.holds Try.pinned (OpenSpec.ofChange fnExactCanTurnWrong)

/-- 'laws.FnExactUsesOf': WHATEVER THE INPUT: true; the input reads as it did. -/
def fnExactUsesOfSpec : ChangeSpec := { name := "fnExactUsesOf", fn := fun _ => fun
  | [d] => { results := [.lit (.bool true)], args := [d] }
  | _ => none }
def fnExactUsesOfRow : OpenClaim := { program := "ytdeeeacnmkmeiaa", sum := "7426611286233ce4b18a1ef245cd1c2fb2c5524a1aa5cef1250b17a660687e5b", func := "loop.example/g01098/laws.FnExactUsesOf", spec := "fnExactUsesOf", unfollowed := true, recurses := true, apart := false }
def FnExactUsesOfSaid : Prop := fnExactUsesOfRow.holds Try.pinned (OpenSpec.ofChange fnExactUsesOfSpec)

/-- ITS FALSE NEIGHBOUR: 'it returns false'. Refute it at one input. -/
def fnExactUsesOfWrong : ChangeSpec := { name := "fnExactUsesOf", fn := fun _ => fun
  | [d] => { results := [.lit (.bool false)], args := [d] }
  | _ => none }
def FnExactUsesOfWrongFalsely : Prop := fnExactUsesOfRow.holds Try.pinned (OpenSpec.ofChange fnExactUsesOfWrong)

/-- 'laws.FnExactWidthOf': WHATEVER THE INPUT: true; the input reads as it did. -/
def fnExactWidthOfSpec : ChangeSpec := { name := "fnExactWidthOf", fn := fun _ => fun
  | [d] => { results := [.lit (.bool true)], args := [d] }
  | _ => none }
def fnExactWidthOfRow : OpenClaim := { program := "ytdeeeacnmkmeiaa", sum := "7426611286233ce4b18a1ef245cd1c2fb2c5524a1aa5cef1250b17a660687e5b", func := "loop.example/g01098/laws.FnExactWidthOf", spec := "fnExactWidthOf", unfollowed := true, recurses := true, apart := false }
def FnExactWidthOfSaid : Prop := fnExactWidthOfRow.holds Try.pinned (OpenSpec.ofChange fnExactWidthOfSpec)

/-- ITS FALSE NEIGHBOUR: 'it returns false'. Refute it at one input. -/
def fnExactWidthOfWrong : ChangeSpec := { name := "fnExactWidthOf", fn := fun _ => fun
  | [d] => { results := [.lit (.bool false)], args := [d] }
  | _ => none }
def FnExactWidthOfWrongFalsely : Prop := fnExactWidthOfRow.holds Try.pinned (OpenSpec.ofChange fnExactWidthOfWrong)

/-- 'laws.FnExactLiveAt': WHATEVER THE INPUT: true; the input reads as it did. -/
def fnExactLiveAtSpec : ChangeSpec := { name := "fnExactLiveAt", fn := fun _ => fun
  | [d1, d2] => { results := [.lit (.bool true)], args := [d1, d2] }
  | _ => none }
def fnExactLiveAtRow : OpenClaim := { program := "ytdeeeacnmkmeiaa", sum := "7426611286233ce4b18a1ef245cd1c2fb2c5524a1aa5cef1250b17a660687e5b", func := "loop.example/g01098/laws.FnExactLiveAt", spec := "fnExactLiveAt", unfollowed := true, recurses := true, apart := false }
def FnExactLiveAtSaid : Prop := fnExactLiveAtRow.holds Try.pinned (OpenSpec.ofChange fnExactLiveAtSpec)

/-- ITS FALSE NEIGHBOUR: 'it returns false'. Refute it at one input. -/
def fnExactLiveAtWrong : ChangeSpec := { name := "fnExactLiveAt", fn := fun _ => fun
  | [d1, d2] => { results := [.lit (.bool false)], args := [d1, d2] }
  | _ => none }
def FnExactLiveAtWrongFalsely : Prop := fnExactLiveAtRow.holds Try.pinned (OpenSpec.ofChange fnExactLiveAtWrong)

/-- 'laws.FnExactRunResidues': WHATEVER THE INPUT: true; the input reads as it did. -/
def fnExactRunResiduesSpec : ChangeSpec := { name := "fnExactRunResidues", fn := fun _ => fun
  | [d1, d2, d3] => { results := [.lit (.bool true)], args := [d1, d2, d3] }
  | _ => none }
def fnExactRunResiduesRow : OpenClaim := { program := "ytdeeeacnmkmeiaa", sum := "7426611286233ce4b18a1ef245cd1c2fb2c5524a1aa5cef1250b17a660687e5b", func := "loop.example/g01098/laws.FnExactRunResidues", spec := "fnExactRunResidues", unfollowed := true, recurses := true, apart := false }
def FnExactRunResiduesSaid : Prop := fnExactRunResiduesRow.holds Try.pinned (OpenSpec.ofChange fnExactRunResiduesSpec)

/-- ITS FALSE NEIGHBOUR: 'it returns false'. Refute it at one input. -/
def fnExactRunResiduesWrong : ChangeSpec := { name := "fnExactRunResidues", fn := fun _ => fun
  | [d1, d2, d3] => { results := [.lit (.bool false)], args := [d1, d2, d3] }
  | _ => none }
def FnExactRunResiduesWrongFalsely : Prop := fnExactRunResiduesRow.holds Try.pinned (OpenSpec.ofChange fnExactRunResiduesWrong)

/-- 'laws.FnExactWordLengths': WHATEVER THE INPUT: true; the input reads as it did. -/
def fnExactWordLengthsSpec : ChangeSpec := { name := "fnExactWordLengths", fn := fun _ => fun
  | [d1, d2] => { results := [.lit (.bool true)], args := [d1, d2] }
  | _ => none }
def fnExactWordLengthsRow : OpenClaim := { program := "ytdeeeacnmkmeiaa", sum := "7426611286233ce4b18a1ef245cd1c2fb2c5524a1aa5cef1250b17a660687e5b", func := "loop.example/g01098/laws.FnExactWordLengths", spec := "fnExactWordLengths", unfollowed := true, recurses := true, apart := false }
def FnExactWordLengthsSaid : Prop := fnExactWordLengthsRow.holds Try.pinned (OpenSpec.ofChange fnExactWordLengthsSpec)

/-- ITS FALSE NEIGHBOUR: 'it returns false'. Refute it at one input. -/
def fnExactWordLengthsWrong : ChangeSpec := { name := "fnExactWordLengths", fn := fun _ => fun
  | [d1, d2] => { results := [.lit (.bool false)], args := [d1, d2] }
  | _ => none }
def FnExactWordLengthsWrongFalsely : Prop := fnExactWordLengthsRow.holds Try.pinned (OpenSpec.ofChange fnExactWordLengthsWrong)

/-- 'laws.FnExactNeededAfter': WHATEVER THE INPUT: true; the input reads as it did. -/
def fnExactNeededAfterSpec : ChangeSpec := { name := "fnExactNeededAfter", fn := fun _ => fun
  | [d1, d2] => { results := [.lit (.bool true)], args := [d1, d2] }
  | _ => none }
def fnExactNeededAfterRow : OpenClaim := { program := "ytdeeeacnmkmeiaa", sum := "7426611286233ce4b18a1ef245cd1c2fb2c5524a1aa5cef1250b17a660687e5b", func := "loop.example/g01098/laws.FnExactNeededAfter", spec := "fnExactNeededAfter", unfollowed := true, recurses := true, apart := false }
def FnExactNeededAfterSaid : Prop := fnExactNeededAfterRow.holds Try.pinned (OpenSpec.ofChange fnExactNeededAfterSpec)

/-- ITS FALSE NEIGHBOUR: 'it returns false'. Refute it at one input. -/
def fnExactNeededAfterWrong : ChangeSpec := { name := "fnExactNeededAfter", fn := fun _ => fun
  | [d1, d2] => { results := [.lit (.bool false)], args := [d1, d2] }
  | _ => none }
def FnExactNeededAfterWrongFalsely : Prop := fnExactNeededAfterRow.holds Try.pinned (OpenSpec.ofChange fnExactNeededAfterWrong)

/-- 'laws.FnExactCountOrders': WHATEVER THE INPUT: true; the input reads as it did. -/
def fnExactCountOrdersSpec : ChangeSpec := { name := "fnExactCountOrders", fn := fun _ => fun
  | [d] => { results := [.lit (.bool true)], args := [d] }
  | _ => none }
def fnExactCountOrdersRow : OpenClaim := { program := "ytdeeeacnmkmeiaa", sum := "7426611286233ce4b18a1ef245cd1c2fb2c5524a1aa5cef1250b17a660687e5b", func := "loop.example/g01098/laws.FnExactCountOrders", spec := "fnExactCountOrders", unfollowed := true, recurses := true, apart := false }
def FnExactCountOrdersSaid : Prop := fnExactCountOrdersRow.holds Try.pinned (OpenSpec.ofChange fnExactCountOrdersSpec)

/-- ITS FALSE NEIGHBOUR: 'it returns false'. Refute it at one input. -/
def fnExactCountOrdersWrong : ChangeSpec := { name := "fnExactCountOrders", fn := fun _ => fun
  | [d] => { results := [.lit (.bool false)], args := [d] }
  | _ => none }
def FnExactCountOrdersWrongFalsely : Prop := fnExactCountOrdersRow.holds Try.pinned (OpenSpec.ofChange fnExactCountOrdersWrong)

/-- 'laws.FnExactPressureOf': WHATEVER THE INPUT: true; the input reads as it did. -/
def fnExactPressureOfSpec : ChangeSpec := { name := "fnExactPressureOf", fn := fun _ => fun
  | [d] => { results := [.lit (.bool true)], args := [d] }
  | _ => none }
def fnExactPressureOfRow : OpenClaim := { program := "ytdeeeacnmkmeiaa", sum := "7426611286233ce4b18a1ef245cd1c2fb2c5524a1aa5cef1250b17a660687e5b", func := "loop.example/g01098/laws.FnExactPressureOf", spec := "fnExactPressureOf", unfollowed := true, recurses := true, apart := false }
def FnExactPressureOfSaid : Prop := fnExactPressureOfRow.holds Try.pinned (OpenSpec.ofChange fnExactPressureOfSpec)

/-- ITS FALSE NEIGHBOUR: 'it returns false'. Refute it at one input. -/
def fnExactPressureOfWrong : ChangeSpec := { name := "fnExactPressureOf", fn := fun _ => fun
  | [d] => { results := [.lit (.bool false)], args := [d] }
  | _ => none }
def FnExactPressureOfWrongFalsely : Prop := fnExactPressureOfRow.holds Try.pinned (OpenSpec.ofChange fnExactPressureOfWrong)

/-- 'laws.FnExactRunMatrices': WHATEVER THE INPUT: true; the input reads as it did. -/
def fnExactRunMatricesSpec : ChangeSpec := { name := "fnExactRunMatrices", fn := fun _ => fun
  | [d1, d2, d3] => { results := [.lit (.bool true)], args := [d1, d2, d3] }
  | _ => none }
def fnExactRunMatricesRow : OpenClaim := { program := "ytdeeeacnmkmeiaa", sum := "7426611286233ce4b18a1ef245cd1c2fb2c5524a1aa5cef1250b17a660687e5b", func := "loop.example/g01098/laws.FnExactRunMatrices", spec := "fnExactRunMatrices", unfollowed := true, recurses := true, apart := false }
def FnExactRunMatricesSaid : Prop := fnExactRunMatricesRow.holds Try.pinned (OpenSpec.ofChange fnExactRunMatricesSpec)

/-- ITS FALSE NEIGHBOUR: 'it returns false'. Refute it at one input. -/
def fnExactRunMatricesWrong : ChangeSpec := { name := "fnExactRunMatrices", fn := fun _ => fun
  | [d1, d2, d3] => { results := [.lit (.bool false)], args := [d1, d2, d3] }
  | _ => none }
def FnExactRunMatricesWrongFalsely : Prop := fnExactRunMatricesRow.holds Try.pinned (OpenSpec.ofChange fnExactRunMatricesWrong)

/- THE SECOND FORM. 'bulk': how many values and letters a reading holds, each counted each time it is reached (what is shared counts as often as it is met; a slice's spare places count too). A statement '..UptoSaid' is the law's where the arguments, and the package variables that the reading takes, are together of bulk at most 1048576: NARROWER than '..Said'. Prove '..Said' where nothing that the law and all that it calls make is longer than what came in: it says more and counts as full. Else prove '..UptoSaid'. A law counts once. -/
mutual
def uptoBulk {H : Type} : DataW H → Nat
  | .lit (.string bytes) => bytes.length + 1
  | .lit _ => 1
  | .nil => 1
  | .ptr d => uptoBulk d + 1
  | .slice elems spare => uptoBulkAll elems + uptoBulkAll spare + 1
  | .agg parts => uptoBulkAll parts + 1
  | .iface _ d => uptoBulk d + 1
  | .map entries => uptoBulkEntries entries + 1
  | .held _ => 1
def uptoBulkAll {H : Type} : List (DataW H) → Nat
  | [] => 0
  | d :: r => uptoBulk d + uptoBulkAll r
def uptoBulkEntries {H : Type} : List (Lit × DataW H) → Nat
  | [] => 0
  | x :: r => uptoBulkEntry x + uptoBulkEntries r
def uptoBulkEntry {H : Type} : Lit × DataW H → Nat
  | (.string bytes, d) => bytes.length + uptoBulk d + 1
  | (_, d) => uptoBulk d + 1
 end
def uptoSmall : (H : Type) → List (DataW H) → Bool := fun _ ds => decide (uptoBulkAll ds ≤ 1048576)
def OpenSpec.upto (s : _root_.Go.ChangeSpec) : _root_.Go.OpenSpec := { _root_.Go.OpenSpec.ofChange s with cond := some uptoSmall }

/-- 'laws.FnPathsAreExponents', WHERE WHAT IT READS IS OF BULK AT MOST 1048576: true; the input reads as it did. -/
def fnPathsAreExponentsUptoRow : OpenClaim := { program := "ytdeeeacnmkmeiaa", sum := "7426611286233ce4b18a1ef245cd1c2fb2c5524a1aa5cef1250b17a660687e5b", func := "loop.example/g01098/laws.FnPathsAreExponents", spec := "fnPathsAreExponents", unfollowed := true, recurses := true, apart := false, narrowed := true }
def FnPathsAreExponentsUptoSaid : Prop := fnPathsAreExponentsUptoRow.holds Try.pinned (OpenSpec.upto fnPathsAreExponentsSpec)

/-- 'laws.FnExactCountPaths', WHERE WHAT IT READS IS OF BULK AT MOST 1048576: true; the input reads as it did. -/
def fnExactCountPathsUptoRow : OpenClaim := { program := "ytdeeeacnmkmeiaa", sum := "7426611286233ce4b18a1ef245cd1c2fb2c5524a1aa5cef1250b17a660687e5b", func := "loop.example/g01098/laws.FnExactCountPaths", spec := "fnExactCountPaths", unfollowed := true, recurses := true, apart := false, narrowed := true }
def FnExactCountPathsUptoSaid : Prop := fnExactCountPathsUptoRow.holds Try.pinned (OpenSpec.upto fnExactCountPathsSpec)

/-- 'laws.FnExactCanTurn', WHERE WHAT IT READS IS OF BULK AT MOST 1048576: true; the input reads as it did. -/
def fnExactCanTurnUptoRow : OpenClaim := { program := "ytdeeeacnmkmeiaa", sum := "7426611286233ce4b18a1ef245cd1c2fb2c5524a1aa5cef1250b17a660687e5b", func := "loop.example/g01098/laws.FnExactCanTurn", spec := "fnExactCanTurn", unfollowed := true, recurses := true, apart := false, narrowed := true }
def FnExactCanTurnUptoSaid : Prop := fnExactCanTurnUptoRow.holds Try.pinned (OpenSpec.upto fnExactCanTurnSpec)

/-- 'laws.FnExactUsesOf', WHERE WHAT IT READS IS OF BULK AT MOST 1048576: true; the input reads as it did. -/
def fnExactUsesOfUptoRow : OpenClaim := { program := "ytdeeeacnmkmeiaa", sum := "7426611286233ce4b18a1ef245cd1c2fb2c5524a1aa5cef1250b17a660687e5b", func := "loop.example/g01098/laws.FnExactUsesOf", spec := "fnExactUsesOf", unfollowed := true, recurses := true, apart := false, narrowed := true }
def FnExactUsesOfUptoSaid : Prop := fnExactUsesOfUptoRow.holds Try.pinned (OpenSpec.upto fnExactUsesOfSpec)

/-- 'laws.FnExactWidthOf', WHERE WHAT IT READS IS OF BULK AT MOST 1048576: true; the input reads as it did. -/
def fnExactWidthOfUptoRow : OpenClaim := { program := "ytdeeeacnmkmeiaa", sum := "7426611286233ce4b18a1ef245cd1c2fb2c5524a1aa5cef1250b17a660687e5b", func := "loop.example/g01098/laws.FnExactWidthOf", spec := "fnExactWidthOf", unfollowed := true, recurses := true, apart := false, narrowed := true }
def FnExactWidthOfUptoSaid : Prop := fnExactWidthOfUptoRow.holds Try.pinned (OpenSpec.upto fnExactWidthOfSpec)

/-- 'laws.FnExactLiveAt', WHERE WHAT IT READS IS OF BULK AT MOST 1048576: true; the input reads as it did. -/
def fnExactLiveAtUptoRow : OpenClaim := { program := "ytdeeeacnmkmeiaa", sum := "7426611286233ce4b18a1ef245cd1c2fb2c5524a1aa5cef1250b17a660687e5b", func := "loop.example/g01098/laws.FnExactLiveAt", spec := "fnExactLiveAt", unfollowed := true, recurses := true, apart := false, narrowed := true }
def FnExactLiveAtUptoSaid : Prop := fnExactLiveAtUptoRow.holds Try.pinned (OpenSpec.upto fnExactLiveAtSpec)

/-- 'laws.FnExactRunResidues', WHERE WHAT IT READS IS OF BULK AT MOST 1048576: true; the input reads as it did. -/
def fnExactRunResiduesUptoRow : OpenClaim := { program := "ytdeeeacnmkmeiaa", sum := "7426611286233ce4b18a1ef245cd1c2fb2c5524a1aa5cef1250b17a660687e5b", func := "loop.example/g01098/laws.FnExactRunResidues", spec := "fnExactRunResidues", unfollowed := true, recurses := true, apart := false, narrowed := true }
def FnExactRunResiduesUptoSaid : Prop := fnExactRunResiduesUptoRow.holds Try.pinned (OpenSpec.upto fnExactRunResiduesSpec)

/-- 'laws.FnExactWordLengths', WHERE WHAT IT READS IS OF BULK AT MOST 1048576: true; the input reads as it did. -/
def fnExactWordLengthsUptoRow : OpenClaim := { program := "ytdeeeacnmkmeiaa", sum := "7426611286233ce4b18a1ef245cd1c2fb2c5524a1aa5cef1250b17a660687e5b", func := "loop.example/g01098/laws.FnExactWordLengths", spec := "fnExactWordLengths", unfollowed := true, recurses := true, apart := false, narrowed := true }
def FnExactWordLengthsUptoSaid : Prop := fnExactWordLengthsUptoRow.holds Try.pinned (OpenSpec.upto fnExactWordLengthsSpec)

/-- 'laws.FnExactNeededAfter', WHERE WHAT IT READS IS OF BULK AT MOST 1048576: true; the input reads as it did. -/
def fnExactNeededAfterUptoRow : OpenClaim := { program := "ytdeeeacnmkmeiaa", sum := "7426611286233ce4b18a1ef245cd1c2fb2c5524a1aa5cef1250b17a660687e5b", func := "loop.example/g01098/laws.FnExactNeededAfter", spec := "fnExactNeededAfter", unfollowed := true, recurses := true, apart := false, narrowed := true }
def FnExactNeededAfterUptoSaid : Prop := fnExactNeededAfterUptoRow.holds Try.pinned (OpenSpec.upto fnExactNeededAfterSpec)

/-- 'laws.FnExactCountOrders', WHERE WHAT IT READS IS OF BULK AT MOST 1048576: true; the input reads as it did. -/
def fnExactCountOrdersUptoRow : OpenClaim := { program := "ytdeeeacnmkmeiaa", sum := "7426611286233ce4b18a1ef245cd1c2fb2c5524a1aa5cef1250b17a660687e5b", func := "loop.example/g01098/laws.FnExactCountOrders", spec := "fnExactCountOrders", unfollowed := true, recurses := true, apart := false, narrowed := true }
def FnExactCountOrdersUptoSaid : Prop := fnExactCountOrdersUptoRow.holds Try.pinned (OpenSpec.upto fnExactCountOrdersSpec)

/-- 'laws.FnExactPressureOf', WHERE WHAT IT READS IS OF BULK AT MOST 1048576: true; the input reads as it did. -/
def fnExactPressureOfUptoRow : OpenClaim := { program := "ytdeeeacnmkmeiaa", sum := "7426611286233ce4b18a1ef245cd1c2fb2c5524a1aa5cef1250b17a660687e5b", func := "loop.example/g01098/laws.FnExactPressureOf", spec := "fnExactPressureOf", unfollowed := true, recurses := true, apart := false, narrowed := true }
def FnExactPressureOfUptoSaid : Prop := fnExactPressureOfUptoRow.holds Try.pinned (OpenSpec.upto fnExactPressureOfSpec)

/-- 'laws.FnExactRunMatrices', WHERE WHAT IT READS IS OF BULK AT MOST 1048576: true; the input reads as it did. -/
def fnExactRunMatricesUptoRow : OpenClaim := { program := "ytdeeeacnmkmeiaa", sum := "7426611286233ce4b18a1ef245cd1c2fb2c5524a1aa5cef1250b17a660687e5b", func := "loop.example/g01098/laws.FnExactRunMatrices", spec := "fnExactRunMatrices", unfollowed := true, recurses := true, apart := false, narrowed := true }
def FnExactRunMatricesUptoSaid : Prop := fnExactRunMatricesUptoRow.holds Try.pinned (OpenSpec.upto fnExactRunMatricesSpec)

end Rows
end Go.Proofs.Ytdeeeacnmkmeiaa
