/-
  No cell of these rows narrows 'for every input' (looked for: loops, veiled, ifaces, maps, wideKeys, modest, calm, conditions, laid).
  DERIVED. THE GIVEN ROWS OF THIS SEAT. 12 by the template 'for every input the law returns true; each argument reads behind the call as it read before'; 0 by the template 'total and deterministic' (their statements: YtdcliofmdlhmaaaTotals.lean).
  GIVEN WITH THE SEED: the statements are not yours to turn. If you find one false, say at which input.
  Laid BY PROGRAM, IN A SANDBOX (cutbox-rows.mjs): the forced cells as the released guide's own fill.sh prints them over the translation e4a3e35a023fd359… (all of the seat's roots in one cut). By AI agents, Wed Nov 11 2026. No macro, syntax, notation, axiom, sorry.
-/
import Derived.Test.YtdcliofmdlhmaaaChecked
import GoSem.Claim
import GoSem.ClaimJoined
import GoSem.ClaimMapViews
import Derived.JoinedTies
import Derived.KernelRfl
namespace Go.Proofs.Ytdcliofmdlhmaaa
/- THE CELL 'sum', in the pinned program and in every row, IS THE sha256 OF THE DUMP (.gsa) THAT YtdcliofmdlhmaaaProg.lean LOADS. Nothing in Lean hashes anything: it is a label: what it is worth is what the hold of that sum in a sandbox is worth. -/
noncomputable def Try.pinned : Pinned := { name := "ytdcliofmdlhmaaa", sum := "e4a3e35a023fd359fcec993708d430144a54b22ba6077d40f76c0325a6cb60f3", checked := Try.checked }
namespace Rows
def none {H : Type} : Left H := { results := [], args := [] }

/-- 'laws.FnExactBinaryCost': WHATEVER THE INPUT: true; the input reads as it did. -/
def fnExactBinaryCostSpec : ChangeSpec := { name := "fnExactBinaryCost", fn := fun _ => fun
  | [d] => { results := [.lit (.bool true)], args := [d] }
  | _ => none }
def fnExactBinaryCostRow : OpenClaim := { program := "ytdcliofmdlhmaaa", sum := "e4a3e35a023fd359fcec993708d430144a54b22ba6077d40f76c0325a6cb60f3", func := "loop.example/g01098/laws.FnExactBinaryCost", spec := "fnExactBinaryCost", unfollowed := true, recurses := true, apart := false }
def FnExactBinaryCostSaid : Prop := fnExactBinaryCostRow.holds Try.pinned (OpenSpec.ofChange fnExactBinaryCostSpec)

/-- ITS FALSE NEIGHBOUR: 'it returns false'. Refute it at one input. -/
def fnExactBinaryCostWrong : ChangeSpec := { name := "fnExactBinaryCost", fn := fun _ => fun
  | [d] => { results := [.lit (.bool false)], args := [d] }
  | _ => none }
def FnExactBinaryCostWrongFalsely : Prop := fnExactBinaryCostRow.holds Try.pinned (OpenSpec.ofChange fnExactBinaryCostWrong)

/-- 'laws.FnExactFactorCost': WHATEVER THE INPUT: true; the input reads as it did. -/
def fnExactFactorCostSpec : ChangeSpec := { name := "fnExactFactorCost", fn := fun _ => fun
  | [d] => { results := [.lit (.bool true)], args := [d] }
  | _ => none }
def fnExactFactorCostRow : OpenClaim := { program := "ytdcliofmdlhmaaa", sum := "e4a3e35a023fd359fcec993708d430144a54b22ba6077d40f76c0325a6cb60f3", func := "loop.example/g01098/laws.FnExactFactorCost", spec := "fnExactFactorCost", unfollowed := true, recurses := true, apart := false }
def FnExactFactorCostSaid : Prop := fnExactFactorCostRow.holds Try.pinned (OpenSpec.ofChange fnExactFactorCostSpec)

/-- ITS FALSE NEIGHBOUR: 'it returns false'. Refute it at one input. -/
def fnExactFactorCostWrong : ChangeSpec := { name := "fnExactFactorCost", fn := fun _ => fun
  | [d] => { results := [.lit (.bool false)], args := [d] }
  | _ => none }
def FnExactFactorCostWrongFalsely : Prop := fnExactFactorCostRow.holds Try.pinned (OpenSpec.ofChange fnExactFactorCostWrong)

/-- 'laws.FnFactorsCost': WHATEVER THE INPUT: true; the input reads as it did. -/
def fnFactorsCostSpec : ChangeSpec := { name := "fnFactorsCost", fn := fun _ => fun
  | [d1, d2] => { results := [.lit (.bool true)], args := [d1, d2] }
  | _ => none }
def fnFactorsCostRow : OpenClaim := { program := "ytdcliofmdlhmaaa", sum := "e4a3e35a023fd359fcec993708d430144a54b22ba6077d40f76c0325a6cb60f3", func := "loop.example/g01098/laws.FnFactorsCost", spec := "fnFactorsCost", unfollowed := true, recurses := true, apart := false }
def FnFactorsCostSaid : Prop := fnFactorsCostRow.holds Try.pinned (OpenSpec.ofChange fnFactorsCostSpec)

/-- ITS FALSE NEIGHBOUR: 'it returns false'. Refute it at one input. -/
def fnFactorsCostWrong : ChangeSpec := { name := "fnFactorsCost", fn := fun _ => fun
  | [d1, d2] => { results := [.lit (.bool false)], args := [d1, d2] }
  | _ => none }
def FnFactorsCostWrongFalsely : Prop := fnFactorsCostRow.holds Try.pinned (OpenSpec.ofChange fnFactorsCostWrong)

/-- 'laws.FnExactBinaryPlan': WHATEVER THE INPUT: true; the input reads as it did. -/
def fnExactBinaryPlanSpec : ChangeSpec := { name := "fnExactBinaryPlan", fn := fun _ => fun
  | [d] => { results := [.lit (.bool true)], args := [d] }
  | _ => none }
def fnExactBinaryPlanRow : OpenClaim := { program := "ytdcliofmdlhmaaa", sum := "e4a3e35a023fd359fcec993708d430144a54b22ba6077d40f76c0325a6cb60f3", func := "loop.example/g01098/laws.FnExactBinaryPlan", spec := "fnExactBinaryPlan", unfollowed := true, recurses := true, apart := false }
def FnExactBinaryPlanSaid : Prop := fnExactBinaryPlanRow.holds Try.pinned (OpenSpec.ofChange fnExactBinaryPlanSpec)

/-- ITS FALSE NEIGHBOUR: 'it returns false'. Refute it at one input. -/
def fnExactBinaryPlanWrong : ChangeSpec := { name := "fnExactBinaryPlan", fn := fun _ => fun
  | [d] => { results := [.lit (.bool false)], args := [d] }
  | _ => none }
def FnExactBinaryPlanWrongFalsely : Prop := fnExactBinaryPlanRow.holds Try.pinned (OpenSpec.ofChange fnExactBinaryPlanWrong)

/-- 'laws.FnExactRightPlan': WHATEVER THE INPUT: true; the input reads as it did. -/
def fnExactRightPlanSpec : ChangeSpec := { name := "fnExactRightPlan", fn := fun _ => fun
  | [d] => { results := [.lit (.bool true)], args := [d] }
  | _ => none }
def fnExactRightPlanRow : OpenClaim := { program := "ytdcliofmdlhmaaa", sum := "e4a3e35a023fd359fcec993708d430144a54b22ba6077d40f76c0325a6cb60f3", func := "loop.example/g01098/laws.FnExactRightPlan", spec := "fnExactRightPlan", unfollowed := true, recurses := true, apart := false }
def FnExactRightPlanSaid : Prop := fnExactRightPlanRow.holds Try.pinned (OpenSpec.ofChange fnExactRightPlanSpec)

/-- ITS FALSE NEIGHBOUR: 'it returns false'. Refute it at one input. -/
def fnExactRightPlanWrong : ChangeSpec := { name := "fnExactRightPlan", fn := fun _ => fun
  | [d] => { results := [.lit (.bool false)], args := [d] }
  | _ => none }
def FnExactRightPlanWrongFalsely : Prop := fnExactRightPlanRow.holds Try.pinned (OpenSpec.ofChange fnExactRightPlanWrong)

/-- 'laws.FnComposedExponents': WHATEVER THE INPUT: true; the input reads as it did. -/
def fnComposedExponentsSpec : ChangeSpec := { name := "fnComposedExponents", fn := fun _ => fun
  | [d1, d2] => { results := [.lit (.bool true)], args := [d1, d2] }
  | _ => none }
def fnComposedExponentsRow : OpenClaim := { program := "ytdcliofmdlhmaaa", sum := "e4a3e35a023fd359fcec993708d430144a54b22ba6077d40f76c0325a6cb60f3", func := "loop.example/g01098/laws.FnComposedExponents", spec := "fnComposedExponents", unfollowed := true, recurses := true, apart := false }
def FnComposedExponentsSaid : Prop := fnComposedExponentsRow.holds Try.pinned (OpenSpec.ofChange fnComposedExponentsSpec)

/-- ITS FALSE NEIGHBOUR: 'it returns false'. Refute it at one input. -/
def fnComposedExponentsWrong : ChangeSpec := { name := "fnComposedExponents", fn := fun _ => fun
  | [d1, d2] => { results := [.lit (.bool false)], args := [d1, d2] }
  | _ => none }
def FnComposedExponentsWrongFalsely : Prop := fnComposedExponentsRow.holds Try.pinned (OpenSpec.ofChange fnComposedExponentsWrong)

/-- 'laws.FnExactCollapseInputs': WHATEVER THE INPUT: true; the input reads as it did. -/
def fnExactCollapseInputsSpec : ChangeSpec := { name := "fnExactCollapseInputs", fn := fun _ => fun
  | [d] => { results := [.lit (.bool true)], args := [d] }
  | _ => none }
def fnExactCollapseInputsRow : OpenClaim := { program := "ytdcliofmdlhmaaa", sum := "e4a3e35a023fd359fcec993708d430144a54b22ba6077d40f76c0325a6cb60f3", func := "loop.example/g01098/laws.FnExactCollapseInputs", spec := "fnExactCollapseInputs", unfollowed := true, recurses := true, apart := false }
def FnExactCollapseInputsSaid : Prop := fnExactCollapseInputsRow.holds Try.pinned (OpenSpec.ofChange fnExactCollapseInputsSpec)

/-- ITS FALSE NEIGHBOUR: 'it returns false'. Refute it at one input. -/
def fnExactCollapseInputsWrong : ChangeSpec := { name := "fnExactCollapseInputs", fn := fun _ => fun
  | [d] => { results := [.lit (.bool false)], args := [d] }
  | _ => none }
def FnExactCollapseInputsWrongFalsely : Prop := fnExactCollapseInputsRow.holds Try.pinned (OpenSpec.ofChange fnExactCollapseInputsWrong)

/-- 'laws.FnExactFoldOutputs': WHATEVER THE INPUT: true; the input reads as it did. -/
def fnExactFoldOutputsSpec : ChangeSpec := { name := "fnExactFoldOutputs", fn := fun _ => fun
  | [d] => { results := [.lit (.bool true)], args := [d] }
  | _ => none }
def fnExactFoldOutputsRow : OpenClaim := { program := "ytdcliofmdlhmaaa", sum := "e4a3e35a023fd359fcec993708d430144a54b22ba6077d40f76c0325a6cb60f3", func := "loop.example/g01098/laws.FnExactFoldOutputs", spec := "fnExactFoldOutputs", unfollowed := true, recurses := true, apart := false }
def FnExactFoldOutputsSaid : Prop := fnExactFoldOutputsRow.holds Try.pinned (OpenSpec.ofChange fnExactFoldOutputsSpec)

/-- ITS FALSE NEIGHBOUR: 'it returns false'. Refute it at one input. -/
def fnExactFoldOutputsWrong : ChangeSpec := { name := "fnExactFoldOutputs", fn := fun _ => fun
  | [d] => { results := [.lit (.bool false)], args := [d] }
  | _ => none }
def FnExactFoldOutputsWrongFalsely : Prop := fnExactFoldOutputsRow.holds Try.pinned (OpenSpec.ofChange fnExactFoldOutputsWrong)

/-- 'laws.FnExactTurnedCost': WHATEVER THE INPUT: true; the input reads as it did. -/
def fnExactTurnedCostSpec : ChangeSpec := { name := "fnExactTurnedCost", fn := fun _ => fun
  | [d] => { results := [.lit (.bool true)], args := [d] }
  | _ => none }
def fnExactTurnedCostRow : OpenClaim := { program := "ytdcliofmdlhmaaa", sum := "e4a3e35a023fd359fcec993708d430144a54b22ba6077d40f76c0325a6cb60f3", func := "loop.example/g01098/laws.FnExactTurnedCost", spec := "fnExactTurnedCost", unfollowed := true, recurses := true, apart := false }
def FnExactTurnedCostSaid : Prop := fnExactTurnedCostRow.holds Try.pinned (OpenSpec.ofChange fnExactTurnedCostSpec)

/-- ITS FALSE NEIGHBOUR: 'it returns false'. Refute it at one input. -/
def fnExactTurnedCostWrong : ChangeSpec := { name := "fnExactTurnedCost", fn := fun _ => fun
  | [d] => { results := [.lit (.bool false)], args := [d] }
  | _ => none }
def FnExactTurnedCostWrongFalsely : Prop := fnExactTurnedCostRow.holds Try.pinned (OpenSpec.ofChange fnExactTurnedCostWrong)

/-- 'laws.FnExactTogetherPlan': WHATEVER THE INPUT: true; the input reads as it did. -/
def fnExactTogetherPlanSpec : ChangeSpec := { name := "fnExactTogetherPlan", fn := fun _ => fun
  | [d] => { results := [.lit (.bool true)], args := [d] }
  | _ => none }
def fnExactTogetherPlanRow : OpenClaim := { program := "ytdcliofmdlhmaaa", sum := "e4a3e35a023fd359fcec993708d430144a54b22ba6077d40f76c0325a6cb60f3", func := "loop.example/g01098/laws.FnExactTogetherPlan", spec := "fnExactTogetherPlan", unfollowed := true, recurses := true, apart := false }
def FnExactTogetherPlanSaid : Prop := fnExactTogetherPlanRow.holds Try.pinned (OpenSpec.ofChange fnExactTogetherPlanSpec)

/-- ITS FALSE NEIGHBOUR: 'it returns false'. Refute it at one input. -/
def fnExactTogetherPlanWrong : ChangeSpec := { name := "fnExactTogetherPlan", fn := fun _ => fun
  | [d] => { results := [.lit (.bool false)], args := [d] }
  | _ => none }
def FnExactTogetherPlanWrongFalsely : Prop := fnExactTogetherPlanRow.holds Try.pinned (OpenSpec.ofChange fnExactTogetherPlanWrong)

/-- 'laws.FnExactSplitPlan': WHATEVER THE INPUT: true; the input reads as it did. -/
def fnExactSplitPlanSpec : ChangeSpec := { name := "fnExactSplitPlan", fn := fun _ => fun
  | [d1, d2] => { results := [.lit (.bool true)], args := [d1, d2] }
  | _ => none }
def fnExactSplitPlanRow : OpenClaim := { program := "ytdcliofmdlhmaaa", sum := "e4a3e35a023fd359fcec993708d430144a54b22ba6077d40f76c0325a6cb60f3", func := "loop.example/g01098/laws.FnExactSplitPlan", spec := "fnExactSplitPlan", unfollowed := true, recurses := true, apart := false }
def FnExactSplitPlanSaid : Prop := fnExactSplitPlanRow.holds Try.pinned (OpenSpec.ofChange fnExactSplitPlanSpec)

/-- ITS FALSE NEIGHBOUR: 'it returns false'. Refute it at one input. -/
def fnExactSplitPlanWrong : ChangeSpec := { name := "fnExactSplitPlan", fn := fun _ => fun
  | [d1, d2] => { results := [.lit (.bool false)], args := [d1, d2] }
  | _ => none }
def FnExactSplitPlanWrongFalsely : Prop := fnExactSplitPlanRow.holds Try.pinned (OpenSpec.ofChange fnExactSplitPlanWrong)

/-- 'laws.FnExactRunWords': WHATEVER THE INPUT: true; the input reads as it did. -/
def fnExactRunWordsSpec : ChangeSpec := { name := "fnExactRunWords", fn := fun _ => fun
  | [d1, d2] => { results := [.lit (.bool true)], args := [d1, d2] }
  | _ => none }
def fnExactRunWordsRow : OpenClaim := { program := "ytdcliofmdlhmaaa", sum := "e4a3e35a023fd359fcec993708d430144a54b22ba6077d40f76c0325a6cb60f3", func := "loop.example/g01098/laws.FnExactRunWords", spec := "fnExactRunWords", inPlace := ["internal/abi.NoEscape", "internal/bytealg.MakeNoZero"], unfollowed := true, recurses := true, apart := false }
def FnExactRunWordsSaid : Prop := fnExactRunWordsRow.holds Try.pinned (OpenSpec.ofChange fnExactRunWordsSpec)

/-- ITS FALSE NEIGHBOUR: 'it returns false'. Refute it at one input. -/
def fnExactRunWordsWrong : ChangeSpec := { name := "fnExactRunWords", fn := fun _ => fun
  | [d1, d2] => { results := [.lit (.bool false)], args := [d1, d2] }
  | _ => none }
def FnExactRunWordsWrongFalsely : Prop := fnExactRunWordsRow.holds Try.pinned (OpenSpec.ofChange fnExactRunWordsWrong)

/- THE SECOND FORM. 'bulk': how many values and letters a reading holds, each counted each time it is reached (what is shared counts as often as it is met; a slice's spare places count too). A statement '..UptoSaid' is the law's where the arguments, and the package variables that the reading takes, are together of bulk at most 1048576: NARROWER than '..Said'. Prove '..Said' where nothing that the law and all that it calls make is longer than what came in: it says more and counts as full. Else prove '..UptoSaid'. A law counts once. -/
mutual
def uptoBulk {H : Type} : DataW H → Nat
  | .lit (.string bytes) => bytes.length + 1
  | .lit _ => 1
  | .nil => 1
  | .ptr d => uptoBulk d + 1
  | .slice elems spare => uptoBulkAll elems + uptoBulkAll spare + 1
  | .agg parts => uptoBulkAll parts + 1
  | .iface _ d => uptoBulk d + 1
  | .map entries => uptoBulkEntries entries + 1
  | .held _ => 1
def uptoBulkAll {H : Type} : List (DataW H) → Nat
  | [] => 0
  | d :: r => uptoBulk d + uptoBulkAll r
def uptoBulkEntries {H : Type} : List (Lit × DataW H) → Nat
  | [] => 0
  | x :: r => uptoBulkEntry x + uptoBulkEntries r
def uptoBulkEntry {H : Type} : Lit × DataW H → Nat
  | (.string bytes, d) => bytes.length + uptoBulk d + 1
  | (_, d) => uptoBulk d + 1
 end
def uptoSmall : (H : Type) → List (DataW H) → Bool := fun _ ds => decide (uptoBulkAll ds ≤ 1048576)
def OpenSpec.upto (s : _root_.Go.ChangeSpec) : _root_.Go.OpenSpec := { _root_.Go.OpenSpec.ofChange s with cond := some uptoSmall }

/-- 'laws.FnExactBinaryCost', WHERE WHAT IT READS IS OF BULK AT MOST 1048576: true; the input reads as it did. -/
def fnExactBinaryCostUptoRow : OpenClaim := { program := "ytdcliofmdlhmaaa", sum := "e4a3e35a023fd359fcec993708d430144a54b22ba6077d40f76c0325a6cb60f3", func := "loop.example/g01098/laws.FnExactBinaryCost", spec := "fnExactBinaryCost", unfollowed := true, recurses := true, apart := false, narrowed := true }
def FnExactBinaryCostUptoSaid : Prop := fnExactBinaryCostUptoRow.holds Try.pinned (OpenSpec.upto fnExactBinaryCostSpec)

/-- 'laws.FnExactFactorCost', WHERE WHAT IT READS IS OF BULK AT MOST 1048576: true; the input reads as it did. -/
def fnExactFactorCostUptoRow : OpenClaim := { program := "ytdcliofmdlhmaaa", sum := "e4a3e35a023fd359fcec993708d430144a54b22ba6077d40f76c0325a6cb60f3", func := "loop.example/g01098/laws.FnExactFactorCost", spec := "fnExactFactorCost", unfollowed := true, recurses := true, apart := false, narrowed := true }
def FnExactFactorCostUptoSaid : Prop := fnExactFactorCostUptoRow.holds Try.pinned (OpenSpec.upto fnExactFactorCostSpec)

/-- 'laws.FnFactorsCost', WHERE WHAT IT READS IS OF BULK AT MOST 1048576: true; the input reads as it did. -/
def fnFactorsCostUptoRow : OpenClaim := { program := "ytdcliofmdlhmaaa", sum := "e4a3e35a023fd359fcec993708d430144a54b22ba6077d40f76c0325a6cb60f3", func := "loop.example/g01098/laws.FnFactorsCost", spec := "fnFactorsCost", unfollowed := true, recurses := true, apart := false, narrowed := true }
def FnFactorsCostUptoSaid : Prop := fnFactorsCostUptoRow.holds Try.pinned (OpenSpec.upto fnFactorsCostSpec)

/-- 'laws.FnExactBinaryPlan', WHERE WHAT IT READS IS OF BULK AT MOST 1048576: true; the input reads as it did. -/
def fnExactBinaryPlanUptoRow : OpenClaim := { program := "ytdcliofmdlhmaaa", sum := "e4a3e35a023fd359fcec993708d430144a54b22ba6077d40f76c0325a6cb60f3", func := "loop.example/g01098/laws.FnExactBinaryPlan", spec := "fnExactBinaryPlan", unfollowed := true, recurses := true, apart := false, narrowed := true }
def FnExactBinaryPlanUptoSaid : Prop := fnExactBinaryPlanUptoRow.holds Try.pinned (OpenSpec.upto fnExactBinaryPlanSpec)

/-- 'laws.FnExactRightPlan', WHERE WHAT IT READS IS OF BULK AT MOST 1048576: true; the input reads as it did. -/
def fnExactRightPlanUptoRow : OpenClaim := { program := "ytdcliofmdlhmaaa", sum := "e4a3e35a023fd359fcec993708d430144a54b22ba6077d40f76c0325a6cb60f3", func := "loop.example/g01098/laws.FnExactRightPlan", spec := "fnExactRightPlan", unfollowed := true, recurses := true, apart := false, narrowed := true }
def FnExactRightPlanUptoSaid : Prop := fnExactRightPlanUptoRow.holds Try.pinned (OpenSpec.upto fnExactRightPlanSpec)

/-- 'laws.FnComposedExponents', WHERE WHAT IT READS IS OF BULK AT MOST 1048576: true; the input reads as it did. -/
def fnComposedExponentsUptoRow : OpenClaim := { program := "ytdcliofmdlhmaaa", sum := "e4a3e35a023fd359fcec993708d430144a54b22ba6077d40f76c0325a6cb60f3", func := "loop.example/g01098/laws.FnComposedExponents", spec := "fnComposedExponents", unfollowed := true, recurses := true, apart := false, narrowed := true }
def FnComposedExponentsUptoSaid : Prop := fnComposedExponentsUptoRow.holds Try.pinned (OpenSpec.upto fnComposedExponentsSpec)

/-- 'laws.FnExactCollapseInputs', WHERE WHAT IT READS IS OF BULK AT MOST 1048576: true; the input reads as it did. -/
def fnExactCollapseInputsUptoRow : OpenClaim := { program := "ytdcliofmdlhmaaa", sum := "e4a3e35a023fd359fcec993708d430144a54b22ba6077d40f76c0325a6cb60f3", func := "loop.example/g01098/laws.FnExactCollapseInputs", spec := "fnExactCollapseInputs", unfollowed := true, recurses := true, apart := false, narrowed := true }
def FnExactCollapseInputsUptoSaid : Prop := fnExactCollapseInputsUptoRow.holds Try.pinned (OpenSpec.upto fnExactCollapseInputsSpec)

/-- 'laws.FnExactFoldOutputs', WHERE WHAT IT READS IS OF BULK AT MOST 1048576: true; the input reads as it did. -/
def fnExactFoldOutputsUptoRow : OpenClaim := { program := "ytdcliofmdlhmaaa", sum := "e4a3e35a023fd359fcec993708d430144a54b22ba6077d40f76c0325a6cb60f3", func := "loop.example/g01098/laws.FnExactFoldOutputs", spec := "fnExactFoldOutputs", unfollowed := true, recurses := true, apart := false, narrowed := true }
def FnExactFoldOutputsUptoSaid : Prop := fnExactFoldOutputsUptoRow.holds Try.pinned (OpenSpec.upto fnExactFoldOutputsSpec)

/-- 'laws.FnExactTurnedCost', WHERE WHAT IT READS IS OF BULK AT MOST 1048576: true; the input reads as it did. -/
def fnExactTurnedCostUptoRow : OpenClaim := { program := "ytdcliofmdlhmaaa", sum := "e4a3e35a023fd359fcec993708d430144a54b22ba6077d40f76c0325a6cb60f3", func := "loop.example/g01098/laws.FnExactTurnedCost", spec := "fnExactTurnedCost", unfollowed := true, recurses := true, apart := false, narrowed := true }
def FnExactTurnedCostUptoSaid : Prop := fnExactTurnedCostUptoRow.holds Try.pinned (OpenSpec.upto fnExactTurnedCostSpec)

/-- 'laws.FnExactTogetherPlan', WHERE WHAT IT READS IS OF BULK AT MOST 1048576: true; the input reads as it did. -/
def fnExactTogetherPlanUptoRow : OpenClaim := { program := "ytdcliofmdlhmaaa", sum := "e4a3e35a023fd359fcec993708d430144a54b22ba6077d40f76c0325a6cb60f3", func := "loop.example/g01098/laws.FnExactTogetherPlan", spec := "fnExactTogetherPlan", unfollowed := true, recurses := true, apart := false, narrowed := true }
def FnExactTogetherPlanUptoSaid : Prop := fnExactTogetherPlanUptoRow.holds Try.pinned (OpenSpec.upto fnExactTogetherPlanSpec)

/-- 'laws.FnExactSplitPlan', WHERE WHAT IT READS IS OF BULK AT MOST 1048576: true; the input reads as it did. -/
def fnExactSplitPlanUptoRow : OpenClaim := { program := "ytdcliofmdlhmaaa", sum := "e4a3e35a023fd359fcec993708d430144a54b22ba6077d40f76c0325a6cb60f3", func := "loop.example/g01098/laws.FnExactSplitPlan", spec := "fnExactSplitPlan", unfollowed := true, recurses := true, apart := false, narrowed := true }
def FnExactSplitPlanUptoSaid : Prop := fnExactSplitPlanUptoRow.holds Try.pinned (OpenSpec.upto fnExactSplitPlanSpec)

/-- 'laws.FnExactRunWords', WHERE WHAT IT READS IS OF BULK AT MOST 1048576: true; the input reads as it did. -/
def fnExactRunWordsUptoRow : OpenClaim := { program := "ytdcliofmdlhmaaa", sum := "e4a3e35a023fd359fcec993708d430144a54b22ba6077d40f76c0325a6cb60f3", func := "loop.example/g01098/laws.FnExactRunWords", spec := "fnExactRunWords", inPlace := ["internal/abi.NoEscape", "internal/bytealg.MakeNoZero"], unfollowed := true, recurses := true, apart := false, narrowed := true }
def FnExactRunWordsUptoSaid : Prop := fnExactRunWordsUptoRow.holds Try.pinned (OpenSpec.upto fnExactRunWordsSpec)

end Rows
end Go.Proofs.Ytdcliofmdlhmaaa
