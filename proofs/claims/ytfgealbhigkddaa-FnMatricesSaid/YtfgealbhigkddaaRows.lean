/-
  No cell of these rows narrows 'for every input' (looked for: loops, veiled, ifaces, maps, wideKeys, modest, calm, conditions, laid).
  DERIVED. THE GIVEN ROWS OF THIS SEAT. 9 by the template 'for every input the law returns true; each argument reads behind the call as it read before'; 0 by the template 'total and deterministic' (their statements: YtfgealbhigkddaaTotals.lean).
  GIVEN WITH THE SEED: the statements are not yours to turn. If you find one false, say at which input.
  Laid BY PROGRAM, IN A SANDBOX (cutbox-rows.mjs): the forced cells as the released guide's own fill.sh prints them over the translation bb6f24692e56ced1… (all of the seat's roots in one cut). By AI agents, Wed Nov 11 2026. No macro, syntax, notation, axiom, sorry.
-/
import Derived.Test.YtfgealbhigkddaaChecked
import GoSem.Claim
import GoSem.ClaimJoined
import GoSem.ClaimMapViews
import Derived.JoinedTies
import Derived.KernelRfl
namespace Go.Proofs.Ytfgealbhigkddaa
/- THE CELL 'sum', in the pinned program and in every row, IS THE sha256 OF THE DUMP (.gsa) THAT YtfgealbhigkddaaProg.lean LOADS. Nothing in Lean hashes anything: it is a label: what it is worth is what the hold of that sum in a sandbox is worth. -/
noncomputable def Try.pinned : Pinned := { name := "ytfgealbhigkddaa", sum := "bb6f24692e56ced152104c4a137cd24de9de1238ef51be2ac1c63c64ba35594a", checked := Try.checked }
namespace Rows
def none {H : Type} : Left H := { results := [], args := [] }

/-- 'laws.FnExactOrderModulo': WHATEVER THE INPUT: true; the input reads as it did. -/
def fnExactOrderModuloSpec : ChangeSpec := { name := "fnExactOrderModulo", fn := fun _ => fun
  | [d1, d2] => { results := [.lit (.bool true)], args := [d1, d2] }
  | _ => none }
def fnExactOrderModuloRow : OpenClaim := { program := "ytfgealbhigkddaa", sum := "bb6f24692e56ced152104c4a137cd24de9de1238ef51be2ac1c63c64ba35594a", func := "loop.example/g01098/laws.FnExactOrderModulo", spec := "fnExactOrderModulo", unfollowed := true, recurses := true, apart := false }
def FnExactOrderModuloSaid : Prop := fnExactOrderModuloRow.holds Try.pinned (OpenSpec.ofChange fnExactOrderModuloSpec)

/-- ITS FALSE NEIGHBOUR: 'it returns false'. Refute it at one input. -/
def fnExactOrderModuloWrong : ChangeSpec := { name := "fnExactOrderModulo", fn := fun _ => fun
  | [d1, d2] => { results := [.lit (.bool false)], args := [d1, d2] }
  | _ => none }
def FnExactOrderModuloWrongFalsely : Prop := fnExactOrderModuloRow.holds Try.pinned (OpenSpec.ofChange fnExactOrderModuloWrong)

/-- 'laws.FnExactPowersModulo': WHATEVER THE INPUT: true; the input reads as it did. -/
def fnExactPowersModuloSpec : ChangeSpec := { name := "fnExactPowersModulo", fn := fun _ => fun
  | [d1, d2, d3] => { results := [.lit (.bool true)], args := [d1, d2, d3] }
  | _ => none }
def fnExactPowersModuloRow : OpenClaim := { program := "ytfgealbhigkddaa", sum := "bb6f24692e56ced152104c4a137cd24de9de1238ef51be2ac1c63c64ba35594a", func := "loop.example/g01098/laws.FnExactPowersModulo", spec := "fnExactPowersModulo", unfollowed := true, recurses := true, apart := false }
def FnExactPowersModuloSaid : Prop := fnExactPowersModuloRow.holds Try.pinned (OpenSpec.ofChange fnExactPowersModuloSpec)

/-- ITS FALSE NEIGHBOUR: 'it returns false'. Refute it at one input. -/
def fnExactPowersModuloWrong : ChangeSpec := { name := "fnExactPowersModulo", fn := fun _ => fun
  | [d1, d2, d3] => { results := [.lit (.bool false)], args := [d1, d2, d3] }
  | _ => none }
def FnExactPowersModuloWrongFalsely : Prop := fnExactPowersModuloRow.holds Try.pinned (OpenSpec.ofChange fnExactPowersModuloWrong)

/-- 'laws.FnExactMatrixPower': WHATEVER THE INPUT: true; the input reads as it did. -/
def fnExactMatrixPowerSpec : ChangeSpec := { name := "fnExactMatrixPower", fn := fun _ => fun
  | [d1, d2, d3] => { results := [.lit (.bool true)], args := [d1, d2, d3] }
  | _ => none }
def fnExactMatrixPowerRow : OpenClaim := { program := "ytfgealbhigkddaa", sum := "bb6f24692e56ced152104c4a137cd24de9de1238ef51be2ac1c63c64ba35594a", func := "loop.example/g01098/laws.FnExactMatrixPower", spec := "fnExactMatrixPower", unfollowed := true, recurses := true, apart := false }
def FnExactMatrixPowerSaid : Prop := fnExactMatrixPowerRow.holds Try.pinned (OpenSpec.ofChange fnExactMatrixPowerSpec)

/-- ITS FALSE NEIGHBOUR: 'it returns false'. Refute it at one input. -/
def fnExactMatrixPowerWrong : ChangeSpec := { name := "fnExactMatrixPower", fn := fun _ => fun
  | [d1, d2, d3] => { results := [.lit (.bool false)], args := [d1, d2, d3] }
  | _ => none }
def FnExactMatrixPowerWrongFalsely : Prop := fnExactMatrixPowerRow.holds Try.pinned (OpenSpec.ofChange fnExactMatrixPowerWrong)

/-- 'laws.FnExactMatrixProduct': WHATEVER THE INPUT: true; the input reads as it did. -/
def fnExactMatrixProductSpec : ChangeSpec := { name := "fnExactMatrixProduct", fn := fun _ => fun
  | [d1, d2, d3] => { results := [.lit (.bool true)], args := [d1, d2, d3] }
  | _ => none }
def fnExactMatrixProductRow : OpenClaim := { program := "ytfgealbhigkddaa", sum := "bb6f24692e56ced152104c4a137cd24de9de1238ef51be2ac1c63c64ba35594a", func := "loop.example/g01098/laws.FnExactMatrixProduct", spec := "fnExactMatrixProduct", unfollowed := true, recurses := true, apart := false }
def FnExactMatrixProductSaid : Prop := fnExactMatrixProductRow.holds Try.pinned (OpenSpec.ofChange fnExactMatrixProductSpec)

/-- ITS FALSE NEIGHBOUR: 'it returns false'. Refute it at one input. -/
def fnExactMatrixProductWrong : ChangeSpec := { name := "fnExactMatrixProduct", fn := fun _ => fun
  | [d1, d2, d3] => { results := [.lit (.bool false)], args := [d1, d2, d3] }
  | _ => none }
def FnExactMatrixProductWrongFalsely : Prop := fnExactMatrixProductRow.holds Try.pinned (OpenSpec.ofChange fnExactMatrixProductWrong)

/-- 'laws.FnExactUpperBound': WHATEVER THE INPUT: true; the input reads as it did. -/
def fnExactUpperBoundSpec : ChangeSpec := { name := "fnExactUpperBound", fn := fun _ => fun
  | [d] => { results := [.lit (.bool true)], args := [d] }
  | _ => none }
def fnExactUpperBoundRow : OpenClaim := { program := "ytfgealbhigkddaa", sum := "bb6f24692e56ced152104c4a137cd24de9de1238ef51be2ac1c63c64ba35594a", func := "loop.example/g01098/laws.FnExactUpperBound", spec := "fnExactUpperBound", apart := false }
def FnExactUpperBoundSaid : Prop := fnExactUpperBoundRow.holds Try.pinned (OpenSpec.ofChange fnExactUpperBoundSpec)

/-- ITS FALSE NEIGHBOUR: 'it returns false'. Refute it at one input. -/
def fnExactUpperBoundWrong : ChangeSpec := { name := "fnExactUpperBound", fn := fun _ => fun
  | [d] => { results := [.lit (.bool false)], args := [d] }
  | _ => none }
def FnExactUpperBoundWrongFalsely : Prop := fnExactUpperBoundRow.holds Try.pinned (OpenSpec.ofChange fnExactUpperBoundWrong)

/-- 'laws.FnExactLowerBound': WHATEVER THE INPUT: true; the input reads as it did. -/
def fnExactLowerBoundSpec : ChangeSpec := { name := "fnExactLowerBound", fn := fun _ => fun
  | [d] => { results := [.lit (.bool true)], args := [d] }
  | _ => none }
def fnExactLowerBoundRow : OpenClaim := { program := "ytfgealbhigkddaa", sum := "bb6f24692e56ced152104c4a137cd24de9de1238ef51be2ac1c63c64ba35594a", func := "loop.example/g01098/laws.FnExactLowerBound", spec := "fnExactLowerBound", apart := false }
def FnExactLowerBoundSaid : Prop := fnExactLowerBoundRow.holds Try.pinned (OpenSpec.ofChange fnExactLowerBoundSpec)

/-- ITS FALSE NEIGHBOUR: 'it returns false'. Refute it at one input. -/
def fnExactLowerBoundWrong : ChangeSpec := { name := "fnExactLowerBound", fn := fun _ => fun
  | [d] => { results := [.lit (.bool false)], args := [d] }
  | _ => none }
def FnExactLowerBoundWrongFalsely : Prop := fnExactLowerBoundRow.holds Try.pinned (OpenSpec.ofChange fnExactLowerBoundWrong)

/-- 'laws.FnExactTransposeRows': WHATEVER THE INPUT: true; the input reads as it did. -/
def fnExactTransposeRowsSpec : ChangeSpec := { name := "fnExactTransposeRows", fn := fun _ => fun
  | [d] => { results := [.lit (.bool true)], args := [d] }
  | _ => none }
def fnExactTransposeRowsRow : OpenClaim := { program := "ytfgealbhigkddaa", sum := "bb6f24692e56ced152104c4a137cd24de9de1238ef51be2ac1c63c64ba35594a", func := "loop.example/g01098/laws.FnExactTransposeRows", spec := "fnExactTransposeRows", unfollowed := true, recurses := true, apart := false }
def FnExactTransposeRowsSaid : Prop := fnExactTransposeRowsRow.holds Try.pinned (OpenSpec.ofChange fnExactTransposeRowsSpec)

/-- ITS FALSE NEIGHBOUR: 'it returns false'. Refute it at one input. -/
def fnExactTransposeRowsWrong : ChangeSpec := { name := "fnExactTransposeRows", fn := fun _ => fun
  | [d] => { results := [.lit (.bool false)], args := [d] }
  | _ => none }
def FnExactTransposeRowsWrongFalsely : Prop := fnExactTransposeRowsRow.holds Try.pinned (OpenSpec.ofChange fnExactTransposeRowsWrong)

/-- 'laws.FnPowersOfResidues': WHATEVER THE INPUT: true; the input reads as it did. -/
def fnPowersOfResiduesSpec : ChangeSpec := { name := "fnPowersOfResidues", fn := fun _ => fun
  | [d1, d2] => { results := [.lit (.bool true)], args := [d1, d2] }
  | _ => none }
def fnPowersOfResiduesRow : OpenClaim := { program := "ytfgealbhigkddaa", sum := "bb6f24692e56ced152104c4a137cd24de9de1238ef51be2ac1c63c64ba35594a", func := "loop.example/g01098/laws.FnPowersOfResidues", spec := "fnPowersOfResidues", unfollowed := true, recurses := true, apart := false }
def FnPowersOfResiduesSaid : Prop := fnPowersOfResiduesRow.holds Try.pinned (OpenSpec.ofChange fnPowersOfResiduesSpec)

/-- ITS FALSE NEIGHBOUR: 'it returns false'. Refute it at one input. -/
def fnPowersOfResiduesWrong : ChangeSpec := { name := "fnPowersOfResidues", fn := fun _ => fun
  | [d1, d2] => { results := [.lit (.bool false)], args := [d1, d2] }
  | _ => none }
def FnPowersOfResiduesWrongFalsely : Prop := fnPowersOfResiduesRow.holds Try.pinned (OpenSpec.ofChange fnPowersOfResiduesWrong)

/-- 'laws.FnMatrices': WHATEVER THE INPUT: true; the input reads as it did. -/
def fnMatricesSpec : ChangeSpec := { name := "fnMatrices", fn := fun _ => fun
  | [d1, d2] => { results := [.lit (.bool true)], args := [d1, d2] }
  | _ => none }
def fnMatricesRow : OpenClaim := { program := "ytfgealbhigkddaa", sum := "bb6f24692e56ced152104c4a137cd24de9de1238ef51be2ac1c63c64ba35594a", func := "loop.example/g01098/laws.FnMatrices", spec := "fnMatrices", unfollowed := true, recurses := true, apart := false }
def FnMatricesSaid : Prop := fnMatricesRow.holds Try.pinned (OpenSpec.ofChange fnMatricesSpec)

/-- ITS FALSE NEIGHBOUR: 'it returns false'. Refute it at one input. -/
def fnMatricesWrong : ChangeSpec := { name := "fnMatrices", fn := fun _ => fun
  | [d1, d2] => { results := [.lit (.bool false)], args := [d1, d2] }
  | _ => none }
def FnMatricesWrongFalsely : Prop := fnMatricesRow.holds Try.pinned (OpenSpec.ofChange fnMatricesWrong)

/- THE SECOND FORM. 'bulk': how many values and letters a reading holds, each counted each time it is reached (what is shared counts as often as it is met; a slice's spare places count too). A statement '..UptoSaid' is the law's where the arguments, and the package variables that the reading takes, are together of bulk at most 1048576: NARROWER than '..Said'. Prove '..Said' where nothing that the law and all that it calls make is longer than what came in: it says more and counts as full. Else prove '..UptoSaid'. A law counts once. -/
mutual
def uptoBulk {H : Type} : DataW H → Nat
  | .lit (.string bytes) => bytes.length + 1
  | .lit _ => 1
  | .nil => 1
  | .ptr d => uptoBulk d + 1
  | .slice elems spare => uptoBulkAll elems + uptoBulkAll spare + 1
  | .agg parts => uptoBulkAll parts + 1
  | .iface _ d => uptoBulk d + 1
  | .map entries => uptoBulkEntries entries + 1
  | .held _ => 1
def uptoBulkAll {H : Type} : List (DataW H) → Nat
  | [] => 0
  | d :: r => uptoBulk d + uptoBulkAll r
def uptoBulkEntries {H : Type} : List (Lit × DataW H) → Nat
  | [] => 0
  | x :: r => uptoBulkEntry x + uptoBulkEntries r
def uptoBulkEntry {H : Type} : Lit × DataW H → Nat
  | (.string bytes, d) => bytes.length + uptoBulk d + 1
  | (_, d) => uptoBulk d + 1
 end
def uptoSmall : (H : Type) → List (DataW H) → Bool := fun _ ds => decide (uptoBulkAll ds ≤ 1048576)
def OpenSpec.upto (s : _root_.Go.ChangeSpec) : _root_.Go.OpenSpec := { _root_.Go.OpenSpec.ofChange s with cond := some uptoSmall }

/-- 'laws.FnExactOrderModulo', WHERE WHAT IT READS IS OF BULK AT MOST 1048576: true; the input reads as it did. -/
def fnExactOrderModuloUptoRow : OpenClaim := { program := "ytfgealbhigkddaa", sum := "bb6f24692e56ced152104c4a137cd24de9de1238ef51be2ac1c63c64ba35594a", func := "loop.example/g01098/laws.FnExactOrderModulo", spec := "fnExactOrderModulo", unfollowed := true, recurses := true, apart := false, narrowed := true }
def FnExactOrderModuloUptoSaid : Prop := fnExactOrderModuloUptoRow.holds Try.pinned (OpenSpec.upto fnExactOrderModuloSpec)

/-- 'laws.FnExactPowersModulo', WHERE WHAT IT READS IS OF BULK AT MOST 1048576: true; the input reads as it did. -/
def fnExactPowersModuloUptoRow : OpenClaim := { program := "ytfgealbhigkddaa", sum := "bb6f24692e56ced152104c4a137cd24de9de1238ef51be2ac1c63c64ba35594a", func := "loop.example/g01098/laws.FnExactPowersModulo", spec := "fnExactPowersModulo", unfollowed := true, recurses := true, apart := false, narrowed := true }
def FnExactPowersModuloUptoSaid : Prop := fnExactPowersModuloUptoRow.holds Try.pinned (OpenSpec.upto fnExactPowersModuloSpec)

/-- 'laws.FnExactMatrixPower', WHERE WHAT IT READS IS OF BULK AT MOST 1048576: true; the input reads as it did. -/
def fnExactMatrixPowerUptoRow : OpenClaim := { program := "ytfgealbhigkddaa", sum := "bb6f24692e56ced152104c4a137cd24de9de1238ef51be2ac1c63c64ba35594a", func := "loop.example/g01098/laws.FnExactMatrixPower", spec := "fnExactMatrixPower", unfollowed := true, recurses := true, apart := false, narrowed := true }
def FnExactMatrixPowerUptoSaid : Prop := fnExactMatrixPowerUptoRow.holds Try.pinned (OpenSpec.upto fnExactMatrixPowerSpec)

/-- 'laws.FnExactMatrixProduct', WHERE WHAT IT READS IS OF BULK AT MOST 1048576: true; the input reads as it did. -/
def fnExactMatrixProductUptoRow : OpenClaim := { program := "ytfgealbhigkddaa", sum := "bb6f24692e56ced152104c4a137cd24de9de1238ef51be2ac1c63c64ba35594a", func := "loop.example/g01098/laws.FnExactMatrixProduct", spec := "fnExactMatrixProduct", unfollowed := true, recurses := true, apart := false, narrowed := true }
def FnExactMatrixProductUptoSaid : Prop := fnExactMatrixProductUptoRow.holds Try.pinned (OpenSpec.upto fnExactMatrixProductSpec)

/-- 'laws.FnExactUpperBound', WHERE WHAT IT READS IS OF BULK AT MOST 1048576: true; the input reads as it did. -/
def fnExactUpperBoundUptoRow : OpenClaim := { program := "ytfgealbhigkddaa", sum := "bb6f24692e56ced152104c4a137cd24de9de1238ef51be2ac1c63c64ba35594a", func := "loop.example/g01098/laws.FnExactUpperBound", spec := "fnExactUpperBound", apart := false, narrowed := true }
def FnExactUpperBoundUptoSaid : Prop := fnExactUpperBoundUptoRow.holds Try.pinned (OpenSpec.upto fnExactUpperBoundSpec)

/-- 'laws.FnExactLowerBound', WHERE WHAT IT READS IS OF BULK AT MOST 1048576: true; the input reads as it did. -/
def fnExactLowerBoundUptoRow : OpenClaim := { program := "ytfgealbhigkddaa", sum := "bb6f24692e56ced152104c4a137cd24de9de1238ef51be2ac1c63c64ba35594a", func := "loop.example/g01098/laws.FnExactLowerBound", spec := "fnExactLowerBound", apart := false, narrowed := true }
def FnExactLowerBoundUptoSaid : Prop := fnExactLowerBoundUptoRow.holds Try.pinned (OpenSpec.upto fnExactLowerBoundSpec)

/-- 'laws.FnExactTransposeRows', WHERE WHAT IT READS IS OF BULK AT MOST 1048576: true; the input reads as it did. -/
def fnExactTransposeRowsUptoRow : OpenClaim := { program := "ytfgealbhigkddaa", sum := "bb6f24692e56ced152104c4a137cd24de9de1238ef51be2ac1c63c64ba35594a", func := "loop.example/g01098/laws.FnExactTransposeRows", spec := "fnExactTransposeRows", unfollowed := true, recurses := true, apart := false, narrowed := true }
def FnExactTransposeRowsUptoSaid : Prop := fnExactTransposeRowsUptoRow.holds Try.pinned (OpenSpec.upto fnExactTransposeRowsSpec)

/-- 'laws.FnPowersOfResidues', WHERE WHAT IT READS IS OF BULK AT MOST 1048576: true; the input reads as it did. -/
def fnPowersOfResiduesUptoRow : OpenClaim := { program := "ytfgealbhigkddaa", sum := "bb6f24692e56ced152104c4a137cd24de9de1238ef51be2ac1c63c64ba35594a", func := "loop.example/g01098/laws.FnPowersOfResidues", spec := "fnPowersOfResidues", unfollowed := true, recurses := true, apart := false, narrowed := true }
def FnPowersOfResiduesUptoSaid : Prop := fnPowersOfResiduesUptoRow.holds Try.pinned (OpenSpec.upto fnPowersOfResiduesSpec)

/-- 'laws.FnMatrices', WHERE WHAT IT READS IS OF BULK AT MOST 1048576: true; the input reads as it did. -/
def fnMatricesUptoRow : OpenClaim := { program := "ytfgealbhigkddaa", sum := "bb6f24692e56ced152104c4a137cd24de9de1238ef51be2ac1c63c64ba35594a", func := "loop.example/g01098/laws.FnMatrices", spec := "fnMatrices", unfollowed := true, recurses := true, apart := false, narrowed := true }
def FnMatricesUptoSaid : Prop := fnMatricesUptoRow.holds Try.pinned (OpenSpec.upto fnMatricesSpec)

end Rows
end Go.Proofs.Ytfgealbhigkddaa
