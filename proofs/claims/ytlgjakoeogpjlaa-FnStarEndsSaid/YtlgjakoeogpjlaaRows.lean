/-
  No cell of these rows narrows 'for every input' (looked for: loops, veiled, ifaces, maps, wideKeys, modest, calm, conditions, laid).
  DERIVED. THE GIVEN ROWS OF THIS SEAT. 12 by the template 'for every input the law returns true; each argument reads behind the call as it read before'; 0 by the template 'total and deterministic' (their statements: YtlgjakoeogpjlaaTotals.lean).
  GIVEN WITH THE SEED: the statements are not yours to turn. If you find one false, say at which input.
  Laid BY PROGRAM, IN A SANDBOX (cutbox-rows.mjs): the forced cells as the released guide's own fill.sh prints them over the translation 0a0cf2d3024339f1… (all of the seat's roots in one cut). By AI agents, Wed Nov 11 2026. No macro, syntax, notation, axiom, sorry.
-/
import Derived.Test.YtlgjakoeogpjlaaChecked
import GoSem.Claim
import GoSem.ClaimJoined
import GoSem.ClaimMapViews
import Derived.JoinedTies
import Derived.KernelRfl
namespace Go.Proofs.Ytlgjakoeogpjlaa
/- THE CELL 'sum', in the pinned program and in every row, IS THE sha256 OF THE DUMP (.gsa) THAT YtlgjakoeogpjlaaProg.lean LOADS. Nothing in Lean hashes anything: it is a label: what it is worth is what the hold of that sum in a sandbox is worth. -/
noncomputable def Try.pinned : Pinned := { name := "ytlgjakoeogpjlaa", sum := "0a0cf2d3024339f1e4c2089e30f515ce7bf430535a873f400dd7059a27e9e686", checked := Try.checked }
namespace Rows
def none {H : Type} : Left H := { results := [], args := [] }

/-- 'laws.FnExactFirstStar': WHATEVER THE INPUT: true; the input reads as it did. -/
def fnExactFirstStarSpec : ChangeSpec := { name := "fnExactFirstStar", fn := fun _ => fun
  | [d1, d2] => { results := [.lit (.bool true)], args := [d1, d2] }
  | _ => none }
def fnExactFirstStarRow : OpenClaim := { program := "ytlgjakoeogpjlaa", sum := "0a0cf2d3024339f1e4c2089e30f515ce7bf430535a873f400dd7059a27e9e686", func := "loop.example/g01098/laws.FnExactFirstStar", spec := "fnExactFirstStar", unfollowed := true, recurses := true, apart := false }
def FnExactFirstStarSaid : Prop := fnExactFirstStarRow.holds Try.pinned (OpenSpec.ofChange fnExactFirstStarSpec)

/-- ITS FALSE NEIGHBOUR: 'it returns false'. Refute it at one input. -/
def fnExactFirstStarWrong : ChangeSpec := { name := "fnExactFirstStar", fn := fun _ => fun
  | [d1, d2] => { results := [.lit (.bool false)], args := [d1, d2] }
  | _ => none }
def FnExactFirstStarWrongFalsely : Prop := fnExactFirstStarRow.holds Try.pinned (OpenSpec.ofChange fnExactFirstStarWrong)

/-- 'laws.FnExactTreeLevel': WHATEVER THE INPUT: true; the input reads as it did. -/
def fnExactTreeLevelSpec : ChangeSpec := { name := "fnExactTreeLevel", fn := fun _ => fun
  | [d] => { results := [.lit (.bool true)], args := [d] }
  | _ => none }
def fnExactTreeLevelRow : OpenClaim := { program := "ytlgjakoeogpjlaa", sum := "0a0cf2d3024339f1e4c2089e30f515ce7bf430535a873f400dd7059a27e9e686", func := "loop.example/g01098/laws.FnExactTreeLevel", spec := "fnExactTreeLevel", apart := false }
def FnExactTreeLevelSaid : Prop := fnExactTreeLevelRow.holds Try.pinned (OpenSpec.ofChange fnExactTreeLevelSpec)

/-- ITS FALSE NEIGHBOUR: 'it returns false'. Refute it at one input. -/
def fnExactTreeLevelWrong : ChangeSpec := { name := "fnExactTreeLevel", fn := fun _ => fun
  | [d] => { results := [.lit (.bool false)], args := [d] }
  | _ => none }
def FnExactTreeLevelWrongFalsely : Prop := fnExactTreeLevelRow.holds Try.pinned (OpenSpec.ofChange fnExactTreeLevelWrong)

/-- 'laws.FnExactShortestStar': WHATEVER THE INPUT: true; the input reads as it did. -/
def fnExactShortestStarSpec : ChangeSpec := { name := "fnExactShortestStar", fn := fun _ => fun
  | [d] => { results := [.lit (.bool true)], args := [d] }
  | _ => none }
def fnExactShortestStarRow : OpenClaim := { program := "ytlgjakoeogpjlaa", sum := "0a0cf2d3024339f1e4c2089e30f515ce7bf430535a873f400dd7059a27e9e686", func := "loop.example/g01098/laws.FnExactShortestStar", spec := "fnExactShortestStar", unfollowed := true, recurses := true, apart := false }
def FnExactShortestStarSaid : Prop := fnExactShortestStarRow.holds Try.pinned (OpenSpec.ofChange fnExactShortestStarSpec)

/-- ITS FALSE NEIGHBOUR: 'it returns false'. Refute it at one input. -/
def fnExactShortestStarWrong : ChangeSpec := { name := "fnExactShortestStar", fn := fun _ => fun
  | [d] => { results := [.lit (.bool false)], args := [d] }
  | _ => none }
def FnExactShortestStarWrongFalsely : Prop := fnExactShortestStarRow.holds Try.pinned (OpenSpec.ofChange fnExactShortestStarWrong)

/-- 'laws.FnExactTreePath': WHATEVER THE INPUT: true; the input reads as it did. -/
def fnExactTreePathSpec : ChangeSpec := { name := "fnExactTreePath", fn := fun _ => fun
  | [d] => { results := [.lit (.bool true)], args := [d] }
  | _ => none }
def fnExactTreePathRow : OpenClaim := { program := "ytlgjakoeogpjlaa", sum := "0a0cf2d3024339f1e4c2089e30f515ce7bf430535a873f400dd7059a27e9e686", func := "loop.example/g01098/laws.FnExactTreePath", spec := "fnExactTreePath", apart := false }
def FnExactTreePathSaid : Prop := fnExactTreePathRow.holds Try.pinned (OpenSpec.ofChange fnExactTreePathSpec)

/-- ITS FALSE NEIGHBOUR: 'it returns false'. Refute it at one input. -/
def fnExactTreePathWrong : ChangeSpec := { name := "fnExactTreePath", fn := fun _ => fun
  | [d] => { results := [.lit (.bool false)], args := [d] }
  | _ => none }
def FnExactTreePathWrongFalsely : Prop := fnExactTreePathRow.holds Try.pinned (OpenSpec.ofChange fnExactTreePathWrong)

/-- 'laws.FnExactAllShortest': WHATEVER THE INPUT: true; the input reads as it did. -/
def fnExactAllShortestSpec : ChangeSpec := { name := "fnExactAllShortest", fn := fun _ => fun
  | [d] => { results := [.lit (.bool true)], args := [d] }
  | _ => none }
def fnExactAllShortestRow : OpenClaim := { program := "ytlgjakoeogpjlaa", sum := "0a0cf2d3024339f1e4c2089e30f515ce7bf430535a873f400dd7059a27e9e686", func := "loop.example/g01098/laws.FnExactAllShortest", spec := "fnExactAllShortest", unfollowed := true, recurses := true, apart := false }
def FnExactAllShortestSaid : Prop := fnExactAllShortestRow.holds Try.pinned (OpenSpec.ofChange fnExactAllShortestSpec)

/-- ITS FALSE NEIGHBOUR: 'it returns false'. Refute it at one input. -/
def fnExactAllShortestWrong : ChangeSpec := { name := "fnExactAllShortest", fn := fun _ => fun
  | [d] => { results := [.lit (.bool false)], args := [d] }
  | _ => none }
def FnExactAllShortestWrongFalsely : Prop := fnExactAllShortestRow.holds Try.pinned (OpenSpec.ofChange fnExactAllShortestWrong)

/-- 'laws.FnStarChecks': WHATEVER THE INPUT: true; the input reads as it did. -/
def fnStarChecksSpec : ChangeSpec := { name := "fnStarChecks", fn := fun _ => fun
  | [d1, d2] => { results := [.lit (.bool true)], args := [d1, d2] }
  | _ => none }
def fnStarChecksRow : OpenClaim := { program := "ytlgjakoeogpjlaa", sum := "0a0cf2d3024339f1e4c2089e30f515ce7bf430535a873f400dd7059a27e9e686", func := "loop.example/g01098/laws.FnStarChecks", spec := "fnStarChecks", unfollowed := true, recurses := true, apart := false }
def FnStarChecksSaid : Prop := fnStarChecksRow.holds Try.pinned (OpenSpec.ofChange fnStarChecksSpec)

/-- ITS FALSE NEIGHBOUR: 'it returns false'. Refute it at one input. -/
def fnStarChecksWrong : ChangeSpec := { name := "fnStarChecks", fn := fun _ => fun
  | [d1, d2] => { results := [.lit (.bool false)], args := [d1, d2] }
  | _ => none }
def FnStarChecksWrongFalsely : Prop := fnStarChecksRow.holds Try.pinned (OpenSpec.ofChange fnStarChecksWrong)

/-- 'laws.FnPowerTree': WHATEVER THE INPUT: true; the input reads as it did. -/
def fnPowerTreeSpec : ChangeSpec := { name := "fnPowerTree", fn := fun _ => fun
  | [d1, d2] => { results := [.lit (.bool true)], args := [d1, d2] }
  | _ => none }
def fnPowerTreeRow : OpenClaim := { program := "ytlgjakoeogpjlaa", sum := "0a0cf2d3024339f1e4c2089e30f515ce7bf430535a873f400dd7059a27e9e686", func := "loop.example/g01098/laws.FnPowerTree", spec := "fnPowerTree", apart := false }
def FnPowerTreeSaid : Prop := fnPowerTreeRow.holds Try.pinned (OpenSpec.ofChange fnPowerTreeSpec)

/-- ITS FALSE NEIGHBOUR: 'it returns false'. Refute it at one input. -/
def fnPowerTreeWrong : ChangeSpec := { name := "fnPowerTree", fn := fun _ => fun
  | [d1, d2] => { results := [.lit (.bool false)], args := [d1, d2] }
  | _ => none }
def FnPowerTreeWrongFalsely : Prop := fnPowerTreeRow.holds Try.pinned (OpenSpec.ofChange fnPowerTreeWrong)

/-- 'laws.FnAllShortestStars': WHATEVER THE INPUT: true; the input reads as it did. -/
def fnAllShortestStarsSpec : ChangeSpec := { name := "fnAllShortestStars", fn := fun _ => fun
  | [d1, d2] => { results := [.lit (.bool true)], args := [d1, d2] }
  | _ => none }
def fnAllShortestStarsRow : OpenClaim := { program := "ytlgjakoeogpjlaa", sum := "0a0cf2d3024339f1e4c2089e30f515ce7bf430535a873f400dd7059a27e9e686", func := "loop.example/g01098/laws.FnAllShortestStars", spec := "fnAllShortestStars", unfollowed := true, recurses := true, apart := false }
def FnAllShortestStarsSaid : Prop := fnAllShortestStarsRow.holds Try.pinned (OpenSpec.ofChange fnAllShortestStarsSpec)

/-- ITS FALSE NEIGHBOUR: 'it returns false'. Refute it at one input. -/
def fnAllShortestStarsWrong : ChangeSpec := { name := "fnAllShortestStars", fn := fun _ => fun
  | [d1, d2] => { results := [.lit (.bool false)], args := [d1, d2] }
  | _ => none }
def FnAllShortestStarsWrongFalsely : Prop := fnAllShortestStarsRow.holds Try.pinned (OpenSpec.ofChange fnAllShortestStarsWrong)

/-- 'laws.FnStarCounts': WHATEVER THE INPUT: true; the input reads as it did. -/
def fnStarCountsSpec : ChangeSpec := { name := "fnStarCounts", fn := fun _ => fun
  | [d1, d2] => { results := [.lit (.bool true)], args := [d1, d2] }
  | _ => none }
def fnStarCountsRow : OpenClaim := { program := "ytlgjakoeogpjlaa", sum := "0a0cf2d3024339f1e4c2089e30f515ce7bf430535a873f400dd7059a27e9e686", func := "loop.example/g01098/laws.FnStarCounts", spec := "fnStarCounts", unfollowed := true, recurses := true, apart := false }
def FnStarCountsSaid : Prop := fnStarCountsRow.holds Try.pinned (OpenSpec.ofChange fnStarCountsSpec)

/-- ITS FALSE NEIGHBOUR: 'it returns false'. Refute it at one input. -/
def fnStarCountsWrong : ChangeSpec := { name := "fnStarCounts", fn := fun _ => fun
  | [d1, d2] => { results := [.lit (.bool false)], args := [d1, d2] }
  | _ => none }
def FnStarCountsWrongFalsely : Prop := fnStarCountsRow.holds Try.pinned (OpenSpec.ofChange fnStarCountsWrong)

/-- 'laws.FnShortestStars': WHATEVER THE INPUT: true; the input reads as it did. -/
def fnShortestStarsSpec : ChangeSpec := { name := "fnShortestStars", fn := fun _ => fun
  | [d1, d2] => { results := [.lit (.bool true)], args := [d1, d2] }
  | _ => none }
def fnShortestStarsRow : OpenClaim := { program := "ytlgjakoeogpjlaa", sum := "0a0cf2d3024339f1e4c2089e30f515ce7bf430535a873f400dd7059a27e9e686", func := "loop.example/g01098/laws.FnShortestStars", spec := "fnShortestStars", unfollowed := true, recurses := true, apart := false }
def FnShortestStarsSaid : Prop := fnShortestStarsRow.holds Try.pinned (OpenSpec.ofChange fnShortestStarsSpec)

/-- ITS FALSE NEIGHBOUR: 'it returns false'. Refute it at one input. -/
def fnShortestStarsWrong : ChangeSpec := { name := "fnShortestStars", fn := fun _ => fun
  | [d1, d2] => { results := [.lit (.bool false)], args := [d1, d2] }
  | _ => none }
def FnShortestStarsWrongFalsely : Prop := fnShortestStarsRow.holds Try.pinned (OpenSpec.ofChange fnShortestStarsWrong)

/-- 'laws.FnExactStarEnds': WHATEVER THE INPUT: true; the input reads as it did. -/
def fnExactStarEndsSpec : ChangeSpec := { name := "fnExactStarEnds", fn := fun _ => fun
  | [d] => { results := [.lit (.bool true)], args := [d] }
  | _ => none }
def fnExactStarEndsRow : OpenClaim := { program := "ytlgjakoeogpjlaa", sum := "0a0cf2d3024339f1e4c2089e30f515ce7bf430535a873f400dd7059a27e9e686", func := "loop.example/g01098/laws.FnExactStarEnds", spec := "fnExactStarEnds", recurses := true, apart := false }
def FnExactStarEndsSaid : Prop := fnExactStarEndsRow.holds Try.pinned (OpenSpec.ofChange fnExactStarEndsSpec)

/-- ITS FALSE NEIGHBOUR: 'it returns false'. Refute it at one input. -/
def fnExactStarEndsWrong : ChangeSpec := { name := "fnExactStarEnds", fn := fun _ => fun
  | [d] => { results := [.lit (.bool false)], args := [d] }
  | _ => none }
def FnExactStarEndsWrongFalsely : Prop := fnExactStarEndsRow.holds Try.pinned (OpenSpec.ofChange fnExactStarEndsWrong)

/-- 'laws.FnStarEnds': WHATEVER THE INPUT: true; the input reads as it did. -/
def fnStarEndsSpec : ChangeSpec := { name := "fnStarEnds", fn := fun _ => fun
  | [d1, d2] => { results := [.lit (.bool true)], args := [d1, d2] }
  | _ => none }
def fnStarEndsRow : OpenClaim := { program := "ytlgjakoeogpjlaa", sum := "0a0cf2d3024339f1e4c2089e30f515ce7bf430535a873f400dd7059a27e9e686", func := "loop.example/g01098/laws.FnStarEnds", spec := "fnStarEnds", unfollowed := true, recurses := true, apart := false }
def FnStarEndsSaid : Prop := fnStarEndsRow.holds Try.pinned (OpenSpec.ofChange fnStarEndsSpec)

/-- ITS FALSE NEIGHBOUR: 'it returns false'. Refute it at one input. -/
def fnStarEndsWrong : ChangeSpec := { name := "fnStarEnds", fn := fun _ => fun
  | [d1, d2] => { results := [.lit (.bool false)], args := [d1, d2] }
  | _ => none }
def FnStarEndsWrongFalsely : Prop := fnStarEndsRow.holds Try.pinned (OpenSpec.ofChange fnStarEndsWrong)

/- THE SECOND FORM. 'bulk': how many values and letters a reading holds, each counted each time it is reached (what is shared counts as often as it is met; a slice's spare places count too). A statement '..UptoSaid' is the law's where the arguments, and the package variables that the reading takes, are together of bulk at most 1048576: NARROWER than '..Said'. Prove '..Said' where nothing that the law and all that it calls make is longer than what came in: it says more and counts as full. Else prove '..UptoSaid'. A law counts once. -/
mutual
def uptoBulk {H : Type} : DataW H → Nat
  | .lit (.string bytes) => bytes.length + 1
  | .lit _ => 1
  | .nil => 1
  | .ptr d => uptoBulk d + 1
  | .slice elems spare => uptoBulkAll elems + uptoBulkAll spare + 1
  | .agg parts => uptoBulkAll parts + 1
  | .iface _ d => uptoBulk d + 1
  | .map entries => uptoBulkEntries entries + 1
  | .held _ => 1
def uptoBulkAll {H : Type} : List (DataW H) → Nat
  | [] => 0
  | d :: r => uptoBulk d + uptoBulkAll r
def uptoBulkEntries {H : Type} : List (Lit × DataW H) → Nat
  | [] => 0
  | x :: r => uptoBulkEntry x + uptoBulkEntries r
def uptoBulkEntry {H : Type} : Lit × DataW H → Nat
  | (.string bytes, d) => bytes.length + uptoBulk d + 1
  | (_, d) => uptoBulk d + 1
 end
def uptoSmall : (H : Type) → List (DataW H) → Bool := fun _ ds => decide (uptoBulkAll ds ≤ 1048576)
def OpenSpec.upto (s : _root_.Go.ChangeSpec) : _root_.Go.OpenSpec := { _root_.Go.OpenSpec.ofChange s with cond := some uptoSmall }

/-- 'laws.FnExactFirstStar', WHERE WHAT IT READS IS OF BULK AT MOST 1048576: true; the input reads as it did. -/
def fnExactFirstStarUptoRow : OpenClaim := { program := "ytlgjakoeogpjlaa", sum := "0a0cf2d3024339f1e4c2089e30f515ce7bf430535a873f400dd7059a27e9e686", func := "loop.example/g01098/laws.FnExactFirstStar", spec := "fnExactFirstStar", unfollowed := true, recurses := true, apart := false, narrowed := true }
def FnExactFirstStarUptoSaid : Prop := fnExactFirstStarUptoRow.holds Try.pinned (OpenSpec.upto fnExactFirstStarSpec)

/-- 'laws.FnExactTreeLevel', WHERE WHAT IT READS IS OF BULK AT MOST 1048576: true; the input reads as it did. -/
def fnExactTreeLevelUptoRow : OpenClaim := { program := "ytlgjakoeogpjlaa", sum := "0a0cf2d3024339f1e4c2089e30f515ce7bf430535a873f400dd7059a27e9e686", func := "loop.example/g01098/laws.FnExactTreeLevel", spec := "fnExactTreeLevel", apart := false, narrowed := true }
def FnExactTreeLevelUptoSaid : Prop := fnExactTreeLevelUptoRow.holds Try.pinned (OpenSpec.upto fnExactTreeLevelSpec)

/-- 'laws.FnExactShortestStar', WHERE WHAT IT READS IS OF BULK AT MOST 1048576: true; the input reads as it did. -/
def fnExactShortestStarUptoRow : OpenClaim := { program := "ytlgjakoeogpjlaa", sum := "0a0cf2d3024339f1e4c2089e30f515ce7bf430535a873f400dd7059a27e9e686", func := "loop.example/g01098/laws.FnExactShortestStar", spec := "fnExactShortestStar", unfollowed := true, recurses := true, apart := false, narrowed := true }
def FnExactShortestStarUptoSaid : Prop := fnExactShortestStarUptoRow.holds Try.pinned (OpenSpec.upto fnExactShortestStarSpec)

/-- 'laws.FnExactTreePath', WHERE WHAT IT READS IS OF BULK AT MOST 1048576: true; the input reads as it did. -/
def fnExactTreePathUptoRow : OpenClaim := { program := "ytlgjakoeogpjlaa", sum := "0a0cf2d3024339f1e4c2089e30f515ce7bf430535a873f400dd7059a27e9e686", func := "loop.example/g01098/laws.FnExactTreePath", spec := "fnExactTreePath", apart := false, narrowed := true }
def FnExactTreePathUptoSaid : Prop := fnExactTreePathUptoRow.holds Try.pinned (OpenSpec.upto fnExactTreePathSpec)

/-- 'laws.FnExactAllShortest', WHERE WHAT IT READS IS OF BULK AT MOST 1048576: true; the input reads as it did. -/
def fnExactAllShortestUptoRow : OpenClaim := { program := "ytlgjakoeogpjlaa", sum := "0a0cf2d3024339f1e4c2089e30f515ce7bf430535a873f400dd7059a27e9e686", func := "loop.example/g01098/laws.FnExactAllShortest", spec := "fnExactAllShortest", unfollowed := true, recurses := true, apart := false, narrowed := true }
def FnExactAllShortestUptoSaid : Prop := fnExactAllShortestUptoRow.holds Try.pinned (OpenSpec.upto fnExactAllShortestSpec)

/-- 'laws.FnStarChecks', WHERE WHAT IT READS IS OF BULK AT MOST 1048576: true; the input reads as it did. -/
def fnStarChecksUptoRow : OpenClaim := { program := "ytlgjakoeogpjlaa", sum := "0a0cf2d3024339f1e4c2089e30f515ce7bf430535a873f400dd7059a27e9e686", func := "loop.example/g01098/laws.FnStarChecks", spec := "fnStarChecks", unfollowed := true, recurses := true, apart := false, narrowed := true }
def FnStarChecksUptoSaid : Prop := fnStarChecksUptoRow.holds Try.pinned (OpenSpec.upto fnStarChecksSpec)

/-- 'laws.FnPowerTree', WHERE WHAT IT READS IS OF BULK AT MOST 1048576: true; the input reads as it did. -/
def fnPowerTreeUptoRow : OpenClaim := { program := "ytlgjakoeogpjlaa", sum := "0a0cf2d3024339f1e4c2089e30f515ce7bf430535a873f400dd7059a27e9e686", func := "loop.example/g01098/laws.FnPowerTree", spec := "fnPowerTree", apart := false, narrowed := true }
def FnPowerTreeUptoSaid : Prop := fnPowerTreeUptoRow.holds Try.pinned (OpenSpec.upto fnPowerTreeSpec)

/-- 'laws.FnAllShortestStars', WHERE WHAT IT READS IS OF BULK AT MOST 1048576: true; the input reads as it did. -/
def fnAllShortestStarsUptoRow : OpenClaim := { program := "ytlgjakoeogpjlaa", sum := "0a0cf2d3024339f1e4c2089e30f515ce7bf430535a873f400dd7059a27e9e686", func := "loop.example/g01098/laws.FnAllShortestStars", spec := "fnAllShortestStars", unfollowed := true, recurses := true, apart := false, narrowed := true }
def FnAllShortestStarsUptoSaid : Prop := fnAllShortestStarsUptoRow.holds Try.pinned (OpenSpec.upto fnAllShortestStarsSpec)

/-- 'laws.FnStarCounts', WHERE WHAT IT READS IS OF BULK AT MOST 1048576: true; the input reads as it did. -/
def fnStarCountsUptoRow : OpenClaim := { program := "ytlgjakoeogpjlaa", sum := "0a0cf2d3024339f1e4c2089e30f515ce7bf430535a873f400dd7059a27e9e686", func := "loop.example/g01098/laws.FnStarCounts", spec := "fnStarCounts", unfollowed := true, recurses := true, apart := false, narrowed := true }
def FnStarCountsUptoSaid : Prop := fnStarCountsUptoRow.holds Try.pinned (OpenSpec.upto fnStarCountsSpec)

/-- 'laws.FnShortestStars', WHERE WHAT IT READS IS OF BULK AT MOST 1048576: true; the input reads as it did. -/
def fnShortestStarsUptoRow : OpenClaim := { program := "ytlgjakoeogpjlaa", sum := "0a0cf2d3024339f1e4c2089e30f515ce7bf430535a873f400dd7059a27e9e686", func := "loop.example/g01098/laws.FnShortestStars", spec := "fnShortestStars", unfollowed := true, recurses := true, apart := false, narrowed := true }
def FnShortestStarsUptoSaid : Prop := fnShortestStarsUptoRow.holds Try.pinned (OpenSpec.upto fnShortestStarsSpec)

/-- 'laws.FnExactStarEnds', WHERE WHAT IT READS IS OF BULK AT MOST 1048576: true; the input reads as it did. -/
def fnExactStarEndsUptoRow : OpenClaim := { program := "ytlgjakoeogpjlaa", sum := "0a0cf2d3024339f1e4c2089e30f515ce7bf430535a873f400dd7059a27e9e686", func := "loop.example/g01098/laws.FnExactStarEnds", spec := "fnExactStarEnds", recurses := true, apart := false, narrowed := true }
def FnExactStarEndsUptoSaid : Prop := fnExactStarEndsUptoRow.holds Try.pinned (OpenSpec.upto fnExactStarEndsSpec)

/-- 'laws.FnStarEnds', WHERE WHAT IT READS IS OF BULK AT MOST 1048576: true; the input reads as it did. -/
def fnStarEndsUptoRow : OpenClaim := { program := "ytlgjakoeogpjlaa", sum := "0a0cf2d3024339f1e4c2089e30f515ce7bf430535a873f400dd7059a27e9e686", func := "loop.example/g01098/laws.FnStarEnds", spec := "fnStarEnds", unfollowed := true, recurses := true, apart := false, narrowed := true }
def FnStarEndsUptoSaid : Prop := fnStarEndsUptoRow.holds Try.pinned (OpenSpec.upto fnStarEndsSpec)

end Rows
end Go.Proofs.Ytlgjakoeogpjlaa
