/-
  No cell of these rows narrows 'for every input' (looked for: loops, veiled, ifaces, maps, wideKeys, modest, calm, conditions, laid).
  DERIVED. THE GIVEN ROWS OF THIS SEAT. 7 by the template 'for every input the law returns true; each argument reads behind the call as it read before'; 0 by the template 'total and deterministic' (their statements: YtcopnjopglfllaaTotals.lean).
  GIVEN WITH THE SEED: the statements are not yours to turn. If you find one false, say at which input.
  Laid BY PROGRAM, IN A SANDBOX (cutbox-rows.mjs): the forced cells as the released guide's own fill.sh prints them over the translation 50f6dcb7f28b029c… (all of the seat's roots in one cut). By AI agents, Wed Nov 11 2026. No macro, syntax, notation, axiom, sorry.
-/
import Derived.Test.YtcopnjopglfllaaChecked
import GoSem.Claim
import GoSem.ClaimJoined
import GoSem.ClaimMapViews
import Derived.JoinedTies
import Derived.KernelRfl
namespace Go.Proofs.Ytcopnjopglfllaa
/- THE CELL 'sum', in the pinned program and in every row, IS THE sha256 OF THE DUMP (.gsa) THAT YtcopnjopglfllaaProg.lean LOADS. Nothing in Lean hashes anything: it is a label: what it is worth is what the hold of that sum in a sandbox is worth. -/
noncomputable def Try.pinned : Pinned := { name := "ytcopnjopglfllaa", sum := "50f6dcb7f28b029c478d6a1675bbdfdd3875b412c8706b9075a44832133ac9f2", checked := Try.checked }
namespace Rows
def none {H : Type} : Left H := { results := [], args := [] }

/-- 'laws.FnExactDoCommute': WHATEVER THE INPUT: true; the input reads as it did. -/
def fnExactDoCommuteSpec : ChangeSpec := { name := "fnExactDoCommute", fn := fun _ => fun
  | [d] => { results := [.lit (.bool true)], args := [d] }
  | _ => none }
def fnExactDoCommuteRow : OpenClaim := { program := "ytcopnjopglfllaa", sum := "50f6dcb7f28b029c478d6a1675bbdfdd3875b412c8706b9075a44832133ac9f2", func := "loop.example/g01098/laws.FnExactDoCommute", spec := "fnExactDoCommute", unfollowed := true, recurses := true, apart := false }
def FnExactDoCommuteSaid : Prop := fnExactDoCommuteRow.holds Try.pinned (OpenSpec.ofChange fnExactDoCommuteSpec)

/-- ITS FALSE NEIGHBOUR: 'it returns false'. Refute it at one input. -/
def fnExactDoCommuteWrong : ChangeSpec := { name := "fnExactDoCommute", fn := fun _ => fun
  | [d] => { results := [.lit (.bool false)], args := [d] }
  | _ => none }
def FnExactDoCommuteWrongFalsely : Prop := fnExactDoCommuteRow.holds Try.pinned (OpenSpec.ofChange fnExactDoCommuteWrong)

/-- 'laws.FnPermutations': WHATEVER THE INPUT: true; the input reads as it did. -/
def fnPermutationsSpec : ChangeSpec := { name := "fnPermutations", fn := fun _ => fun
  | [d1, d2] => { results := [.lit (.bool true)], args := [d1, d2] }
  | _ => none }
def fnPermutationsRow : OpenClaim := { program := "ytcopnjopglfllaa", sum := "50f6dcb7f28b029c478d6a1675bbdfdd3875b412c8706b9075a44832133ac9f2", func := "loop.example/g01098/laws.FnPermutations", spec := "fnPermutations", unfollowed := true, recurses := true, apart := false }
def FnPermutationsSaid : Prop := fnPermutationsRow.holds Try.pinned (OpenSpec.ofChange fnPermutationsSpec)

/-- ITS FALSE NEIGHBOUR: 'it returns false'. Refute it at one input. -/
def fnPermutationsWrong : ChangeSpec := { name := "fnPermutations", fn := fun _ => fun
  | [d1, d2] => { results := [.lit (.bool false)], args := [d1, d2] }
  | _ => none }
def FnPermutationsWrongFalsely : Prop := fnPermutationsRow.holds Try.pinned (OpenSpec.ofChange fnPermutationsWrong)

/-- 'laws.FnExactRunPermutations': WHATEVER THE INPUT: true; the input reads as it did. -/
def fnExactRunPermutationsSpec : ChangeSpec := { name := "fnExactRunPermutations", fn := fun _ => fun
  | [d1, d2] => { results := [.lit (.bool true)], args := [d1, d2] }
  | _ => none }
def fnExactRunPermutationsRow : OpenClaim := { program := "ytcopnjopglfllaa", sum := "50f6dcb7f28b029c478d6a1675bbdfdd3875b412c8706b9075a44832133ac9f2", func := "loop.example/g01098/laws.FnExactRunPermutations", spec := "fnExactRunPermutations", unfollowed := true, recurses := true, apart := false }
def FnExactRunPermutationsSaid : Prop := fnExactRunPermutationsRow.holds Try.pinned (OpenSpec.ofChange fnExactRunPermutationsSpec)

/-- ITS FALSE NEIGHBOUR: 'it returns false'. Refute it at one input. -/
def fnExactRunPermutationsWrong : ChangeSpec := { name := "fnExactRunPermutations", fn := fun _ => fun
  | [d1, d2] => { results := [.lit (.bool false)], args := [d1, d2] }
  | _ => none }
def FnExactRunPermutationsWrongFalsely : Prop := fnExactRunPermutationsRow.holds Try.pinned (OpenSpec.ofChange fnExactRunPermutationsWrong)

/-- 'laws.FnExactIsPermutation': WHATEVER THE INPUT: true; the input reads as it did. -/
def fnExactIsPermutationSpec : ChangeSpec := { name := "fnExactIsPermutation", fn := fun _ => fun
  | [d] => { results := [.lit (.bool true)], args := [d] }
  | _ => none }
def fnExactIsPermutationRow : OpenClaim := { program := "ytcopnjopglfllaa", sum := "50f6dcb7f28b029c478d6a1675bbdfdd3875b412c8706b9075a44832133ac9f2", func := "loop.example/g01098/laws.FnExactIsPermutation", spec := "fnExactIsPermutation", unfollowed := true, recurses := true, apart := false }
def FnExactIsPermutationSaid : Prop := fnExactIsPermutationRow.holds Try.pinned (OpenSpec.ofChange fnExactIsPermutationSpec)

/-- ITS FALSE NEIGHBOUR: 'it returns false'. Refute it at one input. -/
def fnExactIsPermutationWrong : ChangeSpec := { name := "fnExactIsPermutation", fn := fun _ => fun
  | [d] => { results := [.lit (.bool false)], args := [d] }
  | _ => none }
def FnExactIsPermutationWrongFalsely : Prop := fnExactIsPermutationRow.holds Try.pinned (OpenSpec.ofChange fnExactIsPermutationWrong)

/-- 'laws.FnExactThenPermutation': WHATEVER THE INPUT: true; the input reads as it did. -/
def fnExactThenPermutationSpec : ChangeSpec := { name := "fnExactThenPermutation", fn := fun _ => fun
  | [d1, d2] => { results := [.lit (.bool true)], args := [d1, d2] }
  | _ => none }
def fnExactThenPermutationRow : OpenClaim := { program := "ytcopnjopglfllaa", sum := "50f6dcb7f28b029c478d6a1675bbdfdd3875b412c8706b9075a44832133ac9f2", func := "loop.example/g01098/laws.FnExactThenPermutation", spec := "fnExactThenPermutation", unfollowed := true, recurses := true, apart := false }
def FnExactThenPermutationSaid : Prop := fnExactThenPermutationRow.holds Try.pinned (OpenSpec.ofChange fnExactThenPermutationSpec)

/-- ITS FALSE NEIGHBOUR: 'it returns false'. Refute it at one input. -/
def fnExactThenPermutationWrong : ChangeSpec := { name := "fnExactThenPermutation", fn := fun _ => fun
  | [d1, d2] => { results := [.lit (.bool false)], args := [d1, d2] }
  | _ => none }
def FnExactThenPermutationWrongFalsely : Prop := fnExactThenPermutationRow.holds Try.pinned (OpenSpec.ofChange fnExactThenPermutationWrong)

/-- 'laws.FnExactPermutationOrder': WHATEVER THE INPUT: true; the input reads as it did. -/
def fnExactPermutationOrderSpec : ChangeSpec := { name := "fnExactPermutationOrder", fn := fun _ => fun
  | [d] => { results := [.lit (.bool true)], args := [d] }
  | _ => none }
def fnExactPermutationOrderRow : OpenClaim := { program := "ytcopnjopglfllaa", sum := "50f6dcb7f28b029c478d6a1675bbdfdd3875b412c8706b9075a44832133ac9f2", func := "loop.example/g01098/laws.FnExactPermutationOrder", spec := "fnExactPermutationOrder", unfollowed := true, recurses := true, apart := false }
def FnExactPermutationOrderSaid : Prop := fnExactPermutationOrderRow.holds Try.pinned (OpenSpec.ofChange fnExactPermutationOrderSpec)

/-- ITS FALSE NEIGHBOUR: 'it returns false'. Refute it at one input. -/
def fnExactPermutationOrderWrong : ChangeSpec := { name := "fnExactPermutationOrder", fn := fun _ => fun
  | [d] => { results := [.lit (.bool false)], args := [d] }
  | _ => none }
def FnExactPermutationOrderWrongFalsely : Prop := fnExactPermutationOrderRow.holds Try.pinned (OpenSpec.ofChange fnExactPermutationOrderWrong)

/-- 'laws.FnExactPermutationPower': WHATEVER THE INPUT: true; the input reads as it did. -/
def fnExactPermutationPowerSpec : ChangeSpec := { name := "fnExactPermutationPower", fn := fun _ => fun
  | [d1, d2] => { results := [.lit (.bool true)], args := [d1, d2] }
  | _ => none }
def fnExactPermutationPowerRow : OpenClaim := { program := "ytcopnjopglfllaa", sum := "50f6dcb7f28b029c478d6a1675bbdfdd3875b412c8706b9075a44832133ac9f2", func := "loop.example/g01098/laws.FnExactPermutationPower", spec := "fnExactPermutationPower", unfollowed := true, recurses := true, apart := false }
def FnExactPermutationPowerSaid : Prop := fnExactPermutationPowerRow.holds Try.pinned (OpenSpec.ofChange fnExactPermutationPowerSpec)

/-- ITS FALSE NEIGHBOUR: 'it returns false'. Refute it at one input. -/
def fnExactPermutationPowerWrong : ChangeSpec := { name := "fnExactPermutationPower", fn := fun _ => fun
  | [d1, d2] => { results := [.lit (.bool false)], args := [d1, d2] }
  | _ => none }
def FnExactPermutationPowerWrongFalsely : Prop := fnExactPermutationPowerRow.holds Try.pinned (OpenSpec.ofChange fnExactPermutationPowerWrong)

/- THE SECOND FORM. 'bulk': how many values and letters a reading holds, each counted each time it is reached (what is shared counts as often as it is met; a slice's spare places count too). A statement '..UptoSaid' is the law's where the arguments, and the package variables that the reading takes, are together of bulk at most 1048576: NARROWER than '..Said'. Prove '..Said' where nothing that the law and all that it calls make is longer than what came in: it says more and counts as full. Else prove '..UptoSaid'. A law counts once. -/
mutual
def uptoBulk {H : Type} : DataW H → Nat
  | .lit (.string bytes) => bytes.length + 1
  | .lit _ => 1
  | .nil => 1
  | .ptr d => uptoBulk d + 1
  | .slice elems spare => uptoBulkAll elems + uptoBulkAll spare + 1
  | .agg parts => uptoBulkAll parts + 1
  | .iface _ d => uptoBulk d + 1
  | .map entries => uptoBulkEntries entries + 1
  | .held _ => 1
def uptoBulkAll {H : Type} : List (DataW H) → Nat
  | [] => 0
  | d :: r => uptoBulk d + uptoBulkAll r
def uptoBulkEntries {H : Type} : List (Lit × DataW H) → Nat
  | [] => 0
  | x :: r => uptoBulkEntry x + uptoBulkEntries r
def uptoBulkEntry {H : Type} : Lit × DataW H → Nat
  | (.string bytes, d) => bytes.length + uptoBulk d + 1
  | (_, d) => uptoBulk d + 1
 end
def uptoSmall : (H : Type) → List (DataW H) → Bool := fun _ ds => decide (uptoBulkAll ds ≤ 1048576)
def OpenSpec.upto (s : _root_.Go.ChangeSpec) : _root_.Go.OpenSpec := { _root_.Go.OpenSpec.ofChange s with cond := some uptoSmall }

/-- 'laws.FnExactDoCommute', WHERE WHAT IT READS IS OF BULK AT MOST 1048576: true; the input reads as it did. -/
def fnExactDoCommuteUptoRow : OpenClaim := { program := "ytcopnjopglfllaa", sum := "50f6dcb7f28b029c478d6a1675bbdfdd3875b412c8706b9075a44832133ac9f2", func := "loop.example/g01098/laws.FnExactDoCommute", spec := "fnExactDoCommute", unfollowed := true, recurses := true, apart := false, narrowed := true }
def FnExactDoCommuteUptoSaid : Prop := fnExactDoCommuteUptoRow.holds Try.pinned (OpenSpec.upto fnExactDoCommuteSpec)

/-- 'laws.FnPermutations', WHERE WHAT IT READS IS OF BULK AT MOST 1048576: true; the input reads as it did. -/
def fnPermutationsUptoRow : OpenClaim := { program := "ytcopnjopglfllaa", sum := "50f6dcb7f28b029c478d6a1675bbdfdd3875b412c8706b9075a44832133ac9f2", func := "loop.example/g01098/laws.FnPermutations", spec := "fnPermutations", unfollowed := true, recurses := true, apart := false, narrowed := true }
def FnPermutationsUptoSaid : Prop := fnPermutationsUptoRow.holds Try.pinned (OpenSpec.upto fnPermutationsSpec)

/-- 'laws.FnExactRunPermutations', WHERE WHAT IT READS IS OF BULK AT MOST 1048576: true; the input reads as it did. -/
def fnExactRunPermutationsUptoRow : OpenClaim := { program := "ytcopnjopglfllaa", sum := "50f6dcb7f28b029c478d6a1675bbdfdd3875b412c8706b9075a44832133ac9f2", func := "loop.example/g01098/laws.FnExactRunPermutations", spec := "fnExactRunPermutations", unfollowed := true, recurses := true, apart := false, narrowed := true }
def FnExactRunPermutationsUptoSaid : Prop := fnExactRunPermutationsUptoRow.holds Try.pinned (OpenSpec.upto fnExactRunPermutationsSpec)

/-- 'laws.FnExactIsPermutation', WHERE WHAT IT READS IS OF BULK AT MOST 1048576: true; the input reads as it did. -/
def fnExactIsPermutationUptoRow : OpenClaim := { program := "ytcopnjopglfllaa", sum := "50f6dcb7f28b029c478d6a1675bbdfdd3875b412c8706b9075a44832133ac9f2", func := "loop.example/g01098/laws.FnExactIsPermutation", spec := "fnExactIsPermutation", unfollowed := true, recurses := true, apart := false, narrowed := true }
def FnExactIsPermutationUptoSaid : Prop := fnExactIsPermutationUptoRow.holds Try.pinned (OpenSpec.upto fnExactIsPermutationSpec)

/-- 'laws.FnExactThenPermutation', WHERE WHAT IT READS IS OF BULK AT MOST 1048576: true; the input reads as it did. -/
def fnExactThenPermutationUptoRow : OpenClaim := { program := "ytcopnjopglfllaa", sum := "50f6dcb7f28b029c478d6a1675bbdfdd3875b412c8706b9075a44832133ac9f2", func := "loop.example/g01098/laws.FnExactThenPermutation", spec := "fnExactThenPermutation", unfollowed := true, recurses := true, apart := false, narrowed := true }
def FnExactThenPermutationUptoSaid : Prop := fnExactThenPermutationUptoRow.holds Try.pinned (OpenSpec.upto fnExactThenPermutationSpec)

/-- 'laws.FnExactPermutationOrder', WHERE WHAT IT READS IS OF BULK AT MOST 1048576: true; the input reads as it did. -/
def fnExactPermutationOrderUptoRow : OpenClaim := { program := "ytcopnjopglfllaa", sum := "50f6dcb7f28b029c478d6a1675bbdfdd3875b412c8706b9075a44832133ac9f2", func := "loop.example/g01098/laws.FnExactPermutationOrder", spec := "fnExactPermutationOrder", unfollowed := true, recurses := true, apart := false, narrowed := true }
def FnExactPermutationOrderUptoSaid : Prop := fnExactPermutationOrderUptoRow.holds Try.pinned (OpenSpec.upto fnExactPermutationOrderSpec)

/-- 'laws.FnExactPermutationPower', WHERE WHAT IT READS IS OF BULK AT MOST 1048576: true; the input reads as it did. -/
def fnExactPermutationPowerUptoRow : OpenClaim := { program := "ytcopnjopglfllaa", sum := "50f6dcb7f28b029c478d6a1675bbdfdd3875b412c8706b9075a44832133ac9f2", func := "loop.example/g01098/laws.FnExactPermutationPower", spec := "fnExactPermutationPower", unfollowed := true, recurses := true, apart := false, narrowed := true }
def FnExactPermutationPowerUptoSaid : Prop := fnExactPermutationPowerUptoRow.holds Try.pinned (OpenSpec.upto fnExactPermutationPowerSpec)

end Rows
end Go.Proofs.Ytcopnjopglfllaa
