/- The law FnExactRunWords: for every input that the row tells of, the call returns true, and each argument reads behind it as it read before. The row, out of the contract of the law's walk. -/
import Derived.Test.YtdcliofmdlhmaaaRows
import Derived.Test.YtdcliofmdlhmaaaXFnExactRunWords
import Derived.WalkKit
import Derived.ProofKit
import Derived.OpenShut
import Derived.ShutString
import Derived.ChangeOld
import Derived.Below
import Derived.SizedLaws
import Derived.ChangeSlices
import Derived.ChangeArms
namespace Go.Proofs.Ytdcliofmdlhmaaa.fnExactRunWords
open Go.ChangeShapes Go.WideShapes Go.ChangeAt Go.RowKit Go.AL
open Go.ChangeMaps (open_string shut_string)
set_option linter.unusedVariables false
theorem own : ownKnob Try.prog.godebug = none := by kernel_rfl
theorem laidOut : laidOutB Try.prog = true := by kernel_rfl
set_option maxRecDepth 100000 in
theorem lifted (os : Os) (started : os.Started) (H : Type) (enc : TypeId × Value → H) :
    ReturnsInHanded {} Try.checked os 14 .any (Rows.fnExactRunWordsSpec.pre6 enc Try.prog Try.f14 Rows.fnExactRunWordsRow.domain false) (Rows.fnExactRunWordsSpec.post enc Try.prog Try.f14 false true false false) := by
  refine returnsInHanded_of_change_sized (C := Try.checked) own started (by kernel_rfl) Try.func14
    (ChangeSpec.witness6 (enc := enc) (C := Try.checked) false ⟨#[], #[.agg #[.int .i64 0, .slice none 0 0, .slice none 0 0], .slice none 0 0], []⟩ 8 (by kernel_rfl) (by kernel_rfl) (by kernel_rfl) (by kernel_rfl)) ?_
  intro W base args ds gs before hval0 hW hcnd hsz0 _
  have hsz : (DataW.weightsEach Try.prog (Try.f14.params.toList ++ Rows.fnExactRunWordsSpec.plain.varTypes Try.prog) (ds ++ gs)).all (· ≤ reachBytes) = true := hsz0
  have hval : ∀ (j : Nat) t v, Try.f14.params[j]? = some t → args[j]? = some v → Value.okWide Try.prog W .any base t v := hval0
  have hW' := hW
  obtain ⟨p, q, hA0, hV, rfl, hfz, hnd⟩ := hW
  have hA : DataW.TrodAll enc Try.prog W 0 (fun _ => true) true Try.f14.params.toList args.toList ds p := hA0
  rw [Try.params14] at hA hval hsz
  obtain ⟨v0, vs0, d0, ds0, p0, q0, hargs, rfl, rfl, h0, r0⟩ := trodAll_cons hA
  obtain ⟨v1, vs1, d1, ds1, p1, q1, rfl, rfl, rfl, h1, r1⟩ := trodAll_cons r0
  obtain ⟨rfl, rfl, rfl⟩ := trodAll_nil r1
  obtain rfl : args = #[v0, v1] := by cases args; simp_all
  obtain ⟨rfl, rfl⟩ := trodVars_none hV
  have R := RoRep.empty W
  have wfh : AH.wf ⟨[], [], []⟩ := ⟨rfl, by simp, by simp⟩
  obtain ⟨cs0, rfl, _⟩ := okWide_struct Try.underlying43 (hval 0 44 v0 rfl rfl)
  have k0 := h0
  have lt0 : ∀ x ∈ p0, x.block < W.heap.size := by obtain ⟨m, hm⟩ := k0; exact DataW.trod_lt m _ _ _ hm
  obtain ⟨ι0, hh0, avs0, z0, R, wfh, li0, le0, hvs0, hsc0, hl0, hrel0⟩ := Opn.arg (opnT Try.underlying44 (by kernel_rfl) (opnFc (opnI Try.underlying3) (by kernel_rfl) rfl (opnFc (opnL (opnT Try.underlying125 (by kernel_rfl) (opnFc (opnI Try.underlying3) (by kernel_rfl) rfl (opnFc (opnI Try.underlying3) (by kernel_rfl) rfl (opnF0 _)))) Try.underlying42 (by decide) (by kernel_rfl)) (by kernel_rfl) rfl (opnFc (opnL (opnI Try.underlying3) Try.underlying29 (by decide) (by kernel_rfl)) (by kernel_rfl) rfl (opnF0 _))))) R wfh (hval 0 44 _ rfl rfl) k0
  obtain ⟨pl0, hr0, hw0⟩ := openPlan hrel0
  have hv0 := hvs0.argT hsc0
  obtain ⟨a1, len1, cap1, rfl⟩ := okWide_slice Try.underlying58 (hval 1 58 v1 rfl rfl)
  have k1 := h1
  have lt1 : ∀ x ∈ p1, x.block < W.heap.size := by obtain ⟨m, hm⟩ := k1; exact DataW.trod_lt m _ _ _ hm
  obtain ⟨ι1, hh1, avs1, z1, R, wfh, li1, le1, hvs1, hsc1, hl1, hrel1⟩ := Opn.arg (opnL (opnS Try.underlying9) Try.underlying58 (by decide) (by kernel_rfl)) R wfh (hval 1 58 _ rfl rfl) k1
  have hv0 := hv0.mono li1
  have hr0 := hr0.le le1
  obtain ⟨va1, rfl, hr1, hm1, hw1⟩ := hrel1.strs
  have hv1 := hvs1.arg1 rfl
  clear hA0 hval0 hsz0 hsz
  refine (law_of R (.cons hv0 (.cons hv1 .nil)) (lawFnExactRunWords_ac pl0 _ z1 va1 _ hr0 hw0 hr1 hw1 hm1)).mono fun e W' ⟨he, bel⟩ => ?_
  subst he
  exact ⟨_, rfl, _, _, _, [], _, [], hW', trodAll_mk1 (shut_bool Try.underlying4 _), (trodAll_cons_mk (Below.trod laidOut (by kernel_rfl) (of_decide_eq_true (by kernel_rfl)) k0 bel lt0) (trodAll_cons_mk (Below.trod laidOut (by kernel_rfl) (of_decide_eq_true (by kernel_rfl)) k1 bel lt1) trodAll_mk0)), rfl, bel.frame _, fun h => by cases h⟩
theorem over : Rows.fnExactRunWordsRow.holds Try.pinned (OpenSpec.ofChange Rows.fnExactRunWordsSpec) :=
  OpenClaim.holds_of_wide 14 Try.f14 rfl rfl rfl rfl rfl rfl rfl ⟨rfl, rfl, rfl, rfl, rfl⟩ rfl rfl rfl rfl rfl (by kernel_rfl) Try.func14 (by kernel_rfl)
    (of_decide_eq_true (by kernel_rfl)) (by unfold Func.isWrapper; first | (rw [if_pos (by decide +kernel)]; kernel_rfl) | (rw [if_neg (by decide +kernel)]; exact ⟨rfl, rfl⟩))
    (fun os started H enc _ => lifted os started H enc)
theorem proved : Rows.FnExactRunWordsSaid := over
#print axioms proved
end Go.Proofs.Ytdcliofmdlhmaaa.fnExactRunWords
namespace Go.Proofs.Ytdcliofmdlhmaaa
/-- The row, under a short name, for the claim. -/
theorem fnExactRunWords_holds : Rows.FnExactRunWordsSaid := fnExactRunWords.proved
end Go.Proofs.Ytdcliofmdlhmaaa
