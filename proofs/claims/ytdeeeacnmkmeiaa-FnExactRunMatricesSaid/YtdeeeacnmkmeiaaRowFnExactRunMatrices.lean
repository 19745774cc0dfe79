/- The law FnExactRunMatrices: for every input that the row tells of, the call returns true, and each argument reads behind it as it read before. The row, out of the contract of the law's walk. -/
import Derived.Test.YtdeeeacnmkmeiaaRows
import Derived.Test.YtdeeeacnmkmeiaaXFnExactRunMatrices
import Derived.WalkKit
import Derived.ProofKit
import Derived.OpenShut
import Derived.ShutString
import Derived.ChangeOld
import Derived.Below
import Derived.SizedLaws
import Derived.ChangeSlices
import Derived.ChangeArms
namespace Go.Proofs.Ytdeeeacnmkmeiaa.fnExactRunMatrices
open Go.ChangeShapes Go.WideShapes Go.ChangeAt Go.RowKit Go.AL
open Go.ChangeMaps (open_string shut_string)
set_option linter.unusedVariables false
theorem own : ownKnob Try.prog.godebug = none := by kernel_rfl
theorem laidOut : laidOutB Try.prog = true := by kernel_rfl
set_option maxRecDepth 100000 in
theorem lifted (os : Os) (started : os.Started) (H : Type) (enc : TypeId × Value → H) :
    ReturnsInHanded {} Try.checked os 14 .any (Rows.fnExactRunMatricesSpec.pre6 enc Try.prog Try.f14 Rows.fnExactRunMatricesRow.domain false) (Rows.fnExactRunMatricesSpec.post enc Try.prog Try.f14 false true false false) := by
  refine returnsInHanded_of_change_sized (C := Try.checked) own started (by kernel_rfl) Try.func14
    (ChangeSpec.witness6 (enc := enc) (C := Try.checked) false ⟨#[], #[.agg #[.int .i64 0, .slice none 0 0, .slice none 0 0], .int .i64 0, .slice none 0 0], []⟩ 8 (by kernel_rfl) (by kernel_rfl) (by kernel_rfl) (by kernel_rfl)) ?_
  intro W base args ds gs before hval0 hW hcnd hsz0 _
  have hsz : (DataW.weightsEach Try.prog (Try.f14.params.toList ++ Rows.fnExactRunMatricesSpec.plain.varTypes Try.prog) (ds ++ gs)).all (· ≤ reachBytes) = true := hsz0
  have hval : ∀ (j : Nat) t v, Try.f14.params[j]? = some t → args[j]? = some v → Value.okWide Try.prog W .any base t v := hval0
  have hW' := hW
  obtain ⟨p, q, hA0, hV, rfl, hfz, hnd⟩ := hW
  have hA : DataW.TrodAll enc Try.prog W 0 (fun _ => true) true Try.f14.params.toList args.toList ds p := hA0
  rw [Try.params14] at hA hval hsz
  obtain ⟨v0, vs0, d0, ds0, p0, q0, hargs, rfl, rfl, h0, r0⟩ := trodAll_cons hA
  obtain ⟨v1, vs1, d1, ds1, p1, q1, rfl, rfl, rfl, h1, r1⟩ := trodAll_cons r0
  obtain ⟨v2, vs2, d2, ds2, p2, q2, rfl, rfl, rfl, h2, r2⟩ := trodAll_cons r1
  obtain ⟨rfl, rfl, rfl⟩ := trodAll_nil r2
  obtain rfl : args = #[v0, v1, v2] := by cases args; simp_all
  obtain ⟨rfl, rfl⟩ := trodVars_none hV
  have R := RoRep.empty W
  have wfh : AH.wf ⟨[], [], []⟩ := ⟨rfl, by simp, by simp⟩
  obtain ⟨cs0, rfl, _⟩ := okWide_struct Try.underlying37 (hval 0 38 v0 rfl rfl)
  have k0 := h0
  have lt0 : ∀ x ∈ p0, x.block < W.heap.size := by obtain ⟨m, hm⟩ := k0; exact DataW.trod_lt m _ _ _ hm
  obtain ⟨ι0, hh0, avs0, z0, R, wfh, li0, le0, hvs0, hsc0, hl0, hrel0⟩ := Opn.arg (opnT Try.underlying38 (by kernel_rfl) (opnFc (opnI Try.underlying3) (by kernel_rfl) rfl (opnFc (opnL (opnT Try.underlying121 (by kernel_rfl) (opnFc (opnI Try.underlying3) (by kernel_rfl) rfl (opnFc (opnI Try.underlying3) (by kernel_rfl) rfl (opnF0 _)))) Try.underlying36 (by decide) (by kernel_rfl)) (by kernel_rfl) rfl (opnFc (opnL (opnI Try.underlying3) Try.underlying25 (by decide) (by kernel_rfl)) (by kernel_rfl) rfl (opnF0 _))))) R wfh (hval 0 38 _ rfl rfl) k0
  obtain ⟨pl0, hr0, hw0⟩ := openPlan hrel0
  have hv0 := hvs0.argT hsc0
  obtain ⟨a1, rfl, rfl, rfl, w1⟩ := open_int Try.underlying3 (hval 1 3 v1 rfl rfl) h1
  obtain ⟨a2, len2, cap2, rfl⟩ := okWide_slice Try.underlying57 (hval 2 57 v2 rfl rfl)
  have k2 := h2
  have lt2 : ∀ x ∈ p2, x.block < W.heap.size := by obtain ⟨m, hm⟩ := k2; exact DataW.trod_lt m _ _ _ hm
  obtain ⟨ι2, hh2, avs2, z2, R, wfh, li2, le2, hvs2, hsc2, hl2, hrel2⟩ := Opn.arg (opnL (opnT Try.underlying109 (by kernel_rfl) (opnFc (opnI Try.underlying3) (by kernel_rfl) rfl (opnFc (opnI Try.underlying3) (by kernel_rfl) rfl (opnFc (opnI Try.underlying3) (by kernel_rfl) rfl (opnFc (opnI Try.underlying3) (by kernel_rfl) rfl (opnF0 _)))))) Try.underlying57 (by decide) (by kernel_rfl)) R wfh (hval 2 57 _ rfl rfl) k2
  have hv0 := hv0.mono li2
  have hr0 := hr0.le le2
  obtain ⟨va2, l2, rfl, hr2, hm2, hw2⟩ := openMats hrel2
  have hv2 := hvs2.arg1 rfl
  clear hA0 hval0 hsz0 hsz
  refine (law_of R (.cons hv0 (.cons (.i _ _) (.cons hv2 .nil))) (lawFnExactRunMatrices_ac pl0 _ a1 w1 l2 va2 _ hr0 hw0 hr2 hw2 hm2)).mono fun e W' ⟨he, bel⟩ => ?_
  subst he
  exact ⟨_, rfl, _, _, _, [], _, [], hW', trodAll_mk1 (shut_bool Try.underlying4 _), (trodAll_cons_mk (Below.trod laidOut (by kernel_rfl) (of_decide_eq_true (by kernel_rfl)) k0 bel lt0) (trodAll_cons_mk (shut_int Try.underlying3 w1) (trodAll_cons_mk (Below.trod laidOut (by kernel_rfl) (of_decide_eq_true (by kernel_rfl)) k2 bel lt2) trodAll_mk0))), rfl, bel.frame _, fun h => by cases h⟩
theorem over : Rows.fnExactRunMatricesRow.holds Try.pinned (OpenSpec.ofChange Rows.fnExactRunMatricesSpec) :=
  OpenClaim.holds_of_wide 14 Try.f14 rfl rfl rfl rfl rfl rfl rfl ⟨rfl, rfl, rfl, rfl, rfl⟩ rfl rfl rfl rfl rfl (by kernel_rfl) Try.func14 (by kernel_rfl)
    (of_decide_eq_true (by kernel_rfl)) (by unfold Func.isWrapper; first | (rw [if_pos (by decide +kernel)]; kernel_rfl) | (rw [if_neg (by decide +kernel)]; exact ⟨rfl, rfl⟩))
    (fun os started H enc _ => lifted os started H enc)
theorem proved : Rows.FnExactRunMatricesSaid := over
#print axioms proved
end Go.Proofs.Ytdeeeacnmkmeiaa.fnExactRunMatrices
namespace Go.Proofs.Ytdeeeacnmkmeiaa
/-- The row, under a short name, for the claim. -/
theorem fnExactRunMatrices_holds : Rows.FnExactRunMatricesSaid := fnExactRunMatrices.proved
end Go.Proofs.Ytdeeeacnmkmeiaa
