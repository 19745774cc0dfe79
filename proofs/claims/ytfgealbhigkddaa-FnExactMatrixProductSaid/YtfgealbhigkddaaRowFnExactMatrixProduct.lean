/- The law FnExactMatrixProduct: for every input that the row tells of, the call returns true, and each argument reads behind it as it read before. The row, out of the contract of the law's walk. -/
import Derived.Test.YtfgealbhigkddaaRows
import Derived.Test.YtfgealbhigkddaaXFnExactMatrixProduct
import Derived.WalkKit
import Derived.ProofKit
import Derived.OpenShut
import Derived.ShutString
import Derived.ChangeOld
import Derived.Below
import Derived.SizedLaws
import Derived.ChangeSlices
import Derived.ChangeArms
namespace Go.Proofs.Ytfgealbhigkddaa.fnExactMatrixProduct
open Go.ChangeShapes Go.WideShapes Go.ChangeAt Go.RowKit Go.AL
open Go.ChangeMaps (open_string shut_string)
set_option linter.unusedVariables false
theorem own : ownKnob Try.prog.godebug = none := by kernel_rfl
theorem laidOut : laidOutB Try.prog = true := by kernel_rfl
set_option maxRecDepth 100000 in
theorem lifted (os : Os) (started : os.Started) (H : Type) (enc : TypeId × Value → H) :
    ReturnsInHanded {} Try.checked os 6 .any (Rows.fnExactMatrixProductSpec.pre6 enc Try.prog Try.f6 Rows.fnExactMatrixProductRow.domain false) (Rows.fnExactMatrixProductSpec.post enc Try.prog Try.f6 false true false false) := by
  refine returnsInHanded_of_change_sized (C := Try.checked) own started (by kernel_rfl) Try.func6
    (ChangeSpec.witness6 (enc := enc) (C := Try.checked) false ⟨#[], #[.agg #[.int .i64 0, .int .i64 0, .int .i64 0, .int .i64 0], .agg #[.int .i64 0, .int .i64 0, .int .i64 0, .int .i64 0], .int .i64 0], []⟩ 8 (by kernel_rfl) (by kernel_rfl) (by kernel_rfl) (by kernel_rfl)) ?_
  intro W base args ds gs before hval0 hW hcnd hsz0 _
  have hsz : (DataW.weightsEach Try.prog (Try.f6.params.toList ++ Rows.fnExactMatrixProductSpec.plain.varTypes Try.prog) (ds ++ gs)).all (· ≤ reachBytes) = true := hsz0
  have hval : ∀ (j : Nat) t v, Try.f6.params[j]? = some t → args[j]? = some v → Value.okWide Try.prog W .any base t v := hval0
  have hW' := hW
  obtain ⟨p, q, hA0, hV, rfl, hfz, hnd⟩ := hW
  have hA : DataW.TrodAll enc Try.prog W 0 (fun _ => true) true Try.f6.params.toList args.toList ds p := hA0
  rw [Try.params6] at hA hval hsz
  obtain ⟨v0, vs0, d0, ds0, p0, q0, hargs, rfl, rfl, h0, r0⟩ := trodAll_cons hA
  obtain ⟨v1, vs1, d1, ds1, p1, q1, rfl, rfl, rfl, h1, r1⟩ := trodAll_cons r0
  obtain ⟨v2, vs2, d2, ds2, p2, q2, rfl, rfl, rfl, h2, r2⟩ := trodAll_cons r1
  obtain ⟨rfl, rfl, rfl⟩ := trodAll_nil r2
  obtain rfl : args = #[v0, v1, v2] := by cases args; simp_all
  obtain ⟨rfl, rfl⟩ := trodVars_none hV
  have R := RoRep.empty W
  have wfh : AH.wf ⟨[], [], []⟩ := ⟨rfl, by simp, by simp⟩
  obtain ⟨cs0, rfl, _⟩ := okWide_struct Try.underlying30 (hval 0 31 v0 rfl rfl)
  have k0 := h0
  have lt0 : ∀ x ∈ p0, x.block < W.heap.size := by obtain ⟨m, hm⟩ := k0; exact DataW.trod_lt m _ _ _ hm
  obtain ⟨ι0, hh0, avs0, z0, R, wfh, li0, le0, hvs0, hsc0, hl0, hrel0⟩ := Opn.arg (opnT Try.underlying31 (by kernel_rfl) (opnFc (opnI Try.underlying3) (by kernel_rfl) rfl (opnFc (opnI Try.underlying3) (by kernel_rfl) rfl (opnFc (opnI Try.underlying3) (by kernel_rfl) rfl (opnFc (opnI Try.underlying3) (by kernel_rfl) rfl (opnF0 _)))))) R wfh (hval 0 31 _ rfl rfl) k0
  obtain ⟨e0, hw0⟩ := rel4 hrel0
  subst e0
  have hv0 := hvs0.argT hsc0
  obtain ⟨cs1, rfl, _⟩ := okWide_struct Try.underlying30 (hval 1 31 v1 rfl rfl)
  have k1 := h1
  have lt1 : ∀ x ∈ p1, x.block < W.heap.size := by obtain ⟨m, hm⟩ := k1; exact DataW.trod_lt m _ _ _ hm
  obtain ⟨ι1, hh1, avs1, z1, R, wfh, li1, le1, hvs1, hsc1, hl1, hrel1⟩ := Opn.arg (opnT Try.underlying31 (by kernel_rfl) (opnFc (opnI Try.underlying3) (by kernel_rfl) rfl (opnFc (opnI Try.underlying3) (by kernel_rfl) rfl (opnFc (opnI Try.underlying3) (by kernel_rfl) rfl (opnFc (opnI Try.underlying3) (by kernel_rfl) rfl (opnF0 _)))))) R wfh (hval 1 31 _ rfl rfl) k1
  have hv0 := hv0.mono li1
  obtain ⟨e1, hw1⟩ := rel4 hrel1
  subst e1
  have hv1 := hvs1.argT hsc1
  obtain ⟨a2, rfl, rfl, rfl, w2⟩ := open_int Try.underlying3 (hval 2 3 v2 rfl rfl) h2
  clear hA0 hval0 hsz0 hsz
  refine (law_of R (.cons hv0 (.cons hv1 (.cons (.i _ _) .nil))) (lawFnExactMatrixProduct_ac (matOf z0) (matOf z1) a2 w2 _ hw0 hw1)).mono fun e W' ⟨he, bel⟩ => ?_
  subst he
  exact ⟨_, rfl, _, _, _, [], _, [], hW', trodAll_mk1 (shut_bool Try.underlying4 _), (trodAll_cons_mk (Below.trod laidOut (by kernel_rfl) (of_decide_eq_true (by kernel_rfl)) k0 bel lt0) (trodAll_cons_mk (Below.trod laidOut (by kernel_rfl) (of_decide_eq_true (by kernel_rfl)) k1 bel lt1) (trodAll_cons_mk (shut_int Try.underlying3 w2) trodAll_mk0))), rfl, bel.frame _, fun h => by cases h⟩
theorem over : Rows.fnExactMatrixProductRow.holds Try.pinned (OpenSpec.ofChange Rows.fnExactMatrixProductSpec) :=
  OpenClaim.holds_of_wide 6 Try.f6 rfl rfl rfl rfl rfl rfl rfl ⟨rfl, rfl, rfl, rfl, rfl⟩ rfl rfl rfl rfl rfl (by kernel_rfl) Try.func6 (by kernel_rfl)
    (of_decide_eq_true (by kernel_rfl)) (by unfold Func.isWrapper; first | (rw [if_pos (by decide +kernel)]; kernel_rfl) | (rw [if_neg (by decide +kernel)]; exact ⟨rfl, rfl⟩))
    (fun os started H enc _ => lifted os started H enc)
theorem proved : Rows.FnExactMatrixProductSaid := over
#print axioms proved
end Go.Proofs.Ytfgealbhigkddaa.fnExactMatrixProduct
namespace Go.Proofs.Ytfgealbhigkddaa
/-- The row, under a short name, for the claim. -/
theorem fnExactMatrixProduct_holds : Rows.FnExactMatrixProductSaid := fnExactMatrixProduct.proved
end Go.Proofs.Ytfgealbhigkddaa
