/- The logic of what is owned, part 9: structs of ints, held against each other. -/
import Derived.Test.YtdcliofmdlhmaaaD1
import Derived.Laws.StructEq
namespace Go.AL
set_option linter.unusedVariables false
set_option linter.unusedSimpArgs false
open Go.RowKit
/-- Fields that are ints, one behind the other. -/
def intFs (P : Program) : List Field → Nat → Bool
  | [], _ => true
  | f :: fs, k => f.name != "_" && (match P.underlying f.type with | some (.int .i64) => true | _ => false) && f.offset == k && intFs P fs (k + 1)
structure SeI (P : Program) (T : TypeId) (n : Nat) : Prop where
  un : P.underlying T = some (.struct (P.fieldsOf T))
  st : P.stoodInHeld T = false
  gt : P.eqGuardType P.depth T = false
  fs : intFs P (P.fieldsOf T).toList 0 = true
  ln : (P.fieldsOf T).size = n
theorem run_part_int {P : Program} {t : TypeId} {k : IntKind} (h : P.underlying t = some (.int k)) {cs : Array Value} {off : Nat} {v : Value} (hv : cs[off]? = some v) (w : World) : (part t cs off).run P w = .ok v w := by
  have ha : (isAgg t).run P w = .ok false w := run_isAgg_of (P := P) (by simp [aggT, h]) w
  simp [part, ha, hv]
theorem eqFields_int {P : Program} (d : Nat) : ∀ (fs : List Field) (k : Nat) (A B : List Int) (xs ys : Array Value) (w : World), intFs P fs k = true → fs.length = A.length → A.length = B.length →
    (∀ (j : Nat) (z : Int), A[j]? = some z → xs[k + j]? = some (.int .i64 z)) → (∀ (j : Nat) (z : Int), B[j]? = some z → ys[k + j]? = some (.int .i64 z)) →
    (Op.eqFields (d + 1) xs ys fs).run P w = .ok (A == B) w
  | [], k, A, B, xs, ys, w, _, hA, hAB, _, _ => by
    have e1 : A = [] := List.length_eq_zero_iff.1 hA.symm
    have e2 : B = [] := List.length_eq_zero_iff.1 (by rw [← hAB, e1]; rfl)
    subst e1; subst e2; rfl
  | f :: fs, k, A, B, xs, ys, w, hf, hA, hAB, hx, hy => by
    cases A with
    | nil => simp at hA
    | cons p A =>
      cases B with
      | nil => simp at hAB
      | cons q B =>
        simp only [intFs, Bool.and_eq_true, bne_iff_ne, beq_iff_eq] at hf
        obtain ⟨⟨⟨h1, h2⟩, h3⟩, h4⟩ := hf
        have hu : P.underlying f.type = some (.int .i64) := by
          revert h2
          cases P.underlying f.type with
          | none => intro h2; cases h2
          | some t => intro h2; cases t <;> first | (rename_i kk; cases kk <;> first | rfl | cases h2) | cases h2
        have ih := eqFields_int d fs (k + 1) A B xs ys w h4 (by simpa using hA) (by simpa using hAB) (fun j z hz => by rw [show k + 1 + j = k + (j + 1) by omega]; exact hx (j + 1) z (by simpa using hz)) (fun j z hz => by rw [show k + 1 + j = k + (j + 1) by omega]; exact hy (j + 1) z (by simpa using hz))
        have r1 := run_part_int hu (cs := xs) (off := f.offset) (by rw [h3]; exact hx 0 p rfl) w
        have r2 := run_part_int hu (cs := ys) (off := f.offset) (by rw [h3]; exact hy 0 q rfl) w
        rw [Op.eqFields, if_pos h1]
        simp only [Sem.run_bind, r1, r2, Result.andThen_ok, run_equalIn_int w d f.type .i64 .i64 p q hu, Sem.run_ite]
        by_cases hpq : p = q
        · subst hpq
          simp [ih]
        · simp [hpq]
theorem rel_ints {ι : Pl} : ∀ {A : List Int} {cs : List Value}, VRels ι (A.map (AV.i .i64)) cs → ∀ (j : Nat) (z : Int), A[j]? = some z → cs[j]? = some (.int .i64 z)
  | [], _, _, j, z, h => by simp at h
  | a :: A, _, .cons h t, 0, z, e => by simp at e; subst e; rw [rel_i h]; rfl
  | a :: A, _, .cons h t, j + 1, z, e => by simpa using rel_ints t j z (by simpa using e)
section
variable {P : Program} {a : List AV}
theorem OpV_seI {op : BinOp} {T T' : TypeId} {x y : Operand} {A B : List Int} {n : Nat} (hT : SeI P T n) (hA : A.length = n) (hB : B.length = n) (hx : ev a x = some (.agg (A.map (AV.i .i64)))) (hy : ev a y = some (.agg (B.map (AV.i .i64)))) (z : Bool)
    (hop : (op = .eql ∧ z = (A == B)) ∨ (op = .neq ∧ z = !(A == B))) : OpV P (.binOp op T x y T') a (.b z) :=
  fun ι ca hr o ho => by
    have h1 := ev_rel hr hx
    have h2 := ev_rel hr hy
    obtain ⟨xs, e1, r1⟩ : ∃ xs, ca.eval x = .agg xs ∧ VRels ι (A.map (AV.i .i64)) xs.toList := by
      generalize ca.eval x = q at h1
      cases h1 with
      | agg cs vs hs h => exact ⟨vs, rfl, h⟩
    obtain ⟨ys, e2, r2⟩ : ∃ ys, ca.eval y = .agg ys ∧ VRels ι (B.map (AV.i .i64)) ys.toList := by
      generalize ca.eval y = q at h2
      cases h2 with
      | agg cs vs hs h => exact ⟨vs, rfl, h⟩
    have hf : ∀ w, (Op.equalIn 10000 T (.agg xs) (.agg ys)).run P w = .ok (A == B) w := fun w => by
      rw [run_equalIn_struct w 9999 T xs ys hT.un hT.st]
      exact eqFields_int 9998 _ 0 A B xs ys w hT.fs (by rw [Array.length_toList, hT.ln, hA]) (by rw [hA, hB]) (fun j z hz => by rw [Nat.zero_add, ← Array.getElem?_toList]; exact rel_ints r1 j z hz) (fun j z hz => by rw [Nat.zero_add, ← Array.getElem?_toList]; exact rel_ints r2 j z hz)
    refine ⟨.bool z, fun w => ?_, .b _⟩
    have hg : ∀ op X Y, (eqGuard op T X Y (.agg xs) (.agg ys)).run P w = .ok () w := fun op X Y => run_eqGuard_agg w op T X Y xs ys hT.gt
    unfold execOp
    rcases hop with ⟨rfl, rfl⟩ | ⟨rfl, rfl⟩
    · simp only [ho, e1, e2, Sem.run_bind, hg, Result.andThen_ok, run_eql_struct, hf, Sem.run_pure]
    · simp only [ho, e1, e2, Sem.run_bind, hg, Result.andThen_ok, run_neq_struct, hf, Sem.run_pure]
end
end Go.AL
