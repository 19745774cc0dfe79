/- The abstract logic, part 18: the shapes of this program's data. -/
import Derived.Test.YtdcliofmdlhmaaaB8
namespace Go.AL
open Go.RowKit Go.WideShapes Go.ChangeShapes

theorem RdG.map {α β : Type} {k : Nat} {en : β → List AV} {f : α → β} {h : AH} {v : AV} {l : List α} (H : RdG k (fun z => en (f z)) h v l) : RdG k en h v (l.map f) := by
  refine ⟨by rw [H.len]; simp, H.rd.imp id ?_⟩
  rintro ⟨b, o, c, g1, g2, g3⟩
  refine ⟨b, o, c, by rw [g1]; simp, ?_, g3⟩
  have e : (l.map f).flatMap en = l.flatMap fun z => en (f z) := by rw [List.flatMap_map]
  rw [e]
  simpa using g2
/-- Within the bounds of an int. -/
def inI (n : Int) : Prop := -9223372036854775808 ≤ n ∧ n ≤ 9223372036854775807
theorem inI_of {n : Int} (h : (Lit.int .i64 n).wf = true) : inI n := by
  simp [Lit.wf, IntKind.min, IntKind.max, IntKind.signed, IntKind.bits] at h
  exact h
/-! ### Steps, matrices, plans -/
def enStep (s : Int × Int) : List AV := [.i .i64 s.1, .i .i64 s.2]
structure MatM where
  a : Int
  b : Int
  c : Int
  d : Int
  deriving DecidableEq
def enMat (m : MatM) : List AV := [.i .i64 m.a, .i .i64 m.b, .i .i64 m.c, .i .i64 m.d]
structure PlanM where
  n : Int
  steps : List (Int × Int)
  outs : List Int
  deriving DecidableEq
def emptyPlan : PlanM := ⟨0, [], []⟩
/-- A plan as its cells tell it. -/
structure PlC (h : AH) (cs : List AV) (p : PlanM) : Prop where
  ex : ∃ vs vo, cs = [.i .i64 p.n, vs, vo] ∧ RdG 2 enStep h vs p.steps ∧ Rd h vo p.outs
def PlR (h : AH) (v : AV) (p : PlanM) : Prop := ∃ vs vo, v = .agg [.i .i64 p.n, vs, vo] ∧ RdG 2 enStep h vs p.steps ∧ Rd h vo p.outs
theorem PlR.le {h h' : AH} {v : AV} {p : PlanM} (H : PlR h v p) (hle : h.le h') : PlR h' v p := by
  obtain ⟨vs, vo, e, h1, h2⟩ := H
  exact ⟨vs, vo, e, h1.le hle, h2.le hle⟩
structure PlanM.wf (p : PlanM) : Prop where
  n : inI p.n
  steps : ∀ s ∈ p.steps, inI s.1 ∧ inI s.2
  outs : ∀ v ∈ p.outs, inI v
  ls : p.steps.length ≤ 9223372036854775807
  lo : p.outs.length ≤ 9223372036854775807
/-! ### What opened structs tell -/
theorem rel2 {h : AH} {r : List AV} {z : Int × Int × Unit} (H : ∃ a b, r = a ++ b ∧ relI .i64 h a z.1 ∧ ∃ a' b', b = a' ++ b' ∧ relI .i64 h a' z.2.1 ∧ b' = []) : r = enStep (z.1, z.2.1) ∧ inI z.1 ∧ inI z.2.1 := by
  obtain ⟨a, b, rfl, ⟨rfl, h1⟩, a', b', rfl, ⟨rfl, h2⟩, rfl⟩ := H
  exact ⟨rfl, inI_of h1, inI_of h2⟩
theorem rel4 {h : AH} {r : List AV} {z : Int × Int × Int × Int × Unit} (H : ∃ a b, r = a ++ b ∧ relI .i64 h a z.1 ∧ ∃ a b', b = a ++ b' ∧ relI .i64 h a z.2.1 ∧ ∃ a b, b' = a ++ b ∧ relI .i64 h a z.2.2.1 ∧ ∃ a b', b = a ++ b' ∧ relI .i64 h a z.2.2.2.1 ∧ b' = []) :
    r = enMat ⟨z.1, z.2.1, z.2.2.1, z.2.2.2.1⟩ ∧ inI z.1 ∧ inI z.2.1 ∧ inI z.2.2.1 ∧ inI z.2.2.2.1 := by
  obtain ⟨_, _, rfl, ⟨rfl, h1⟩, _, _, rfl, ⟨rfl, h2⟩, _, _, rfl, ⟨rfl, h3⟩, _, _, rfl, ⟨rfl, h4⟩, rfl⟩ := H
  exact ⟨rfl, inI_of h1, inI_of h2, inI_of h3, inI_of h4⟩
def matOf (z : Int × Int × Int × Int × Unit) : MatM := ⟨z.1, z.2.1, z.2.2.1, z.2.2.2.1⟩
def MatM.wf (m : MatM) : Prop := inI m.a ∧ inI m.b ∧ inI m.c ∧ inI m.d
theorem openMats {h : AH} {avs : List AV} {l : List (Int × Int × Int × Int × Unit)} (H : relL 4 (fun h r (z : Int × Int × Int × Int × Unit) => ∃ a b, r = a ++ b ∧ relI .i64 h a z.1 ∧ ∃ a b', b = a ++ b' ∧ relI .i64 h a z.2.1 ∧ ∃ a b, b' = a ++ b ∧ relI .i64 h a z.2.2.1 ∧ ∃ a b', b = a ++ b' ∧ relI .i64 h a z.2.2.2.1 ∧ b' = []) h avs l) :
    ∃ v l', avs = [v] ∧ RdG 4 enMat h v l' ∧ l'.length ≤ maxLen ∧ ∀ m ∈ l', m.wf := by
  obtain ⟨v, h1, h2, h3⟩ := relL_enc (en := fun z => enMat (matOf z)) H fun r z hz => (rel4 hz).1
  refine ⟨v, l.map matOf, h1, h2.map, by simpa using h3, fun m hm => ?_⟩
  obtain ⟨z, hz, rfl⟩ := List.mem_map.1 hm
  exact H.all (p := fun z => (matOf z).wf) (fun r z hz => (rel4 hz).2) z hz
theorem openSteps {h : AH} {avs : List AV} {l : List (Int × Int × Unit)} (H : relL 2 (fun h r (z : Int × Int × Unit) => ∃ a b, r = a ++ b ∧ relI .i64 h a z.1 ∧ ∃ a' b', b = a' ++ b' ∧ relI .i64 h a' z.2.1 ∧ b' = []) h avs l) :
    ∃ v l', avs = [v] ∧ RdG 2 enStep h v l' ∧ l'.length ≤ maxLen ∧ ∀ s ∈ l', inI s.1 ∧ inI s.2 := by
  obtain ⟨v, h1, h2, h3⟩ := relL_enc (en := fun z => enStep (z.1, z.2.1)) H fun r z hz => (rel2 hz).1
  refine ⟨v, l.map fun z => (z.1, z.2.1), h1, h2.map (f := fun z : Int × Int × Unit => (z.1, z.2.1)), by simpa using h3, fun m hm => ?_⟩
  obtain ⟨z, hz, rfl⟩ := List.mem_map.1 hm
  exact H.all (p := fun z => inI z.1 ∧ inI z.2.1) (fun r z hz => (rel2 hz).2) z hz
theorem openPlan {h : AH} {avs : List AV} {z : Int × List (Int × Int × Unit) × List Int × Unit}
    (H : ∃ a b, avs = a ++ b ∧ relI .i64 h a z.1 ∧ ∃ a b', b = a ++ b' ∧ relL 2 (fun h r (z : Int × Int × Unit) => ∃ a b, r = a ++ b ∧ relI .i64 h a z.1 ∧ ∃ a' b', b = a' ++ b' ∧ relI .i64 h a' z.2.1 ∧ b' = []) h a z.2.1 ∧
      ∃ a b, b' = a ++ b ∧ relL 1 (relI .i64) h a z.2.2.1 ∧ b = []) : ∃ p : PlanM, PlR h (.agg avs) p ∧ p.wf := by
  obtain ⟨_, _, rfl, ⟨rfl, h1⟩, _, _, rfl, h2, _, _, rfl, h3, rfl⟩ := H
  obtain ⟨vs, st, rfl, g2, g3, g4⟩ := openSteps h2
  obtain ⟨vo, rfl, f2, f3, f4⟩ := h3.ints
  have hm : maxLen ≤ 9223372036854775807 := by decide
  exact ⟨⟨z.1, st, z.2.2.1⟩, ⟨vs, vo, rfl, g2, f2⟩, ⟨inI_of h1, g4, fun v hv => inI_of (f4 v hv), Nat.le_trans g3 hm, Nat.le_trans f3 hm⟩⟩
end Go.AL
