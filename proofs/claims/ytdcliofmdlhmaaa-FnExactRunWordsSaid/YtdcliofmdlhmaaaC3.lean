/- The logic of what is owned, part 3: the walk through a region that draws its order. -/
import Derived.Test.YtdcliofmdlhmaaaC2
namespace Go.AL
set_option linter.unusedVariables false
set_option linter.unusedSimpArgs false
open Go.RowKit

/-- The kinds of operations of a region: what looks at registers alone; a load; what makes anew, or calls what writes nothing that stood before; what writes. -/
inductive Kd where
  | p | l | e | f | kp
/-- What an operation waits for, and what that waits for in turn (of what stands before it in the text). -/
def ancGo (md : Region.Mode) (ops : Array Oper) : Nat → Array Bool → Array Bool
  | 0, m => m
  | j + 1, m => ancGo md ops j (if m.getD j false then (match ops[j]? with
      | some o => o.after.toList.foldl (fun m e => if Region.binds md e then m.setIfInBounds e.on true else m) m
      | none => m) else m)
def depB (md : Region.Mode) (ops : Array Oper) (f i : Nat) : Bool := f < ops.size && (ancGo md ops ops.size ((Array.replicate ops.size false).setIfInBounds f true)).getD i false
theorem set_in {listed m : Array Bool} {q : Nat} (hq : listed.getD q true = true) (H : ∀ i, m.getD i false = true → listed.getD i true = true) : ∀ i, (m.setIfInBounds q true).getD i false = true → listed.getD i true = true := by
  intro i hi
  by_cases e : q = i
  · subst e; exact hq
  · refine H i ?_
    simp only [Array.getD_eq_getD_getElem?] at hi ⊢
    rwa [Array.getElem?_setIfInBounds_ne e] at hi
theorem ancGo_sound {md : Region.Mode} {ops : Array Oper} {listed : Array Bool} (hc : Clo md ops listed) : ∀ (n : Nat) (m : Array Bool), (∀ i, m.getD i false = true → listed.getD i true = true) → ∀ i, (ancGo md ops n m).getD i false = true → listed.getD i true = true
  | 0, m, H => H
  | j + 1, m, H => by
    unfold ancGo
    refine ancGo_sound hc j _ ?_
    split
    · rename_i hj
      cases ho : ops[j]? with
      | none => exact H
      | some o =>
        have hl := hc j o ho (H j hj)
        have key : ∀ (es : List Edge) (m : Array Bool), (∀ e ∈ es, e ∈ o.after) → (∀ i, m.getD i false = true → listed.getD i true = true) → ∀ i, (es.foldl (fun m e => if Region.binds md e then m.setIfInBounds e.on true else m) m).getD i false = true → listed.getD i true = true := by
          intro es
          induction es with
          | nil => intro m _ H; exact H
          | cons e es ih =>
            intro m he H
            simp only [List.foldl_cons]
            refine ih _ (fun q hq => he q (by simp [hq])) ?_
            split
            · rename_i hb; exact set_in (hl e (he e (by simp)) hb) H
            · exact H
        exact key o.after.toList m (fun e he => by simpa using he) H
    · exact H
theorem Clo.dep {md : Region.Mode} {ops : Array Oper} {listed : Array Bool} (H : Clo md ops listed) (f i : Nat) (h : depB md ops f i = true) (hf : listed.getD f true = true) : listed.getD i true = true := by
  simp only [depB, Bool.and_eq_true] at h
  refine ancGo_sound H _ _ ?_ i h.2
  refine set_in hf fun k hk => ?_
  simp only [Array.getD_eq_getD_getElem?, Array.getElem?_replicate] at hk
  split at hk <;> simp at hk
/-- Orders that branch where two may come next. -/
inductive Tr (α : Type) where
  | n | c (x : α) (r : Tr α) | t (p q : Tr α)
def Tr.dep {α : Type} : Tr α → Nat
  | .n => 0
  | .c _ r => r.dep + 1
  | .t p _ => p.dep
def Tr.heads : Tr (Nat × Kd) → List Nat
  | .n => []
  | .c x _ => [x.1]
  | .t p q => p.heads ++ q.heads
/-- What is ready and not barred. -/
def rdy (md : Region.Mode) (ops : Array Oper) (listed : Array Bool) (bar : List Nat) : List Nat := (Region.ready md ops listed).filter fun j => !bar.contains j
def ordZ (md : Region.Mode) (ops : Array Oper) (F : List Nat) : Tr (Nat × Kd) → List Nat → Array Bool → Bool
  | .n, bar, listed => decide (bar = []) && decide (Region.ready md ops listed = [])
  | .c (i, k) r, bar, listed => (match k with
      | .p => decide (bar = []) && (Region.ready md ops listed).contains i && Region.free md ops listed i && !F.contains i
      | .kp => decide (bar = []) && (Region.ready md ops listed).contains i && Region.free md ops listed i && !F.contains i
      | .l => decide (bar = []) && (Region.ready md ops listed).contains i && Region.free md ops listed i && !F.contains i && F.all fun f => depB md ops f i
      | .e => decide (rdy md ops listed bar = [i])
      | .f => decide (rdy md ops listed bar = [i]) && F.contains i) && ordZ md ops F r [] (listed.setIfInBounds i true)
  | .t p q, bar, listed => decide (p.dep = q.dep) && p.heads.all (fun j => !q.heads.contains j) && ordZ md ops F p (q.heads ++ bar) listed && ordZ md ops F q (p.heads ++ bar) listed
def drawZ (ops : Array Oper) (F : List Nat) (ord : Tr (Nat × Kd)) : Bool :=
  Region.noSelect ops && decide (ord.dep = ops.size) && ordZ .any ops F ord [] (Array.replicate ops.size false)
def ordOpsZ (ops : Array Oper) : Tr (Nat × Kd) → Option (Tr (IOp × Kd))
  | .n => some .n
  | .c (i, k) r => match ops[i]? with
    | some o => if okg ops o then (ordOpsZ ops r).map (.c (iop ops o, k) ·) else none
    | none => none
  | .t p q => match ordOpsZ ops p, ordOpsZ ops q with
    | some p', some q' => some (.t p' q')
    | _, _ => none
theorem ordOpsZ_cons {ops : Array Oper} {ord : Tr (Nat × Kd)} {io : IOp} {k : Kd} {l : Tr (IOp × Kd)} (ho : ordOpsZ ops ord = some (.c (io, k) l)) :
    ∃ i r o, ord = .c (i, k) r ∧ ops[i]? = some o ∧ okg ops o = true ∧ iop ops o = io ∧ ordOpsZ ops r = some l := by
  cases ord with
  | n => simp [ordOpsZ] at ho
  | c x r =>
    obtain ⟨i, k'⟩ := x
    simp only [ordOpsZ] at ho
    cases hoi : ops[i]? with
    | none => rw [hoi] at ho; cases ho
    | some o =>
      rw [hoi] at ho
      simp only at ho
      split at ho
      · rename_i hg
        simp only [Option.map_eq_some_iff, Tr.c.injEq, Prod.mk.injEq] at ho
        obtain ⟨l', hl', ⟨e1, e2⟩, rfl⟩ := ho
        exact ⟨i, r, o, by rw [e2], hoi, hg, e1, hl'⟩
      · cases ho
  | t p q =>
    simp only [ordOpsZ] at ho
    split at ho
    · cases ho
    · cases ho
theorem ordOpsZ_two {ops : Array Oper} {ord : Tr (Nat × Kd)} {l m : Tr (IOp × Kd)} (ho : ordOpsZ ops ord = some (.t l m)) : ∃ p q, ord = .t p q ∧ ordOpsZ ops p = some l ∧ ordOpsZ ops q = some m := by
  cases ord with
  | n => simp [ordOpsZ] at ho
  | c x r =>
    obtain ⟨i, k'⟩ := x
    simp only [ordOpsZ] at ho
    cases hoi : ops[i]? with
    | none => rw [hoi] at ho; cases ho
    | some o =>
      rw [hoi] at ho
      simp only at ho
      split at ho
      · simp only [Option.map_eq_some_iff] at ho
        obtain ⟨l', hl', e⟩ := ho
        cases e
      · cases ho
  | t p q =>
    simp only [ordOpsZ] at ho
    split at ho
    · rename_i p' q' h1 h2
      cases ho
      exact ⟨p, q, rfl, h1, h2⟩
    · cases ho
theorem ordOpsZ_n {ops : Array Oper} {ord : Tr (Nat × Kd)} (ho : ordOpsZ ops ord = some .n) : ord = .n := by
  cases ord with
  | n => rfl
  | c x r =>
    obtain ⟨i, k'⟩ := x
    simp only [ordOpsZ] at ho
    cases hoi : ops[i]? with
    | none => rw [hoi] at ho; cases ho
    | some o =>
      rw [hoi] at ho
      simp only at ho
      split at ho
      · simp only [Option.map_eq_some_iff] at ho
        obtain ⟨l', hl', e⟩ := ho
        cases e
      · cases ho
  | t p q =>
    simp only [ordOpsZ] at ho
    split at ho
    · cases ho
    · cases ho
/-- The same with some that are ready left to another branch. -/
def wpB (P : Program) (md : Region.Mode) (ops : Array Oper) (Qc : Exit → Act → World → Prop) (S : Array Bool → World → Prop) (bar : List Nat) : Nat → Array Bool → Act → World → Prop
  | 0, listed, a, w => bar = [] ∧ wpAnyZ P md ops Qc S 0 listed a w
  | fuel + 1, listed, a, w =>
    (Region.ready md ops listed = [] → Qc .normal a w) ∧
    ∀ i ∈ Region.ready md ops listed, bar.contains i = false → wpOp P ops Qc i (fun a' w' => S (listed.setIfInBounds i true) w' ∧ wpAnyZ P md ops Qc S fuel (listed.setIfInBounds i true) a' w') a w
theorem wpB_nil {P : Program} {md : Region.Mode} {ops : Array Oper} {Qc : Exit → Act → World → Prop} {S : Array Bool → World → Prop} {n : Nat} {listed : Array Bool} {a : Act} {w : World} : wpB P md ops Qc S [] n listed a w ↔ wpAnyZ P md ops Qc S n listed a w := by
  cases n with
  | zero => exact ⟨fun h => h.2, fun h => ⟨rfl, h⟩⟩
  | succ n => exact ⟨fun h => ⟨h.1, fun i hi => h.2 i hi (by simp)⟩, fun h => ⟨h.1, fun i hi _ => h.2 i hi⟩⟩
theorem wpB_two {P : Program} {md : Region.Mode} {ops : Array Oper} {Qc : Exit → Act → World → Prop} {S : Array Bool → World → Prop} {n : Nat} {listed : Array Bool} {a : Act} {w : World} {bar B C : List Nat} (hBC : ∀ j ∈ B, C.contains j = false)
    (h1 : wpB P md ops Qc S (C ++ bar) n listed a w) (h2 : wpB P md ops Qc S (B ++ bar) n listed a w) : wpB P md ops Qc S bar n listed a w := by
  cases n with
  | zero =>
    obtain ⟨e, h⟩ := h1
    simp only [List.append_eq_nil_iff] at e
    exact ⟨e.2, h⟩
  | succ n =>
    refine ⟨h1.1, fun i hi hb => ?_⟩
    by_cases hC : C.contains i = true
    · refine h2.2 i hi ?_
      have hB : B.contains i = false := by
        by_cases hB : B.contains i = true
        · have := hBC i (by simpa using hB)
          rw [hC] at this; cases this
        · simpa using hB
      simp only [List.contains_eq_mem, List.mem_append, decide_eq_false_iff_not] at hB hb ⊢
      rintro (h | h)
      · exact hB h
      · exact hb h
    · refine h1.2 i hi ?_
      simp only [List.contains_eq_mem, List.mem_append, decide_eq_false_iff_not, decide_eq_true_eq] at hC hb ⊢
      rintro (h | h)
      · exact hC h
      · exact hb h
theorem rdy_nil {md : Region.Mode} {ops : Array Oper} {listed : Array Bool} : rdy md ops listed [] = Region.ready md ops listed := by
  unfold rdy
  rw [List.filter_eq_self]
  simp
theorem rdy_mem {md : Region.Mode} {ops : Array Oper} {listed : Array Bool} {bar : List Nat} {i : Nat} (h : rdy md ops listed bar = [i]) : i ∈ Region.ready md ops listed ∧ ∀ j ∈ Region.ready md ops listed, bar.contains j = false → j = i := by
  refine ⟨?_, fun j hj hb => ?_⟩
  · have : i ∈ rdy md ops listed bar := by rw [h]; simp
    exact (List.mem_filter.1 this).1
  · have : j ∈ rdy md ops listed bar := List.mem_filter.2 ⟨hj, by rw [hb]; rfl⟩
    rw [h] at this
    simpa using this
def Szl (F : List Nat) (w1 : World) (listed : Array Bool) (w : World) : Prop := (∀ f ∈ F, listed.getD f true = false) → Below w1.heap.size w1 w
theorem Szl.set {F : List Nat} {w1 : World} {i : Nat} (hi : F.contains i = false) (listed : Array Bool) (w : World) : Szl F w1 (listed.setIfInBounds i true) w ↔ Szl F w1 listed w := by
  have e : ∀ f ∈ F, (listed.setIfInBounds i true).getD f true = listed.getD f true := fun f hf => getD_set_ne true (by rintro rfl; simp [hf] at hi)
  unfold Szl
  constructor
  · exact fun H h => H fun f hf => by rw [e f hf]; exact h f hf
  · exact fun H h => H fun f hf => by rw [← e f hf]; exact h f hf
/-- The writers of a region, and rows that are kept throughout. -/
structure FK where
  f : List Nat
  K : List (Nat × List AV)
def Kp (K : List (Nat × List AV)) (h : AH) : Prop := ∀ x ∈ K, h.row x.1 0 x.2.length = some x.2
theorem Kp.le {K : List (Nat × List AV)} {h h' : AH} (H : Kp K h) (hle : h.le h') : Kp K h' := fun x hx => hle.row (H x hx)
def Szk (F : FK) (base : Nat) (w0 : World) (ι1 : Pl) (w1 : World) (listed : Array Bool) (w : World) : Prop := Szl F.f w1 listed w ∧ ∃ ι' h', ι1.le ι' ∧ Rep base w0 ι' h' w ∧ Kp F.K h'
theorem Szk.set {F : FK} {base : Nat} {w0 : World} {ι1 : Pl} {w1 : World} {i : Nat} (hi : F.f.contains i = false) (listed : Array Bool) (w : World) : Szk F base w0 ι1 w1 (listed.setIfInBounds i true) w ↔ Szk F base w0 ι1 w1 listed w :=
  ⟨fun ⟨h1, h2⟩ => ⟨(Szl.set hi listed w).1 h1, h2⟩, fun ⟨h1, h2⟩ => ⟨(Szl.set hi listed w).2 h1, h2⟩⟩
theorem detS_0 {v : AV} {n : Nat} (h : detS 0 v = true) : detS n v = true := by cases v <;> simp_all [detS]
theorem getD_mono {listed : Array Bool} {i f : Nat} (h : (listed.setIfInBounds i true).getD f true = false) : listed.getD f true = false := by
  by_cases e : i = f
  · subst e
    by_cases hs : i < listed.size
    · simp [hs] at h
    · simp [Array.setIfInBounds, hs] at h
  · rwa [getD_set_ne true e] at h
theorem wanted_of {ops : Array Oper} {o : Oper} {ι : Pl} {a : List AV} {tmps : Array Value} (hg : okg ops o = true) (hr : VRels ι a tmps.toList) (hv : ∀ g want, gd ops o = some (g, want) → a[g]? = some (.b want)) : Region.wanted o (yielded ops tmps) = true := by
  unfold gd at hv
  cases hgu : o.guard with
  | none => simp [Region.wanted, hgu]
  | some jb =>
    obtain ⟨j, b⟩ := jb
    simp only [okg, gd, hgu, Option.isNone_some, Bool.false_or, Option.bind_some] at hg
    cases hd : (ops[j]?).bind (·.dst) with
    | none => rw [hd] at hg; simp at hg
    | some g =>
      have h1 := hv g b (by simp only [hgu, Option.bind_some, hd, Option.map_some])
      obtain ⟨c, hc, hcv⟩ := hr.get h1
      have hcb : tmps[g]? = some (.bool b) := by cases hcv; simpa using hc
      simp [Region.wanted, hgu, yielded, hd, hcb]
theorem unwanted_of {ops : Array Oper} {o : Oper} {ι : Pl} {a : List AV} {tmps : Array Value} {g : Nat} {want : Bool} (hr : VRels ι a tmps.toList) (hg : gd ops o = some (g, want)) (hv : a[g]? = some (.b (!want)) ∨ a[g]? = some un) : Region.wanted o (yielded ops tmps) = false := by
  unfold gd at hg
  cases hgu : o.guard with
  | none => simp [hgu] at hg
  | some jb =>
    obtain ⟨j, b⟩ := jb
    simp only [hgu, Option.bind_some, Option.map_eq_some_iff, Prod.mk.injEq] at hg
    obtain ⟨g', hd, rfl, rfl⟩ := hg
    rcases hv with hv | hv
    · obtain ⟨c, hc, hcv⟩ := hr.get hv
      have hcb : tmps[g']? = some (.bool (!b)) := by cases hcv; simpa using hc
      cases b <;> simp [Region.wanted, hgu, yielded, hd, hcb]
    · obtain ⟨c, hc, hcv⟩ := hr.get hv
      have hcu : c = undef := by
        unfold un at hcv
        cases hcv
        rename_i cs h1
        cases cs with
        | mk l => cases l with
          | nil => rfl
          | cons x l => cases h1
      have hcb : tmps[g']? = some undef := by rw [← hcu]; simpa using hc
      simp [Region.wanted, hgu, yielded, hd, hcb, undef]
/-! ### The walk -/
def AXz (P : Program) (F : FK) (hs : AH) (l : Tr (IOp × Kd)) (K : List AV → AH → Prop) (a : List AV) (h : AH) : Prop :=
  ∀ (ops : Array Oper) (ord : Tr (Nat × Kd)) (bar : List Nat) (listed : Array Bool), ordOpsZ ops ord = some l → Region.noSelect ops = true → ordZ .any ops F.f ord bar listed = true → Clo .any ops listed →
    ∀ base w0 ι0 ι1 w1 ι w ca, Rep base w0 ι1 hs w1 → Kp F.K hs → ι0.le ι1 → ι1.le ι → Szk F base w0 ι1 w1 listed w → Ok base w0 ι0 ι h w a ca → Kp F.K h → ∀ Qc : Exit → Act → World → Prop, (∀ c a w, ¬ Qc (.panic c) a w) →
      (∀ ι' a' h' ca' w', Ok base w0 ι0 ι' h' w' a' ca' → K a' h' → Qc .normal ca' w') → wpB P .any ops Qc (Szk F base w0 ι1 w1) bar ord.dep listed ca w
section
variable {P : Program} {F : FK} {hs h : AH} {l : Tr (IOp × Kd)} {K : List AV → AH → Prop} {a : List AV} {d : Option Nat} {op : Op} {g : Option (Nat × Bool)}
theorem AXz_nil (H : K a h) : AXz P F hs .n K a h := by
  intro ops ord bar listed ho hsl hB hcl base w0 ι0 ι1 w1 ι w ca hrep hKs h01 hle hS hok hKp Qc hQ hQn
  obtain rfl := ordOpsZ_n ho
  simp only [ordZ, Bool.and_eq_true, decide_eq_true_eq] at hB
  exact ⟨hB.1, hB.2, hQn _ _ _ _ _ hok H⟩
/-- Two may come next. -/
theorem AXz_two {p q : Tr (IOp × Kd)} (H1 : AXz P F hs p K a h) (H2 : AXz P F hs q K a h) : AXz P F hs (.t p q) K a h := by
  intro ops ord bar listed ho hsl hB hcl base w0 ι0 ι1 w1 ι w ca hrep hKs h01 hle hS hok hKp Qc hQ hQn
  obtain ⟨p', q', rfl, h1, h2⟩ := ordOpsZ_two ho
  simp only [ordZ, Bool.and_eq_true, decide_eq_true_eq, List.all_eq_true, Bool.not_eq_true'] at hB
  have g1 := H1 ops p' _ listed h1 hsl hB.1.2 hcl base w0 ι0 ι1 w1 ι w ca hrep hKs h01 hle hS hok hKp Qc hQ hQn
  have g2 := H2 ops q' _ listed h2 hsl hB.2 hcl base w0 ι0 ι1 w1 ι w ca hrep hKs h01 hle hS hok hKp Qc hQ hQn
  rw [← hB.1.1.1] at g2
  exact wpB_two hB.1.1.2 g1 g2
/-- Taken first: what yields the same in all worlds that may be there. -/
theorem AXz_take {k : Kd} {v : AV} (hk : k = .p ∨ k = .l ∨ k = .kp) (hgd : ∀ gg want, g = some (gg, want) → a[gg]? = some (.b want))
    (hv : ∀ base w0 ι1 w1 (ι : Pl) (ca : Act), Rep base w0 ι1 hs w1 → Kp F.K hs → ι1.le ι → VRels ι a ca.tmps.toList → ∀ o : Oper, o.op = op → ∃ cv, (∀ w, (k = .p ∨ (k = .l ∧ Below w1.heap.size w1 w) ∨ (k = .kp ∧ ∃ ι' h', ι1.le ι' ∧ Rep base w0 ι' h' w ∧ Kp F.K h')) → (execOp ca.eval o).run P w = .ok (.value cv) w) ∧ VRel ι v cv)
    (H : AXz P F hs l K (st a d v) h) : AXz P F hs (.c (⟨d, op, g⟩, k) l) K a h := by
  intro ops ord bar listed ho hsl hB hcl base w0 ι0 ι1 w1 ι w ca hrep hKs h01 hle hS hok hKp Qc hQ hQn
  obtain ⟨i, r, o, rfl, hoi, hokg, hio, hol⟩ := ordOpsZ_cons ho
  simp only [iop, IOp.mk.injEq] at hio
  obtain ⟨hd, hop, hg⟩ := hio
  obtain ⟨cv, hrun, hrel⟩ := hv base w0 ι1 w1 ι ca hrep hKs hle hok.rel o hop
  have hB' : bar = [] ∧ (Region.ready .any ops listed).contains i = true ∧ Region.free .any ops listed i = true ∧ F.f.contains i = false ∧ (k = .l → ∀ f ∈ F.f, depB .any ops f i = true) ∧ ordZ .any ops F.f r [] (listed.setIfInBounds i true) = true := by
    rcases hk with rfl | rfl | rfl
    · simp only [ordZ, Bool.and_eq_true, Bool.not_eq_true', decide_eq_true_eq] at hB
      exact ⟨hB.1.1.1.1, hB.1.1.1.2, hB.1.1.2, hB.1.2, by simp, hB.2⟩
    · simp only [ordZ, Bool.and_eq_true, Bool.not_eq_true', List.all_eq_true, decide_eq_true_eq] at hB
      exact ⟨hB.1.1.1.1.1, hB.1.1.1.1.2, hB.1.1.1.2, hB.1.1.2, fun _ => hB.1.2, hB.2⟩
    · simp only [ordZ, Bool.and_eq_true, Bool.not_eq_true', decide_eq_true_eq] at hB
      exact ⟨hB.1.1.1.1, hB.1.1.1.2, hB.1.1.2, hB.1.2, by simp, hB.2⟩
  obtain ⟨rfl, b1, b2, b3, b4, b5⟩ := hB'
  refine wpB_nil.2 ?_
  have hmem : i ∈ Region.ready .any ops listed := by simpa using b1
  have hw := wanted_of hokg hok.rel (fun gg want e => hgd gg want (by rw [← hg]; exact e))
  refine wpAnyZ_first hoi (Region.noSelect_spec hsl) (fun c a w hp => absurd hp (hQ _ _ _)) _ listed ca w hcl (Region.free_spec hoi b2) hmem (.inl ⟨hw, fun listed' w' hc hun hS' => hrun w' ?_⟩) hS (Szk.set b3) ?_
  · rcases hk with rfl | rfl | rfl
    · exact .inl rfl
    · refine .inr (.inl ⟨rfl, hS'.1 fun f hf => ?_⟩)
      cases hfl : listed'.getD f true with
      | false => rfl
      | true => have := hc.dep f i (b4 rfl f hf) hfl; rw [hun] at this; cases this
    · exact .inr (.inr ⟨rfl, hS'.2⟩)
  · refine wpB_nil.1 <| H ops r _ _ hol hsl b5 (hcl.ready hmem) base w0 ι0 ι1 w1 ι w _ hrep hKs h01 hle ((Szk.set b3 _ _).2 hS) ⟨hok.le, hok.rep, by rw [put_defers]; exact hok.def_, ?_⟩ hKp Qc hQ hQn
    rw [hd]; exact put_rel hok.rel d hrel
theorem AXz_v {v : AV} (hgd : ∀ gg want, g = some (gg, want) → a[gg]? = some (.b want)) (hv : OpV P op a v) (H : AXz P F hs l K (st a d v) h) : AXz P F hs (.c (⟨d, op, g⟩, .p) l) K a h :=
  AXz_take (.inl rfl) hgd (fun _ _ _ _ ι ca _ _ _ hr o ho => let ⟨cv, h1, h2⟩ := hv ι ca hr o ho; ⟨cv, fun w _ => h1 w, h2⟩) H
theorem AXz_ld {T : TypeId} {x : Operand} {b o' : Nat} {v : AV} (hgd : ∀ gg want, g = some (gg, want) → a[gg]? = some (.b want)) (hx : ev a x = some (.p b o')) (hv : loadA P T hs b o' = some v) (H : AXz P F hs l K (st a d v) h) : AXz P F hs (.c (⟨d, .load T x, g⟩, .l) l) K a h :=
  AXz_take (.inr (.inl rfl)) hgd (fun base w0 ι1 w1 ι ca hrep hKs hle hr o ho => by
    obtain ⟨pl, hpl, hc⟩ := rel_p (ev_rel hr hx)
    have hb := loadA_lt hv
    obtain ⟨pl1, hpl1⟩ := hrep.pl_of hb
    have hpp := pre_get hle.1 hpl1
    rw [hpl] at hpp; cases hpp
    obtain ⟨cv, h1, h2⟩ := run_loadVar_abs (P := P) hrep hpl1 hv
    have hin := hrep.inb b pl hpl1
    refine ⟨cv, fun w hw => ?_, h2.mono hle⟩
    have hB : Below w1.heap.size w1 w := by
      rcases hw with e | ⟨_, h⟩ | ⟨e, _⟩
      · cases e
      · exact h
      · cases e
    have hrun : (loadVar T ⟨pl.c, pl.o + o', none⟩).run P w = .ok cv w := by
      have cell : ∀ n, w.cell? ((⟨pl.c, pl.o + o', none⟩ : Addr).add n) = w1.cell? ((⟨pl.c, pl.o + o', none⟩ : Addr).add n) := fun n => by
        rw [add_none]
        unfold World.cell?
        rw [hB.block pl.c hin]
      have := run_loadVar_keepW (P := P) (w := w1) (w' := w) hrep hpl1 hv h1 cell
      exact this
    unfold execOp
    simp [ho, hc, Instr.loadAt, Instr.sureAddr, hrun]) H
where
  run_loadVar_keepW {P : Program} {base : Nat} {w0 : World} {ι : Pl} {h : AH} {w w' : World} (hrep : Rep base w0 ι h w) {T : TypeId} {b o : Nat} {v : AV} {pl : Place} (hp : ι.bl[b]? = some pl) (H : loadA P T h b o = some v) {cv : Value}
    (hr : (loadVar T ⟨pl.c, pl.o + o, none⟩).run P w = .ok cv w) (hcell : ∀ n, w'.cell? ((⟨pl.c, pl.o + o, none⟩ : Addr).add n) = w.cell? ((⟨pl.c, pl.o + o, none⟩ : Addr).add n)) : (loadVar T ⟨pl.c, pl.o + o, none⟩).run P w' = .ok cv w' := by
    unfold loadA at H
    split at H
    · rename_i hT
      cases hn : szT P T with
      | none => rw [hn] at H; simp at H
      | some n =>
        rw [hn] at H
        simp only [Option.bind_some, Option.map_eq_some_iff] at H
        obtain ⟨l, hl, rfl⟩ := H
        obtain ⟨cl, h1, h2, h3, h4⟩ := rep_row hrep hp hl
        have e1 := run_loadCells_list (P := P) w ⟨pl.c, pl.o + o, none⟩ cl h4
        have e2 := run_loadCells_list (P := P) w' ⟨pl.c, pl.o + o, none⟩ cl (fun j v hj => by rw [hcell]; exact h4 j v hj)
        simp only [loadVar, Sem.run_bind, run_isAgg_of hT, Result.andThen_ok, if_true, run_sizeOf_sz hn, ← h2, e1] at hr
        simp only [loadVar, Sem.run_bind, run_isAgg_of hT, Result.andThen_ok, if_true, run_sizeOf_sz hn, ← h2, e2]
        simp only [Sem.run_pure] at hr ⊢
        cases hr; rfl
    · rename_i hT
      unfold AH.cell at H
      cases hrr : h.cs[b]? with
      | none => rw [hrr] at H; simp at H
      | some r =>
        rw [hrr] at H
        simp only [Option.bind_some] at H
        obtain ⟨cv', hc, hv⟩ := hrep.cell b pl r hp hrr o v H
        have h0 := hcell 0
        rw [add_none] at h0
        simp only [Nat.add_zero] at h0
        simp only [loadVar, Sem.run_bind, run_isAgg_of hT, Result.andThen_ok, Bool.false_eq_true, if_false, run_load, hc] at hr
        simp only [loadVar, Sem.run_bind, run_isAgg_of hT, Result.andThen_ok, Bool.false_eq_true, if_false, run_load, h0, hc]
        cases hr; rfl
    · cases H
/-- A load from a row that is kept. -/
theorem AXz_k {T : TypeId} {x : Operand} {b o' : Nat} {v : AV} {cs : List AV} (hgd : ∀ gg want, g = some (gg, want) → a[gg]? = some (.b want)) (hx : ev a x = some (.p b o')) (hK : (b, cs) ∈ F.K) (hv : cs[o']? = some v) (hT : aggT P T = some false) (hd : detS 0 v = true) (H : AXz P F hs l K (st a d v) h) : AXz P F hs (.c (⟨d, .load T x, g⟩, .kp) l) K a h :=
  AXz_take (.inr (.inr rfl)) hgd (fun base w0 ι1 w1 ι ca hrep hKs hle hr o ho => by
    obtain ⟨pl, hpl, hc⟩ := rel_p (ev_rel hr hx)
    have ho' : o' < cs.length := (List.getElem?_eq_some_iff.1 hv).1
    have ld : ∀ h' : AH, Kp F.K h' → loadA P T h' b o' = some v := fun h' hk => loadA_1 hT (by
      have := row_cell (hk _ hK) ho'
      rw [Nat.zero_add] at this
      rw [this]; exact hv)
    have hv1 := ld hs hKs
    have hb := loadA_lt hv1
    obtain ⟨pl1, hpl1⟩ := hrep.pl_of hb
    have hpp := pre_get hle.1 hpl1
    rw [hpl] at hpp; cases hpp
    obtain ⟨cv, h1, h2⟩ := run_loadVar_abs (P := P) hrep hpl1 hv1
    refine ⟨cv, fun w hw => ?_, h2.mono hle⟩
    obtain ⟨ι', h', hle', hrep', hk'⟩ : ∃ ι' h', ι1.le ι' ∧ Rep base w0 ι' h' w ∧ Kp F.K h' := by
      rcases hw with e | ⟨e, _⟩ | ⟨_, h⟩
      · cases e
      · cases e
      · exact h
    obtain ⟨cv', h1', h2'⟩ := run_loadVar_abs (P := P) hrep' (pre_get hle'.1 hpl1) (ld h' hk')
    have e : cv' = cv := detS_eq hle' (Pl.le.refl _) (detS_0 hd) h2' h2
    subst e
    unfold execOp
    simp [ho, hc, Instr.loadAt, Instr.sureAddr, h1']) H
/-- What is not wanted. -/
theorem AXz_un {k : Kd} {gg : Nat} {want : Bool} (hgd : a[gg]? = some (.b (!want)) ∨ a[gg]? = some un) (H : AXz P F hs l K (st a d un) h) : AXz P F hs (.c (⟨d, op, some (gg, want)⟩, k) l) K a h := by
  intro ops ord bar listed ho hsl hB hcl base w0 ι0 ι1 w1 ι w ca hrep hKs h01 hle hS hok hKp Qc hQ hQn
  obtain ⟨i, r, o, rfl, hoi, hokg, hio, hol⟩ := ordOpsZ_cons ho
  simp only [iop, IOp.mk.injEq] at hio
  obtain ⟨hd, hop, hg⟩ := hio
  have hw := unwanted_of hok.rel hg hgd
  have hok' : Ok base w0 ι0 ι h w (st a d un) (ca.put o.dst undef) := ⟨hok.le, hok.rep, by rw [put_defers]; exact hok.def_, by rw [hd]; exact put_rel hok.rel d (un_rel ι)⟩
  have take : bar = [] → F.f.contains i = false → (Region.ready .any ops listed).contains i = true → Region.free .any ops listed i = true → ordZ .any ops F.f r [] (listed.setIfInBounds i true) = true → wpB P .any ops Qc (Szk F base w0 ι1 w1) bar (Tr.c (i, k) r).dep listed ca w := fun b0 b3 b1 b2 b5 => by
    subst b0
    refine wpB_nil.2 ?_
    have hmem : i ∈ Region.ready .any ops listed := by simpa using b1
    refine wpAnyZ_first hoi (Region.noSelect_spec hsl) (fun c a w hp => absurd hp (hQ _ _ _)) _ listed ca w hcl (Region.free_spec hoi b2) hmem (.inr ⟨hw, rfl⟩) hS (Szk.set b3) ?_
    exact wpB_nil.1 <| H ops r _ _ hol hsl b5 (hcl.ready hmem) base w0 ι0 ι1 w1 ι w _ hrep hKs h01 hle ((Szk.set b3 _ _).2 hS) hok' hKp Qc hQ hQn
  have come : rdy .any ops listed bar = [i] → ordZ .any ops F.f r [] (listed.setIfInBounds i true) = true → wpB P .any ops Qc (Szk F base w0 ι1 w1) bar (Tr.c (i, k) r).dep listed ca w := fun b1 b5 => by
    have hmem : i ∈ Region.ready .any ops listed := (rdy_mem b1).1
    refine ⟨fun e => (by rw [e] at hmem; cases hmem), fun j hj hb => ?_⟩
    have : j = i := (rdy_mem b1).2 j hj hb
    subst this
    unfold wpOp
    simp only [hoi, hw, Bool.false_eq_true, if_false]
    have hS' : Szk F base w0 ι1 w1 (listed.setIfInBounds j true) w := ⟨fun hf => hS.1 fun f hf' => getD_mono (hf f hf'), hS.2⟩
    exact ⟨hS', wpB_nil.1 <| H ops r _ _ hol hsl b5 (hcl.ready hmem) base w0 ι0 ι1 w1 ι w _ hrep hKs h01 hle hS' hok' hKp Qc hQ hQn⟩
  cases k with
  | p => simp only [ordZ, Bool.and_eq_true, Bool.not_eq_true', decide_eq_true_eq] at hB; exact take hB.1.1.1.1 hB.1.2 hB.1.1.1.2 hB.1.1.2 hB.2
  | l => simp only [ordZ, Bool.and_eq_true, Bool.not_eq_true', decide_eq_true_eq] at hB; exact take hB.1.1.1.1.1 hB.1.1.2 hB.1.1.1.1.2 hB.1.1.1.2 hB.2
  | kp => simp only [ordZ, Bool.and_eq_true, Bool.not_eq_true', decide_eq_true_eq] at hB; exact take hB.1.1.1.1 hB.1.2 hB.1.1.1.2 hB.1.1.2 hB.2
  | e => simp only [ordZ, Bool.and_eq_true, decide_eq_true_eq] at hB; exact come hB.1 hB.2
  | f => simp only [ordZ, Bool.and_eq_true, decide_eq_true_eq] at hB; exact come hB.1.1 hB.2
/-- What comes alone and writes. -/
theorem AXz_f (hgd : ∀ gg want, g = some (gg, want) → a[gg]? = some (.b want)) (H : OpR P op d a h (fun a' h' => Kp F.K h' ∧ AXz P F hs l K a' h')) : AXz P F hs (.c (⟨d, op, g⟩, .f) l) K a h := by
  intro ops ord bar listed ho hsl hB hcl base w0 ι0 ι1 w1 ι w ca hrep hKs h01 hle hS hok hKp Qc hQ hQn
  obtain ⟨i, r, o, rfl, hoi, hokg, hio, hol⟩ := ordOpsZ_cons ho
  simp only [iop, IOp.mk.injEq] at hio
  obtain ⟨hd, hop, hg⟩ := hio
  simp only [ordZ, Bool.and_eq_true, decide_eq_true_eq] at hB
  obtain ⟨⟨b1, b3⟩, b5⟩ := hB
  have hmem : i ∈ Region.ready .any ops listed := (rdy_mem b1).1
  have hw := wanted_of hokg hok.rel (fun gg want e => hgd gg want (by rw [← hg]; exact e))
  refine ⟨fun e => (by rw [e] at hmem; cases hmem), fun j hj hb => ?_⟩
  have : j = i := (rdy_mem b1).2 j hj hb
  subst this
  unfold wpOp
  simp only [hoi, hw, if_true]
  have hF : ∀ w', Szl F.f w1 (listed.setIfInBounds j true) w' := fun w' hf => by
    have h1 := hf j (by simpa using b3)
    have hlt : j < listed.size := by
      have h2 := (mem_ready.1 hmem).1
      rcases Nat.lt_or_ge j listed.size with h' | h'
      · exact h'
      · simp [Array.getElem?_eq_none h'] at h2
    simp [hlt] at h1
  refine .inl (H o hop hd base w0 { ι1 with df := ι0.df } ι w ca ⟨hle, hok.rep, hok.def_, hok.rel⟩ _ _ fun ι' a' h' ca' w' hok' hk => ⟨⟨hF w', ι', h', hok'.le, hok'.rep, hk.1⟩, ?_⟩)
  exact wpB_nil.1 <| hk.2 ops r _ _ hol hsl b5 (hcl.ready hmem) base w0 ι0 ι1 w1 ι' w' ca' hrep hKs h01 hok'.le ⟨hF w', ι', h', hok'.le, hok'.rep, hk.1⟩ ⟨h01.trans hok'.le, hok'.rep, hok'.def_, hok'.rel⟩ hk.1 Qc hQ hQn
/-- What comes alone and makes, or calls: done in memory that is frozen for it. -/
theorem AXz_e {X : List AV → List It → Prop} (hgd : ∀ gg want, g = some (gg, want) → a[gg]? = some (.b want)) (H : OpR P op d a h.frz (fun a' h' => ∃ M, Loq h.frz h' M ∧ X a' M))
    (hk : ∀ a' M h', X a' M → Loq h h' M → AXz P F hs l K a' h') : AXz P F hs (.c (⟨d, op, g⟩, .e) l) K a h := by
  intro ops ord bar listed ho hsl hB hcl base w0 ι0 ι1 w1 ι w ca hrep hKs h01 hle hS hok hKp Qc hQ hQn
  obtain ⟨i, r, o, rfl, hoi, hokg, hio, hol⟩ := ordOpsZ_cons ho
  simp only [iop, IOp.mk.injEq] at hio
  obtain ⟨hd, hop, hg⟩ := hio
  simp only [ordZ, Bool.and_eq_true, decide_eq_true_eq] at hB
  obtain ⟨b1, b5⟩ := hB
  have hmem : i ∈ Region.ready .any ops listed := (rdy_mem b1).1
  have hw := wanted_of hokg hok.rel (fun gg want e => hgd gg want (by rw [← hg]; exact e))
  refine ⟨fun e => (by rw [e] at hmem; cases hmem), fun j hj hb => ?_⟩
  have : j = i := (rdy_mem b1).2 j hj hb
  subst this
  unfold wpOp
  simp only [hoi, hw, if_true]
  refine .inl (H o hop hd w.heap.size w { ι with df := ι0.df } ι w ca ⟨⟨List.prefix_rfl, List.prefix_rfl⟩, hok.rep.frz, hok.def_, hok.rel⟩ _ _ fun ι' a' h' ca' w' hok' ⟨M, G, hX⟩ => ?_)
  obtain ⟨R', G'⟩ := hok.rep.merge hok'.rep hok'.le G
  have hB' : Below w.heap.size w w' := hok'.rep.below
  have hKp' := hKp.le G'.le
  have hS' : Szk F base w0 ι1 w1 (listed.setIfInBounds j true) w' := ⟨fun hf => by
    have h1 := hS.1 fun f hf' => getD_mono (hf f hf')
    exact h1.trans (hB'.mono h1.size), ι', _, hle.trans hok'.le, R', hKp'⟩
  exact ⟨hS', wpB_nil.1 <| hk a' M _ hX G' ops r _ _ hol hsl b5 (hcl.ready hmem) base w0 ι0 ι1 w1 ι' w' ca' hrep hKs h01 (hle.trans hok'.le) hS' ⟨hok.le.trans hok'.le, R', hok'.def_, hok'.rel⟩ hKp' Qc hQ hQn⟩
/-- A region that draws its order. -/
theorem AI_drawZ {Q : Exit → List AV → AH → Prop} {id : Nat} {ops : Array Oper} (ord : Tr (Nat × Kd)) (F : FK) (hK : Kp F.K h) {l : Tr (IOp × Kd)} (hm : P.follows .mixedOrders = true) (hB : drawZ ops F.f ord = true) (hl : ordOpsZ ops ord = some l)
    (H : AXz P F h l (fun a' h' => Q .normal a' h') a h) : AI P (.raw (.region id ops true)) Q a h := by
  intro code hd base w0 ι0 ι w ca hok
  obtain rfl := dec_raw hd
  simp only [drawZ, Bool.and_eq_true, decide_eq_true_eq] at hB
  obtain ⟨⟨hs, hlen⟩, hord⟩ := hB
  let Qc : Exit → Act → World → Prop := fun e a' w' => e = .normal ∧ QL base w0 ι0 Q .normal a' w'
  refine Code.wp_mono (Q := Qc) ?_ (wp_region_any hm ?_)
  · rintro e a' w' ⟨rfl, hq⟩; exact hq
  · have hrep := hok.rep.drew
    have hcl : Clo .any ops (Array.replicate ops.size false) := fun j o hj hl => by
      have hjs := (Array.getElem?_eq_some_iff.1 hj).1
      simp [hjs] at hl
    have hgo := wpB_nil.1 <| H ops ord _ _ hl hs hord hcl base w0 ι0 ι _ ι _ ca hrep hK hok.le (Pl.le.refl _) ⟨fun _ => Below.refl _ _, ι, h, Pl.le.refl _, hrep, hK⟩ ⟨hok.le, hrep, hok.def_, hok.rel⟩ hK Qc (fun c a w hq => by cases hq.1) (fun ι' a' h' ca' w' hok' hk => ⟨rfl, ι', a', h', hok', hk⟩)
    rw [hlen] at hgo
    exact wpAny_of_z _ _ _ _ hgo
end
/-! ### The same, over what is owned -/
def LX (P : Program) (F : FK) (h0 : AH) (L0 L : List It) (l : Tr (IOp × Kd)) (Q : Exit → List AV → List It → Prop) (a : List AV) : Prop := ∀ hs h, Loq h0 hs L0 → Loq h0 h L → AXz P F hs l (fun a' h' => Lh h0 Q .normal a' h') a h
section
variable {P : Program} {F : FK} {h0 : AH} {L0 L : List It} {l : Tr (IOp × Kd)} {Q : Exit → List AV → List It → Prop} {a : List AV} {d : Option Nat} {op : Op} {g : Option (Nat × Bool)}
theorem noG {a : List AV} : ∀ (gg : Nat) (want : Bool), (none : Option (Nat × Bool)) = some (gg, want) → a[gg]? = some (.b want) := by intro _ _ e; cases e
theorem isG {a : List AV} {q : Nat} {t : Bool} (h : a[q]? = some (.b t)) : ∀ (gg : Nat) (want : Bool), some (q, t) = some (gg, want) → a[gg]? = some (.b want) := by intro _ _ e; cases e; exact h
theorem LX_nil (H : Q .normal a L) : LX P F h0 L0 L .n Q a := fun _ _ _ HL => AXz_nil ⟨L, HL, H⟩
theorem LX_two {p q : Tr (IOp × Kd)} (H1 : LX P F h0 L0 L p Q a) (H2 : LX P F h0 L0 L q Q a) : LX P F h0 L0 L (.t p q) Q a := fun hs h H0 HL => AXz_two (H1 hs h H0 HL) (H2 hs h H0 HL)
theorem LX_v {v : AV} (hg : ∀ gg want, g = some (gg, want) → a[gg]? = some (.b want)) (hv : OpV P op a v) (H : LX P F h0 L0 L l Q (st a d v)) : LX P F h0 L0 L (.c (⟨d, op, g⟩, .p) l) Q a := fun hs h H0 HL => AXz_v hg hv (H hs h H0 HL)
theorem LX_ld {T : TypeId} {x : Operand} {b o : Nat} {v : AV} (hg : ∀ gg want, g = some (gg, want) → a[gg]? = some (.b want)) (hx : ev a x = some (.p b o)) (hv : ∀ h, Loq h0 h L0 → loadA P T h b o = some v) (H : LX P F h0 L0 L l Q (st a d v)) : LX P F h0 L0 L (.c (⟨d, .load T x, g⟩, .l) l) Q a :=
  fun hs h H0 HL => AXz_ld hg hx (hv hs H0) (H hs h H0 HL)
theorem LX_un {k : Kd} {gg : Nat} {want t : Bool} (hg : a[gg]? = some (.b t)) (ht : t = !want) (H : LX P F h0 L0 L l Q (st a d un)) : LX P F h0 L0 L (.c (⟨d, op, some (gg, want)⟩, k) l) Q a := fun hs h H0 HL => AXz_un (.inl (by rw [hg, ht])) (H hs h H0 HL)
theorem LX_uu {k : Kd} {gg : Nat} {want : Bool} (hg : a[gg]? = some un) (H : LX P F h0 L0 L l Q (st a d un)) : LX P F h0 L0 L (.c (⟨d, op, some (gg, want)⟩, k) l) Q a := fun hs h H0 HL => AXz_un (.inr hg) (H hs h H0 HL)
theorem kp_of {h : AH} {K : List (Nat × List AV)} (HL : Loq h0 h L) (hK : ∀ x ∈ K, It.pt x.1 x.2 ∈ L) : Kp K h := fun x hx => by
  obtain ⟨i, hi⟩ := List.mem_iff_getElem?.1 (hK x hx)
  exact HL.rowsP i hi (by omega) (by rw [List.drop_zero, List.take_length])
theorem LX_fK (hg : ∀ gg want, g = some (gg, want) → a[gg]? = some (.b want)) (H : LO P h0 L op d (fun a' L' => (∀ x ∈ F.K, It.pt x.1 x.2 ∈ L') ∧ LX P F h0 L0 L' l Q a') a) : LX P F h0 L0 L (.c (⟨d, op, g⟩, .f) l) Q a :=
  fun hs h H0 HL => AXz_f hg fun o h1 h2 base w0 ι0 ι w ca hok N R hN => H h HL o h1 h2 base w0 ι0 ι w ca hok N R fun ι' a' h' ca' w' hok' ⟨L', HL', q⟩ => hN ι' a' h' ca' w' hok' ⟨kp_of HL' q.1, q.2 hs h' H0 HL'⟩
theorem LX_f (hg : ∀ gg want, g = some (gg, want) → a[gg]? = some (.b want)) (H : LO P h0 L op d (fun a' L' => LX P F h0 L0 L' l Q a') a) (hF : F.K = [] := by rfl) : LX P F h0 L0 L (.c (⟨d, op, g⟩, .f) l) Q a :=
  fun hs h H0 HL => AXz_f hg fun o h1 h2 base w0 ι0 ι w ca hok N R hN => H h HL o h1 h2 base w0 ι0 ι w ca hok N R fun ι' a' h' ca' w' hok' ⟨L', HL', q⟩ => hN ι' a' h' ca' w' hok' ⟨fun x hx => (by rw [hF] at hx; cases hx), q hs h' H0 HL'⟩
theorem LX_k {T : TypeId} {x : Operand} {b o : Nat} {v : AV} {cs : List AV} [i : Tag P T false] (j : Nat) (hg : ∀ gg want, g = some (gg, want) → a[gg]? = some (.b want)) (hx : ev a x = some (.p b o)) (hi : F.K[j]? = some (b, cs)) (hv : cs[o]? = some v) (hd : detS 0 v = true) (H : LX P F h0 L0 L l Q (st a d v)) : LX P F h0 L0 L (.c (⟨d, .load T x, g⟩, .kp) l) Q a :=
  fun hs h H0 HL => AXz_k hg hx (List.mem_iff_getElem?.2 ⟨j, hi⟩) hv i.e hd (H hs h H0 HL)
theorem LX_e {X : List AV → List It → Prop} (hg : ∀ gg want, g = some (gg, want) → a[gg]? = some (.b want)) (H : ∀ h, Loq h0 h L → LO P h.frz [] op d X a) (hk : ∀ a' M, X a' M → LX P F h0 L0 (M ++ L) l Q a') : LX P F h0 L0 L (.c (⟨d, op, g⟩, .e) l) Q a :=
  fun hs h H0 HL => AXz_e hg (H h HL h.frz (Loq.nil (frz_wf HL.wf))) fun a' M h' hX G => hk a' M hX hs h' H0 (HL.call G)
theorem LI_draw {id : Nat} {ops : Array Oper} (ord : Tr (Nat × Kd)) (F : List Nat) {l : Tr (IOp × Kd)} (hm : P.follows .mixedOrders = true) (hB : drawZ ops F ord = true) (hl : ordOpsZ ops ord = some l)
    (H : LX P ⟨F, []⟩ h0 L L l Q a) : LI P h0 L (.raw (.region id ops true)) Q a := fun h HL => AI_drawZ ord ⟨F, []⟩ (fun x hx => by cases hx) hm hB hl (H h h HL HL)
theorem LI_drawK {id : Nat} {ops : Array Oper} (ord : Tr (Nat × Kd)) (F : List Nat) (K : List (Nat × List AV)) (hK : ∀ x ∈ K, It.pt x.1 x.2 ∈ L) {l : Tr (IOp × Kd)} (hm : P.follows .mixedOrders = true) (hB : drawZ ops F ord = true) (hl : ordOpsZ ops ord = some l)
    (H : LX P ⟨F, K⟩ h0 L L l Q a) : LI P h0 L (.raw (.region id ops true)) Q a := fun h HL => AI_drawZ ord ⟨F, K⟩ (kp_of HL hK) hm hB hl (H h h HL HL)
end
end Go.AL
