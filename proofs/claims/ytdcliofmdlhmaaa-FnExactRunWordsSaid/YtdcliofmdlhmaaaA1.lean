/- The abstract logic, part 1: abstract values and heaps, how they stand for the model's memory, and the rules for code. -/
import Derived.Below
import Derived.Deep.Draws
import Derived.Tactics
import Derived.Laws.Rows
import Derived.Laws.AppendOwn
import Derived.KernelRfl
namespace Go.AL
open Go.RowKit

/-! ### Abstract values -/
inductive AV where
  | b (b : Bool)
  | i (k : IntKind) (n : Int)
  | s (s : ByteArray)
  | p (b off : Nat)
  | np
  | sl (b off len : Nat) (c : Bool)
  | ns
  | f (g : FuncId) (caps : List AV)
  | nf
  | m (r : Nat)
  | nm
  | nif
  | agg (cs : List AV)
  | tup (vs : List AV)
  deriving Inhabited

def AV.sc : AV → Bool
  | .agg _ | .tup _ => false
  | _ => true
def AV.cells : AV → List AV
  | .agg cs => cs
  | v => [v]
def un : AV := .tup []

/-! ### Abstract heaps -/
structure Meta where
  k : Nat
  own : Bool
  anc : List Nat
  deriving Inhabited
structure AH where
  cs : List (List AV)
  mt : List Meta
  mp : List (Bool × List (AV × AV))
  deriving Inhabited
def AH.cell (h : AH) (b o : Nat) : Option AV := (h.cs[b]?).bind (·[o]?)
def AH.row (h : AH) (b o n : Nat) : Option (List AV) := (h.cs[b]?).bind fun l => if o + n ≤ l.length then some ((l.drop o).take n) else none
def AH.new (h : AH) (k : Nat) (l : List AV) : AH := ⟨h.cs ++ [l], h.mt ++ [⟨k, true, []⟩], h.mp⟩
/-- As many metas as blocks; what another block has been made of is nobody's. -/
structure AH.wf (h : AH) : Prop where
  len : h.mt.length = h.cs.length
  no : ∀ (b b' : Nat) (m m' : Meta), h.mt[b]? = some m → b' ∈ m.anc → h.mt[b']? = some m' → m'.own = false
  lt : ∀ (b : Nat) (m : Meta), h.mt[b]? = some m → ∀ b' ∈ m.anc, b' < h.cs.length
theorem get_snoc {α : Type} {l : List α} {x y : α} {i : Nat} (h : (l ++ [x])[i]? = some y) : (i < l.length ∧ l[i]? = some y) ∨ (i = l.length ∧ y = x) := by
  by_cases hi : i < l.length
  · rw [List.getElem?_append_left hi] at h; exact .inl ⟨hi, h⟩
  · rw [List.getElem?_append_right (by omega)] at h
    cases hd : i - l.length with
    | zero => rw [hd] at h; simp at h; exact .inr ⟨by omega, h.symm⟩
    | succ n => rw [hd] at h; simp at h
theorem AH.wf.snoc {h : AH} (H : h.wf) (l : List AV) (m : Meta) (hm : m.anc = []) : AH.wf ⟨h.cs ++ [l], h.mt ++ [m], h.mp⟩ := by
  refine ⟨by simp [H.len], ?_, ?_⟩
  · intro b b' m1 m2 h1 h2 h3
    rcases get_snoc h1 with ⟨_, h1⟩ | ⟨_, rfl⟩
    · have := H.lt b m1 h1 b' h2
      rcases get_snoc h3 with ⟨_, h3⟩ | ⟨e, _⟩
      · exact H.no b b' m1 m2 h1 h2 h3
      · rw [H.len] at e; omega
    · rw [hm] at h2; cases h2
  · intro b m1 h1 b' hb
    rcases get_snoc h1 with ⟨_, h1⟩ | ⟨_, rfl⟩
    · have := H.lt b m1 h1 b' hb
      simp; omega
    · rw [hm] at hb; cases hb
theorem AH.wf.new {h : AH} (H : h.wf) (k : Nat) (l : List AV) : (h.new k l).wf := H.snoc l _ rfl
theorem AH.wf.app {h : AH} (H : h.wf) {b : Nat} {m : Meta} (hm : h.mt[b]? = some m) (l : List AV) (k k' : Nat) : AH.wf ⟨h.cs ++ [l], h.mt.set b ⟨k, false, m.anc⟩ ++ [⟨k', true, b :: m.anc⟩], h.mp⟩ := by
  have hb : b < h.mt.length := (List.getElem?_eq_some_iff.1 hm).1
  have old : ∀ {b1 : Nat} {m1 : Meta}, (h.mt.set b ⟨k, false, m.anc⟩)[b1]? = some m1 → ∃ m0, h.mt[b1]? = some m0 ∧ m1.anc = m0.anc ∧ (b1 = b → m1.own = false) ∧ (b1 ≠ b → m1 = m0) := by
    intro b1 m1 h1
    by_cases e : b1 = b
    · subst e
      rw [List.getElem?_set_self hb] at h1
      cases h1
      exact ⟨m, hm, rfl, fun _ => rfl, fun e => absurd rfl e⟩
    · rw [List.getElem?_set_ne (Ne.symm e)] at h1
      exact ⟨m1, h1, rfl, fun e' => absurd e' e, fun _ => rfl⟩
  refine ⟨by simp [H.len], ?_, ?_⟩
  · intro b1 b2 m1 m2 h1 h2 h3
    have key : ∀ (b2 : Nat) (m2 : Meta), b2 < h.cs.length → (b2 = b ∨ ∃ (b0 : Nat) (m0 : Meta), h.mt[b0]? = some m0 ∧ b2 ∈ m0.anc) → (h.mt.set b ⟨k, false, m.anc⟩ ++ [⟨k', true, b :: m.anc⟩])[b2]? = some m2 → m2.own = false := by
      intro b2 m2 hlt hor h3
      rw [List.getElem?_append_left (by simp [H.len]; exact hlt)] at h3
      obtain ⟨m0, g1, _, g3, g4⟩ := old h3
      by_cases e : b2 = b
      · exact g3 e
      · rw [g4 e]
        obtain ⟨b0, m', q1, q2⟩ := hor.resolve_left e
        exact H.no b0 b2 m' m0 q1 q2 g1
    rcases get_snoc h1 with ⟨_, h1⟩ | ⟨_, rfl⟩
    · obtain ⟨m0, g1, g2, _, _⟩ := old h1
      rw [g2] at h2
      exact key b2 m2 (H.lt _ _ g1 _ h2) (.inr ⟨_, _, g1, h2⟩) h3
    · rcases List.mem_cons.1 h2 with rfl | h2
      · exact key _ m2 (by rw [← H.len]; exact hb) (.inl rfl) h3
      · exact key b2 m2 (H.lt _ _ hm _ h2) (.inr ⟨_, _, hm, h2⟩) h3
  · intro b1 m1 h1 b2 h2
    simp only [List.length_append, List.length_cons, List.length_nil]
    rcases get_snoc h1 with ⟨_, h1⟩ | ⟨_, rfl⟩
    · obtain ⟨m0, g1, g2, _, _⟩ := old h1
      rw [g2] at h2
      have := H.lt _ _ g1 _ h2
      omega
    · rcases List.mem_cons.1 h2 with rfl | h2
      · rw [H.len] at hb; omega
      · have := H.lt _ _ hm _ h2
        omega
theorem AH.wf.cs {h : AH} (H : h.wf) {cs : List (List AV)} (hl : cs.length = h.cs.length) : AH.wf ⟨cs, h.mt, h.mp⟩ := ⟨by simp only [hl, H.len], H.no, fun b m hm b' hb => by simp only [hl]; exact H.lt b m hm b' hb⟩
/-- What had its own memory before has it now, and reads as it did. -/
def AH.le (h h' : AH) : Prop := h.cs <+: h'.cs ∧ h.mt <+: h'.mt ∧ h.mp <+: h'.mp
theorem AH.le.refl (h : AH) : h.le h := ⟨List.prefix_rfl, List.prefix_rfl, List.prefix_rfl⟩
theorem AH.le.trans {a b c : AH} (h : a.le b) (k : b.le c) : a.le c := ⟨h.1.trans k.1, h.2.1.trans k.2.1, h.2.2.trans k.2.2⟩
theorem AH.le.new {h h' : AH} (H : h.le h') (k : Nat) (l : List AV) : h.le (h'.new k l) :=
  ⟨H.1.trans (List.prefix_append _ _), H.2.1.trans (List.prefix_append _ _), H.2.2⟩

/-! ### Places -/
structure Place where
  c : Nat
  o : Nat
  n : Nat
  k : Nat
structure Pl where
  bl : List Place
  mp : List Nat
  df : List Deferred
def Pl.le (a b : Pl) : Prop := a.bl <+: b.bl ∧ a.mp <+: b.mp
theorem Pl.le.refl (a : Pl) : a.le a := ⟨List.prefix_rfl, List.prefix_rfl⟩
theorem Pl.le.trans {a b c : Pl} (h : a.le b) (k : b.le c) : a.le c := ⟨h.1.trans k.1, h.2.trans k.2⟩
def Pl.add (a : Pl) (p : Place) : Pl := ⟨a.bl ++ [p], a.mp, a.df⟩
theorem Pl.le_add (a : Pl) (p : Place) : a.le (a.add p) := ⟨List.prefix_append _ _, List.prefix_rfl⟩
theorem pre_get {α : Type} {l l' : List α} (h : l <+: l') {i : Nat} {x : α} (hx : l[i]? = some x) : l'[i]? = some x := by
  obtain ⟨t, rfl⟩ := h
  rw [List.getElem?_append_left (by exact (List.getElem?_eq_some_iff.1 hx).1)]
  exact hx

mutual
inductive VRel (ι : Pl) : AV → Value → Prop
  | b (x : Bool) : VRel ι (.b x) (.bool x)
  | i (k : IntKind) (n : Int) : VRel ι (.i k n) (.int k n)
  | s (x : ByteArray) : VRel ι (.s x) (.string x)
  | p (b off : Nat) (pl : Place) (h : ι.bl[b]? = some pl) : VRel ι (.p b off) (.pointer (some ⟨pl.c, pl.o + off, none⟩))
  | np : VRel ι .np (.pointer none)
  | sl (b off len : Nat) (c : Bool) (pl : Place) (x : Addr) (cap : Nat) (h : ι.bl[b]? = some pl) (hc : len ≤ cap) (hcl : c = true → cap = len)
      (hx : cap = 0 ∨ (x = ⟨pl.c, pl.o + off, none⟩ ∧ pl.o + off + cap * pl.k ≤ pl.n)) : VRel ι (.sl b off len c) (.slice (some x) len cap)
  | ns : VRel ι .ns (.slice none 0 0)
  | f (g : FuncId) (cs : List AV) (vs : Array Value) (h : VRels ι cs vs.toList) : VRel ι (.f g cs) (.func (.func g) #[] vs)
  | nf : VRel ι .nf .nilFunc
  | m (r c : Nat) (h : ι.mp[r]? = some c) : VRel ι (.m r) (.map (some c))
  | nm : VRel ι .nm (.map none)
  | nif : VRel ι .nif .nilIface
  | agg (cs : List AV) (vs : Array Value) (hs : cs.all AV.sc = true) (h : VRels ι cs vs.toList) : VRel ι (.agg cs) (.agg vs)
  | tup (cs : List AV) (vs : Array Value) (h : VRels ι cs vs.toList) : VRel ι (.tup cs) (.tuple vs)
inductive VRels (ι : Pl) : List AV → List Value → Prop
  | nil : VRels ι [] []
  | cons {v : AV} {c : Value} {vs : List AV} {cs : List Value} (h : VRel ι v c) (t : VRels ι vs cs) : VRels ι (v :: vs) (c :: cs)
end

mutual
theorem VRel.mono {ι ι' : Pl} (hl : ι.le ι') : ∀ {v : AV} {c : Value}, VRel ι v c → VRel ι' v c
  | _, _, .b x => .b x
  | _, _, .i k n => .i k n
  | _, _, .s x => .s x
  | _, _, .p b off pl h => .p b off pl (pre_get hl.1 h)
  | _, _, .np => .np
  | _, _, .sl b off len c pl x cap h hc hcl hx => .sl b off len c pl x cap (pre_get hl.1 h) hc hcl hx
  | _, _, .ns => .ns
  | _, _, .f g cs vs h => .f g cs vs (VRels.mono hl h)
  | _, _, .nf => .nf
  | _, _, .m r c h => .m r c (pre_get hl.2 h)
  | _, _, .nm => .nm
  | _, _, .nif => .nif
  | _, _, .agg cs vs hs h => .agg cs vs hs (VRels.mono hl h)
  | _, _, .tup cs vs h => .tup cs vs (VRels.mono hl h)
theorem VRels.mono {ι ι' : Pl} (hl : ι.le ι') : ∀ {v : List AV} {c : List Value}, VRels ι v c → VRels ι' v c
  | _, _, .nil => .nil
  | _, _, .cons h t => .cons (VRel.mono hl h) (VRels.mono hl t)
end

theorem VRels.length {ι : Pl} : ∀ {vs : List AV} {cs : List Value}, VRels ι vs cs → vs.length = cs.length
  | _, _, .nil => rfl
  | _, _, .cons _ t => by simp [t.length]
theorem VRels.get {ι : Pl} : ∀ {vs : List AV} {cs : List Value}, VRels ι vs cs → ∀ {j : Nat} {v : AV}, vs[j]? = some v → ∃ c, cs[j]? = some c ∧ VRel ι v c
  | _, _, .nil, j, v, h => by simp at h
  | _, _, .cons h t, 0, v, e => by simp at e; subst e; exact ⟨_, rfl, h⟩
  | _, _, .cons h t, j + 1, v, e => by simpa using t.get (j := j) (by simpa using e)
theorem VRels.get' {ι : Pl} : ∀ {vs : List AV} {cs : List Value}, VRels ι vs cs → ∀ {j : Nat} {c : Value}, cs[j]? = some c → ∃ v, vs[j]? = some v ∧ VRel ι v c
  | _, _, .nil, j, v, h => by simp at h
  | _, _, .cons h t, 0, v, e => by simp at e; subst e; exact ⟨_, rfl, h⟩
  | _, _, .cons h t, j + 1, v, e => by simpa using t.get' (j := j) (by simpa using e)
theorem VRels.set {ι : Pl} : ∀ {vs : List AV} {cs : List Value}, VRels ι vs cs → ∀ (j : Nat) {v : AV} {c : Value}, VRel ι v c → VRels ι (vs.set j v) (cs.set j c)
  | _, _, .nil, j, v, c, _ => by simpa using .nil
  | _, _, .cons h t, 0, v, c, e => by simpa using .cons e t
  | _, _, .cons h t, j + 1, v, c, e => by simpa using .cons h (t.set j e)
theorem VRels.append {ι : Pl} : ∀ {vs : List AV} {cs : List Value}, VRels ι vs cs → ∀ {vs' : List AV} {cs' : List Value}, VRels ι vs' cs' → VRels ι (vs ++ vs') (cs ++ cs')
  | _, _, .nil, _, _, k => by simpa using k
  | _, _, .cons h t, _, _, k => by simpa using .cons h (t.append k)
theorem VRels.of_get {ι : Pl} : ∀ {vs : List AV} {cs : List Value}, vs.length = cs.length → (∀ (j : Nat) (v : AV) (c : Value), vs[j]? = some v → cs[j]? = some c → VRel ι v c) → VRels ι vs cs
  | [], [], _, _ => .nil
  | v :: vs, c :: cs, hl, h => .cons (h 0 v c rfl rfl) (VRels.of_get (by simpa using hl) fun j x y hx hy => h (j + 1) x y (by simpa using hx) (by simpa using hy))
  | [], _ :: _, hl, _ => by simp at hl
  | _ :: _, [], hl, _ => by simp at hl
theorem VRels.take {ι : Pl} : ∀ {vs : List AV} {cs : List Value}, VRels ι vs cs → ∀ n, VRels ι (vs.take n) (cs.take n)
  | _, _, .nil, n => by simpa using .nil
  | _, _, .cons h t, 0 => by simpa using .nil
  | _, _, .cons h t, n + 1 => by simpa using .cons h (t.take n)
theorem VRels.drop {ι : Pl} : ∀ {vs : List AV} {cs : List Value}, VRels ι vs cs → ∀ n, VRels ι (vs.drop n) (cs.drop n)
  | _, _, .nil, n => by simpa using .nil
  | _, _, .cons h t, 0 => by simpa using .cons h t
  | _, _, .cons h t, n + 1 => by simpa using t.drop n
theorem VRels.rep {ι : Pl} {v : AV} {c : Value} (h : VRel ι v c) : ∀ n, VRels ι (List.replicate n v) (List.replicate n c)
  | 0 => .nil
  | n + 1 => .cons h (VRels.rep h n)
theorem VRel.sc {ι : Pl} {v : AV} {c : Value} (h : VRel ι v c) : v.sc = c.oneCell' := by cases h <;> rfl
theorem VRel.cells {ι : Pl} {v : AV} {c : Value} (h : VRel ι v c) : VRels ι v.cells c.cells.toList := by
  cases h with
  | agg cs vs hs h => exact h
  | b x => exact .cons (.b x) .nil
  | i k n => exact .cons (.i k n) .nil
  | s x => exact .cons (.s x) .nil
  | p b off pl h => exact .cons (.p b off pl h) .nil
  | np => exact .cons .np .nil
  | sl b off len c pl x cap h hc hcl hx => exact .cons (.sl b off len c pl x cap h hc hcl hx) .nil
  | ns => exact .cons .ns .nil
  | f g cs vs h => exact .cons (.f g cs vs h) .nil
  | nf => exact .cons .nf .nil
  | m r c h => exact .cons (.m r c h) .nil
  | nm => exact .cons .nm .nil
  | nif => exact .cons .nif .nil
  | tup cs vs h => exact .cons (.tup cs vs h) .nil
theorem VRels.sc {ι : Pl} : ∀ {vs : List AV} {cs : List Value}, VRels ι vs cs → vs.all AV.sc = true → ∀ c ∈ cs, c.oneCell' = true
  | _, _, .nil, _ => by simp
  | _, _, .cons h t, e => by
    simp only [List.all_cons, Bool.and_eq_true] at e
    intro c hc
    rcases List.mem_cons.1 hc with rfl | hc
    · rw [← h.sc]; exact e.1
    · exact t.sc e.2 c hc

/-! ### How an abstract heap stands for a world -/
/-- The stamps of a map that has only grown. -/
def Stm (en : Array MapEntry) (cl : Nat) : Prop := cl = en.size ∧ ∀ (j : Nat) (e' : MapEntry), en[j]? = some e' → e'.born = j
/-- What no operation here writes. -/
def othO : Obj → Bool
  | .cells .. => false
  | .map .. => false
  | _ => true
structure Rep (base : Nat) (w0 : World) (ι : Pl) (h : AH) (w : World) : Prop where
  lb : ι.bl.length = h.cs.length
  lm : h.mt.length = h.cs.length
  lp : ι.mp.length = h.mp.length
  below : Below base w0 w
  base_le : base ≤ w.heap.size
  sc : ∀ (b : Nat) (l : List AV), h.cs[b]? = some l → l.all AV.sc = true
  cell : ∀ (b : Nat) (pl : Place) (l : List AV), ι.bl[b]? = some pl → h.cs[b]? = some l → ∀ (j : Nat) (v : AV), l[j]? = some v → ∃ cv, w.cell? ⟨pl.c, pl.o + j, none⟩ = some cv ∧ VRel ι v cv
  kk : ∀ (b : Nat) (pl : Place) (m : Meta), ι.bl[b]? = some pl → h.mt[b]? = some m → pl.k = m.k
  inb : ∀ (b : Nat) (pl : Place), ι.bl[b]? = some pl → pl.c < w.heap.size
  own : ∀ (b : Nat) (pl : Place) (m : Meta) (l : List AV), ι.bl[b]? = some pl → h.mt[b]? = some m → h.cs[b]? = some l → m.own = true →
    base ≤ pl.c ∧ pl.o + l.length ≤ pl.n ∧ ∃ (arr : Array Value) (T : TypeId), w.heap[pl.c]? = some (.cells arr T (0, 0)) ∧ arr.size = pl.n
  excl : ∀ (b b' : Nat) (pl pl' : Place) (m m' : Meta) (l l' : List AV), ι.bl[b]? = some pl → ι.bl[b']? = some pl' → h.mt[b]? = some m → h.mt[b']? = some m' → h.cs[b]? = some l → h.cs[b']? = some l' →
    m.own = true → pl'.c = pl.c → b' = b ∨ l' = [] ∨ (b' ∈ m.anc ∧ m'.own = false ∧ pl'.o + l'.length ≤ pl.o + l.length)
  own2 : ∀ (b b' : Nat) (pl pl' : Place) (m m' : Meta), ι.bl[b]? = some pl → ι.bl[b']? = some pl' → h.mt[b]? = some m → h.mt[b']? = some m' → m.own = true → m'.own = true → pl'.c = pl.c → b' = b
  ancno : ∀ (b b' : Nat) (m m' : Meta), h.mt[b]? = some m → b' ∈ m.anc → h.mt[b']? = some m' → m'.own = false
  anclt : ∀ (b : Nat) (m : Meta), h.mt[b]? = some m → ∀ b' ∈ m.anc, b' < h.cs.length
  mcell : ∀ (r c : Nat) (es : Bool × List (AV × AV)), ι.mp[r]? = some c → h.mp[r]? = some es → (es.1 = true → base ≤ c) ∧ ∃ (en : Array MapEntry) (cl : Nat), w.heap[c]? = some (.map en cl) ∧ (en.size = es.2.length ∧ Stm en cl) ∧
    (∀ (j : Nat) (e : AV × AV) (e' : MapEntry), es.2[j]? = some e → en[j]? = some e' → VRel ι e.1 e'.key ∧ VRel ι e.2 e'.val)
  mexcl : ∀ (r r' c : Nat), ι.mp[r]? = some c → ι.mp[r']? = some c → r = r'
  oth : ∀ (k : Nat) (o : Obj), w0.heap[k]? = some o → othO o = true → w.heap[k]? = some o

theorem Rep.wf {base : Nat} {w0 : World} {ι : Pl} {h : AH} {w : World} (H : Rep base w0 ι h w) : h.wf := ⟨H.lm, H.ancno, H.anclt⟩
/-- The state of a run: what holds between abstract and concrete. -/
structure Ok (base : Nat) (w0 : World) (ι0 ι : Pl) (h : AH) (w : World) (a : List AV) (ca : Act) : Prop where
  le : ι0.le ι
  rep : Rep base w0 ι h w
  def_ : ca.defers = ι0.df
  rel : VRels ι a ca.tmps.toList
def QL (base : Nat) (w0 : World) (ι0 : Pl) (Q : Exit → List AV → AH → Prop) : Exit → Act → World → Prop := fun e ca w => ∃ ι a h, Ok base w0 ι0 ι h w a ca ∧ Q e a h

def AWP (P : Program) (c : Code) (Q : Exit → List AV → AH → Prop) (a : List AV) (h : AH) : Prop :=
  ∀ base w0 ι0 ι w ca, Ok base w0 ι0 ι h w a ca → c.wp P (QL base w0 ι0 Q) ca w
def ALoop (P : Program) (c : Code) (Q : Exit → List AV → AH → Prop) (a : List AV) (h : AH) : Prop :=
  ∀ base w0 ι0 ι w ca, Ok base w0 ι0 ι h w a ca → ∀ (b : Frame) (k : List Item) (cs : List Frame), ∃ e a' w', QL base w0 ι0 Q e a' w' ∧ Arrives P (lone (b.at ca (.code c :: .inLoop c :: k)) cs w) b k cs e a' w'

/-! ### A shorter form of code -/
structure IOp where
  dst : Option Nat
  op : Op
  g : Option (Nat × Bool)
inductive IC where
  | skip
  | reg (l : List IOp)
  | seq (a b : IC)
  | cond (c : Operand) (a b : IC)
  | block (id : Nat) (b : IC)
  | loop (b : IC)
  | exit (id : Nat)
  | ret
  | raw (c : Code)
def gd (ops : Array Oper) (o : Oper) : Option (Nat × Bool) := o.guard.bind fun (j, b) => ((ops[j]?).bind (·.dst)).map (·, b)
def iop (ops : Array Oper) (o : Oper) : IOp := ⟨o.dst, o.op, gd ops o⟩
def okg (ops : Array Oper) (o : Oper) : Bool := o.guard.isNone || (gd ops o).isSome
def decR (id : Nat) (ops : Array Oper) (d : Bool) : IC := if d = false ∧ ops.toList.all (okg ops) = true then .reg (ops.toList.map (iop ops)) else .raw (.region id ops d)
def dec : Code → IC
  | .skip => .skip
  | .region id ops d => decR id ops d
  | .seq x y => .seq (dec x) (dec y)
  | .cond c x y => .cond c (dec x) (dec y)
  | .block id x => .block id (dec x)
  | .loop x => .loop (dec x)
  | .exit id => .exit id
  | .ret => .ret
  | c => .raw c
def AI (P : Program) (c : IC) (Q : Exit → List AV → AH → Prop) (a : List AV) (h : AH) : Prop := ∀ code, dec code = c → AWP P code Q a h
def AIL (P : Program) (c : IC) (Q : Exit → List AV → AH → Prop) (a : List AV) (h : AH) : Prop := ∀ code, dec code = c → ALoop P code Q a h
/-- A list of operations. -/
def AS (P : Program) (l : List IOp) (Q : Exit → List AV → AH → Prop) (a : List AV) (h : AH) : Prop :=
  ∀ (ops : Array Oper) (ol : List Oper), ol.map (iop ops) = l → ol.all (okg ops) = true → ∀ base w0 ι0 ι w ca, Ok base w0 ι0 ι h w a ca → wpList P ops (QL base w0 ι0 Q) ol ca w

end Go.AL
