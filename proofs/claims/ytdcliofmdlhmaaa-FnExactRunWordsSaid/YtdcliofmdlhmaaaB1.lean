/- The abstract logic, part 10: slices that read as lists; slices that are built. -/
import Derived.Test.YtdcliofmdlhmaaaA9
namespace Go.AL
open Go.RowKit

theorem loadA_1 {P : Program} {T : TypeId} {h : AH} {b o : Nat} {v : AV} (hT : aggT P T = some false) (hv : h.cell b o = some v) : loadA P T h b o = some v := by
  simp only [loadA, hT, hv]
theorem loadA_n {P : Program} {T : TypeId} {h : AH} {b o n : Nat} {l : List AV} (hT : aggT P T = some true) (hs : szT P T = some n) (hv : h.row b o n = some l) : loadA P T h b o = some (.agg l) := by
  simp only [loadA, hT, hs, Option.bind_some, hv, Option.map_some]
theorem row_cell {h : AH} {b o n : Nat} {l : List AV} (H : h.row b o n = some l) {j : Nat} (hj : j < n) : h.cell b (o + j) = l[j]? := by
  obtain ⟨r, hr, hle, hl, hln⟩ := row_get H
  unfold AH.cell
  rw [hr, hl]
  simp only [Option.bind_some]
  rw [List.getElem?_take_of_lt hj, List.getElem?_drop]
theorem row_sub {h : AH} {b o n : Nat} {l : List AV} (H : h.row b o n = some l) {i m : Nat} (hm : i + m ≤ n) : h.row b (o + i) m = some ((l.drop i).take m) := by
  obtain ⟨r, hr, hle, hl, hln⟩ := row_get H
  unfold AH.row
  rw [hr]
  simp only [Option.bind_some]
  rw [if_pos (by omega)]
  congr 1
  rw [hl]
  apply List.ext_getElem?
  intro j
  by_cases hj : j < m
  · rw [List.getElem?_take_of_lt hj, List.getElem?_take_of_lt hj, List.getElem?_drop, List.getElem?_drop, List.getElem?_take_of_lt (by omega), List.getElem?_drop, Nat.add_assoc]
  · rw [List.getElem?_eq_none (by simp; omega), List.getElem?_eq_none (by simp; omega)]
theorem cell_row {h : AH} {b o : Nat} {v : AV} (H : h.row b o 1 = some [v]) : h.cell b o = some v := by
  have := row_cell H (j := 0) (by omega)
  simpa using this

/-! ### What is kept -/
structure AH.ext (h h' : AH) : Prop where
  cs : h.cs <+: h'.cs
  ks : (h.mt.map Meta.k) <+: (h'.mt.map Meta.k)
  mp : h.mp <+: h'.mp
theorem AH.ext.refl (h : AH) : h.ext h := ⟨List.prefix_rfl, List.prefix_rfl, List.prefix_rfl⟩
theorem AH.ext.trans {a b c : AH} (h : a.ext b) (k : b.ext c) : a.ext c := ⟨h.1.trans k.1, h.2.trans k.2, h.3.trans k.3⟩
theorem prefix_map {α β : Type} (f : α → β) {l l' : List α} (h : l <+: l') : l.map f <+: l'.map f := by
  obtain ⟨t, rfl⟩ := h; exact ⟨t.map f, by simp⟩
theorem AH.le.ext {h h' : AH} (H : h.le h') : h.ext h' := ⟨H.1, prefix_map _ H.2.1, H.2.2⟩
theorem AH.le_new (h : AH) (k : Nat) (l : List AV) : h.le (h.new k l) := (AH.le.refl h).new k l
theorem AH.ext.cell {h h' : AH} (H : h.ext h') {b o : Nat} {v : AV} (hv : h.cell b o = some v) : h'.cell b o = some v := by
  unfold AH.cell at hv ⊢
  cases hr : h.cs[b]? with
  | none => rw [hr] at hv; simp at hv
  | some r => rw [hr] at hv; rw [pre_get H.cs hr]; exact hv
theorem AH.ext.row {h h' : AH} (H : h.ext h') {b o n : Nat} {l : List AV} (hv : h.row b o n = some l) : h'.row b o n = some l := by
  unfold AH.row at hv ⊢
  cases hr : h.cs[b]? with
  | none => rw [hr] at hv; simp at hv
  | some r => rw [hr] at hv; rw [pre_get H.cs hr]; exact hv
theorem AH.ext.k {h h' : AH} (H : h.ext h') {b k : Nat} (hv : (h.mt[b]?).map Meta.k = some k) : (h'.mt[b]?).map Meta.k = some k := by
  rw [← List.getElem?_map] at hv ⊢
  exact pre_get H.ks hv
theorem AH.le.cell {h h' : AH} (H : h.le h') {b o : Nat} {v : AV} (hv : h.cell b o = some v) : h'.cell b o = some v := H.ext.cell hv
theorem AH.le.row {h h' : AH} (H : h.le h') {b o n : Nat} {l : List AV} (hv : h.row b o n = some l) : h'.row b o n = some l := H.ext.row hv
theorem new_row (h : AH) (k : Nat) (l : List AV) : (h.new k l).row h.cs.length 0 l.length = some l := by
  simp [AH.row, AH.new]
theorem row_last (cs : List (List AV)) (l : List AV) (mt : List Meta) (mp : List (Bool × List (AV × AV))) : AH.row ⟨cs ++ [l], mt, mp⟩ cs.length 0 l.length = some l := by simp [AH.row]
theorem new_cell (h : AH) (k : Nat) (v : AV) : (h.new k [v]).cell h.cs.length 0 = some v := by
  simp [AH.cell, AH.new]

/-! ### Slices that read as lists -/
def lenA : AV → Option Nat
  | .ns => some 0
  | .sl _ _ n _ => some n
  | _ => none
structure RdG {α : Type} (k : Nat) (enc : α → List AV) (h : AH) (v : AV) (l : List α) : Prop where
  len : lenA v = some l.length
  rd : v = .ns ∨ ∃ b o c, v = .sl b o l.length c ∧ h.row b o (l.length * k) = some (l.flatMap enc) ∧ (h.mt[b]?).map Meta.k = some k
def enI (x : Int) : List AV := [.i .i64 x]
def enB (x : Bool) : List AV := [.b x]
/-- A slice of ints. -/
abbrev Rd (h : AH) (v : AV) (l : List Int) : Prop := RdG 1 enI h v l
theorem RdG.ext {α : Type} {k : Nat} {enc : α → List AV} {h h' : AH} {v : AV} {l : List α} (H : RdG k enc h v l) (he : h.ext h') : RdG k enc h' v l :=
  ⟨H.len, H.rd.imp id fun ⟨b, o, c, h1, h2, h3⟩ => ⟨b, o, c, h1, he.row h2, he.k h3⟩⟩
theorem RdG.le {α : Type} {k : Nat} {enc : α → List AV} {h h' : AH} {v : AV} {l : List α} (H : RdG k enc h v l) (he : h.le h') : RdG k enc h' v l := H.ext he.ext
theorem RdG.nil {α : Type} (k : Nat) (enc : α → List AV) (h : AH) : RdG k enc h .ns ([] : List α) := ⟨rfl, .inl rfl⟩
theorem flatMap_get {α : Type} {k : Nat} {enc : α → List AV} (hk : ∀ x, (enc x).length = k) : ∀ (l : List α) (j : Nat) (x : α), l[j]? = some x → ((l.flatMap enc).drop (j * k)).take k = enc x
  | [], j, x, h => by simp at h
  | y :: l, 0, x, h => by
    simp at h; subst h
    simp only [List.flatMap_cons, Nat.zero_mul, List.drop_zero]
    rw [← hk y, List.take_left]
  | y :: l, j + 1, x, h => by
    have ih := flatMap_get hk l j x (by simpa using h)
    simp only [List.flatMap_cons]
    rw [show (j + 1) * k = (enc y).length + j * k by rw [hk, Nat.add_mul]; omega, ← List.drop_drop, List.drop_left]
    exact ih
theorem flatMap_len {α : Type} {k : Nat} {enc : α → List AV} (hk : ∀ x, (enc x).length = k) (l : List α) : (l.flatMap enc).length = l.length * k := by
  induction l with
  | nil => simp
  | cons x l ih => simp [hk, ih, Nat.add_mul, Nat.add_comm]
/-- An element. -/
theorem RdG.at_ {α : Type} {k : Nat} {enc : α → List AV} {h : AH} {v : AV} {l : List α} (H : RdG k enc h v l) (hk : ∀ x, (enc x).length = k) {j : Nat} {x : α} (hj : l[j]? = some x) :
    ∃ b o c, v = .sl b o l.length c ∧ h.row b (o + j * k) k = some (enc x) := by
  have hlt : j < l.length := (List.getElem?_eq_some_iff.1 hj).1
  rcases H.rd with rfl | ⟨b, o, c, h1, h2, h3⟩
  · have := H.len; simp [lenA] at this; omega
  · refine ⟨b, o, c, h1, ?_⟩
    rw [row_sub h2 (i := j * k) (m := k) (by rw [← Nat.succ_mul]; exact Nat.mul_le_mul_right k hlt), flatMap_get hk l j x hj]

section
variable {P : Program} {a : List AV} {h : AH} {K : List AV → AH → Prop} {d : Option Nat}

theorem OpR_lenA {T e : TypeId} {x : Operand} {v : AV} {n : Nat} (hT : P.underlying T = some (.slice e)) (hx : ev a x = some v) (hn : lenA v = some n) (hk : K (st a d (.i .i64 n)) h) :
    OpR P (.call { callee := .builtin .len, args := #[x], argTypes := #[T] }) d a h K := by
  cases v <;> simp [lenA] at hn
  · subst hn; exact OpR_len hT hx hk
  · subst hn; exact OpR_len0 hT hx hk
theorem OpR_idx {α : Type} {k : Nat} {enc : α → List AV} {T e : TypeId} {x ix : Operand} {v : AV} {l : List α} {kk : IntKind} {n : Int} (hT : P.underlying T = some (.slice e)) (hs : szT P e = some k)
    (hx : ev a x = some v) (hi : ev a ix = some (.i kk n)) (hR : RdG k enc h v l) (hke : ∀ x, (enc x).length = k) {y : α} (h0 : 0 ≤ n) (hy : l[n.toNat]? = some y)
    (hk : ∀ b o, h.row b o k = some (enc y) → K (st a d (.p b o)) h) : OpR P (.indexAddr T x ix) d a h K := by
  obtain ⟨b, o, c, rfl, hrow⟩ := hR.at_ hke hy
  have hlt := (List.getElem?_eq_some_iff.1 hy).1
  exact OpR_indexAddr hT hs hx hi h0 (by omega) (hk b _ hrow)
/-- The address of an element, for a store: of a row that is known. -/
theorem OpR_idxs {k : Nat} {T e : TypeId} {x ix : Operand} {b o len : Nat} {c : Bool} {kk : IntKind} {n : Int} (hT : P.underlying T = some (.slice e)) (hs : szT P e = some k)
    (hx : ev a x = some (.sl b o len c)) (hi : ev a ix = some (.i kk n)) (h0 : 0 ≤ n) (h1 : n < len) (hk : K (st a d (.p b (o + n.toNat * k))) h) : OpR P (.indexAddr T x ix) d a h K :=
  OpR_indexAddr hT hs hx hi h0 h1 hk
end

/-! ### Slices that are built -/
structure Own {α : Type} (h0 : AH) (k : Nat) (enc : α → List AV) (h : AH) (v : AV) (l : List α) : Prop where
  wf0 : h0.wf
  le : h0.le h
  wf : h.wf
  rd : RdG k enc h v l
  own : v = .ns ∨ ∃ b o c m row, v = .sl b o l.length c ∧ h0.cs.length ≤ b ∧ h.mt[b]? = some m ∧ m.own = true ∧ m.k = k ∧ h.cs[b]? = some row ∧ o + l.length * k = row.length ∧ ∀ a ∈ m.anc, h0.cs.length ≤ a ∧ a < b
theorem Own.nil {α : Type} {h0 h : AH} (wf0 : h0.wf) (le : h0.le h) (wf : h.wf) (k : Nat) (enc : α → List AV) : Own h0 k enc h .ns ([] : List α) := ⟨wf0, le, wf, .nil _ _ _, .inl rfl⟩
theorem le_len {h h' : AH} (H : h.le h') : h.cs.length ≤ h'.cs.length := List.IsPrefix.length_le H.1
theorem new_mt {h : AH} (wf : h.wf) (k : Nat) (l : List AV) : (h.new k l).mt[h.cs.length]? = some ⟨k, true, []⟩ := by
  rw [← wf.len]; simp [AH.new]
theorem new_cs (h : AH) (k : Nat) (l : List AV) : (h.new k l).cs[h.cs.length]? = some l := by simp [AH.new]
/-- A new block that a literal, or a make, has laid. -/
theorem Own.fresh {α : Type} {h0 h : AH} (wf0 : h0.wf) (le : h0.le h) (wf : h.wf) {k : Nat} {enc : α → List AV} (hke : ∀ x, (enc x).length = k) (l : List α) (c : Bool) {row : List AV} (hrow : row = l.flatMap enc) {n : Nat} (hn : n = l.length) :
    Own h0 k enc (h.new k row) (.sl h.cs.length 0 n c) l := by
  subst hn; subst hrow
  refine ⟨wf0, le.new _ _, wf.new _ _, ⟨rfl, .inr ⟨_, 0, c, rfl, ?_, ?_⟩⟩, .inr ⟨_, 0, c, ⟨k, true, []⟩, l.flatMap enc, rfl, le_len le, new_mt wf _ _, rfl, rfl, new_cs _ _ _, ?_, by simp⟩⟩
  · rw [← flatMap_len hke]; exact new_row h k _
  · rw [new_mt wf]; rfl
  · rw [flatMap_len hke]; omega
/-- A slice of no block below n. -/
def geV (v : AV) (n : Nat) : Prop := ∀ b o m c, v = .sl b o m c → n ≤ b
theorem geV_new (n o m : Nat) (c : Bool) : geV (.sl n o m c) n := by intro b o m c e; cases e; exact Nat.le_refl _
/-- What a step that builds does to everything else. -/
structure Step (h h' : AH) (v : AV) : Prop where
  wf : h'.wf
  ext : h.ext h'
  mt : ∀ b m, h.mt[b]? = some m → (∀ o n c, v ≠ .sl b o n c) → h'.mt[b]? = some m
theorem Own.keep {α : Type} {h0 h h' : AH} {k : Nat} {enc : α → List AV} {v u : AV} {l : List α} (H : Own h0 k enc h v l) (hs : Step h h' u) (hle : h0.le h')
    (hne : v = .ns ∨ ∀ b o n c b' o' n' c', v = .sl b o n c → u = .sl b' o' n' c' → b ≠ b') : Own h0 k enc h' v l := by
  refine ⟨H.wf0, hle, hs.wf, H.rd.ext hs.ext, ?_⟩
  rcases H.own with e | ⟨b, o, c, m, row, h1, h2, h3, h4, h5, h6, h7, h8⟩
  · exact .inl e
  · refine .inr ⟨b, o, c, m, row, h1, h2, hs.mt b m h3 ?_, h4, h5, pre_get hs.ext.cs h6, h7, h8⟩
    intro o' n' c' hu
    rcases hne with e | e
    · rw [e] at h1; cases h1
    · exact e b _ _ _ b _ _ _ h1 hu rfl
/-- Calls, and whatever keeps metas. -/
theorem Own.le' {α : Type} {h0 h h' : AH} {k : Nat} {enc : α → List AV} {v : AV} {l : List α} (H : Own h0 k enc h v l) (wf : h'.wf) (hle : h.le h') : Own h0 k enc h' v l := by
  refine ⟨H.wf0, H.le.trans hle, wf, H.rd.le hle, ?_⟩
  rcases H.own with e | ⟨b, o, c, m, row, h1, h2, h3, h4, h5, h6, h7, h8⟩
  · exact .inl e
  · exact .inr ⟨b, o, c, m, row, h1, h2, pre_get hle.2.1 h3, h4, h5, pre_get hle.1 h6, h7, h8⟩
theorem RdG.rowG {α : Type} {k : Nat} {enc : α → List AV} {h : AH} {v : AV} {l : List α} (H : RdG k enc h v l) {b o n : Nat} {c : Bool} (hv : v = .sl b o n c) : n = l.length ∧ h.row b o (n * k) = some (l.flatMap enc) := by
  subst hv
  rcases H.rd with e | ⟨b', o', c', h1, h2, h3⟩
  · cases e
  · cases h1; exact ⟨rfl, h2⟩
theorem map_set_same {l : List Meta} {b : Nat} {m m' : Meta} (hm : l[b]? = some m) (hk : m'.k = m.k) : (l.set b m').map Meta.k = l.map Meta.k := by
  apply List.ext_getElem?
  intro i
  simp only [List.getElem?_map, List.getElem?_set]
  split
  · rename_i e
    subst e
    split
    · rw [hm]; simp [hk]
    · rename_i hlt; rw [hm]; exact absurd (List.getElem?_eq_some_iff.1 hm).1 hlt
  · rfl
section
variable {P : Program} {a : List AV} {h : AH} {K : List AV → AH → Prop} {d : Option Nat}
/-- 'xs = append(xs, ys...)' of a slice of the run's own. -/
theorem OpR_appendO {α : Type} {h0 : AH} {k : Nat} {enc : α → List AV} {T e : TypeId} {x y : Operand} {v u : AV} {l l' : List α} {bytes : Nat} {z : AV}
    (hT : P.underlying T = some (.slice e)) (hs : szT P e = some k) (hby : byT P e = some bytes) (hz : zeroA P e = some z) (hzl : z.cells.length = k) (hke : ∀ x, (enc x).length = k)
    (hx : ev a x = some v) (hy : ev a y = some u) (hO : Own h0 k enc h v l) (hR : RdG k enc h u l') (hbd : (l.length + l'.length) * bytes ≤ 140737488355328) (hbd2 : l.length + l'.length ≤ 4611686018427387904)
    (hk : ∀ v' h', Own h0 k enc h' v' (l ++ l') → Step h h' v → (l' ≠ [] → geV v' h.cs.length) → K (st a d v') h') :
    OpR P (.call { callee := .builtin .append, args := #[x, y], argTypes := #[T, T] }) d a h K := by
  have hwf : h.mt.length = h.cs.length := hO.wf.len
  have uform : u = .ns ∨ ∃ b o c, u = .sl b o l'.length c := hR.rd.imp id fun ⟨b, o, c, h1, _⟩ => ⟨b, o, c, h1⟩
  have vform : v = .ns ∨ ∃ b o c, v = .sl b o l.length c := hO.rd.rd.imp id fun ⟨b, o, c, h1, _⟩ => ⟨b, o, c, h1⟩
  rcases uform with rfl | ⟨b2, o2, c2, rfl⟩
  · have hl' : l' = [] := by have := hR.len; simp [lenA] at this; exact List.eq_nil_of_length_eq_zero this.symm
    subst hl'
    refine OpR_append_none hT hs hx (vform.imp id fun ⟨b, o, c, e⟩ => ⟨b, o, _, c, e⟩) hy (.inl rfl) (hk v h ?_ ⟨hO.wf, .refl h, fun _ _ e _ => e⟩ (fun e => absurd rfl e))
    rw [List.append_nil]; exact hO
  · obtain ⟨_, hrow2⟩ := hR.rowG rfl
    rcases hO.own with rfl | ⟨b, o, c, m, row, rfl, hb, hm, hown, hmk, hrow, hend, hanc⟩
    · have hl : l = [] := by have := hO.rd.len; simp [lenA] at this; exact List.eq_nil_of_length_eq_zero this.symm
      subst hl
      by_cases h0' : l'.length = 0
      · have hl' : l' = [] := List.eq_nil_of_length_eq_zero h0'
        subst hl'
        refine OpR_append_none hT hs hx (.inl rfl) hy (.inr ⟨b2, o2, c2, rfl⟩) (hk _ h ?_ ⟨hO.wf, .refl h, fun _ _ e _ => e⟩ (fun e => absurd rfl e))
        exact hO
      · refine OpR_append_nil hT hs hby hz hzl hx hy (by omega) hrow2 (by simpa using hbd) (by simp at hbd2; omega) (hk _ _ ?_ ⟨hO.wf.new _ _, (AH.le_new h k _).ext, fun b m e _ => pre_get (AH.le_new h k _).2.1 e⟩ (fun _ => geV_new _ _ _ _))
        exact Own.fresh hO.wf0 hO.le hO.wf hke l' false rfl rfl
    · have hdrop : row.drop o = l.flatMap enc := by
        have h3 := (hO.rd.rowG rfl).2
        obtain ⟨r, e1, e2, e3, e4⟩ := row_get h3
        rw [hrow] at e1; cases e1
        rw [e3]
        exact (List.take_of_length_le (by simp; omega)).symm
      have hbl : b < h.cs.length := (List.getElem?_eq_some_iff.1 hrow).1
      refine OpR_append hT hs hby hz hzl hx hy hm hown hmk hrow hend hrow2 hbd hbd2 (hk _ _ ?_ ?_ (fun _ => geV_new _ _ _ _))
      · rw [hdrop, ← List.flatMap_append]
        have hlen2 : (l ++ l').length = l.length + l'.length := by simp
        refine ⟨hO.wf0, ?_, ?_, ⟨by rw [hlen2]; rfl, .inr ⟨_, 0, false, by rw [hlen2], ?_, ?_⟩⟩, .inr ⟨_, 0, false, ⟨m.k, true, b :: m.anc⟩, (l ++ l').flatMap enc, by rw [hlen2], ?_, ?_, rfl, hmk, ?_, ?_, ?_⟩⟩
        · refine ⟨hO.le.1.trans (List.prefix_append _ _), ?_, hO.le.2.2⟩
          obtain ⟨t, ht⟩ := hO.le.2.1
          rw [← ht]
          have hb' : h0.mt.length ≤ b := by
            have := hO.wf0.len
            omega
          rw [List.set_append_right _ _ hb', List.append_assoc]
          exact List.prefix_append _ _
        · exact hO.wf.app hm _ _ _
        · rw [← flatMap_len hke]; exact row_last _ _ _ _
        · rw [← hwf]; simp [hmk]
        · omega
        · rw [← hwf]; simp
        · simp
        · rw [flatMap_len hke]; omega
        · intro x hx; rcases List.mem_cons.1 hx with rfl | hx; exact ⟨hb, hbl⟩; have := hanc x hx; exact ⟨this.1, by omega⟩
      · refine ⟨hO.wf.app hm _ _ _, ⟨List.prefix_append _ _, ?_, List.prefix_rfl⟩, ?_⟩
        · rw [List.map_append, map_set_same hm (by rfl)]
          exact List.prefix_append _ _
        · intro b' m' hm' hne
          have : b ≠ b' := fun e => hne o l.length c (by rw [e])
          rw [List.getElem?_append_left (by simp; exact (List.getElem?_eq_some_iff.1 hm').1), List.getElem?_set_ne this]
          exact hm'
theorem OpR_box1 {T : TypeId} {x : Operand} {v : AV} (k : Nat) (hx : ev a x = some v) (hs : v.sc = true) (hk : K (st a d (.p h.cs.length 0)) (h.new k [v])) : OpR P (.box T x) d a h K := by
  have hc : v.cells = [v] := by cases v <;> first | rfl | simp [AV.sc] at hs
  exact OpR_box k hx (by rw [hc]; simp [hs]) (by rw [hc]; exact hk)
theorem OpR_boxn {T : TypeId} {x : Operand} {cs : List AV} (k : Nat) (hx : ev a x = some (.agg cs)) (hs : cs.all AV.sc = true) (hk : K (st a d (.p h.cs.length 0)) (h.new k cs)) : OpR P (.box T x) d a h K := OpR_box k hx hs hk
theorem OpR_load1 {T : TypeId} {x : Operand} {b o' : Nat} {v : AV} (hT : aggT P T = some false) (hx : ev a x = some (.p b o')) (hv : h.cell b o' = some v) (hk : K (st a d v) h) : OpR P (.load T x) d a h K := OpR_load hx (loadA_1 hT hv) hk
end
end Go.AL
