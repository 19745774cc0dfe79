/- The abstract logic, part 16: all that a run owns, told at once; whatever else there is stays as it is. -/
import Derived.Test.YtdcliofmdlhmaaaB6
namespace Go.AL
open Go.RowKit

/-- What is owned: a slice with its cells, or a variable with its cells. -/
inductive It where
  | sl (v : AV) (k : Nat) (cs : List AV)
  | pt (b : Nat) (cs : List AV)
  | mp (r : Nat) (es : List (AV × AV))
def It.blk : It → Option Nat
  | .sl (.sl b _ _ _) _ _ => some b
  | .sl _ _ _ => none
  | .pt b _ => some b
  | .mp _ _ => none
def It.mr : It → Option Nat
  | .mp r _ => some r
  | _ => none
/-- A block that is owned, and its row. -/
def Blk (n0 : Nat) (h : AH) (b k : Nat) (row : List AV) : Prop := n0 ≤ b ∧ ∃ m, h.mt[b]? = some m ∧ m.own = true ∧ m.k = k ∧ h.cs[b]? = some row ∧ ∀ a ∈ m.anc, n0 ≤ a ∧ a < b
def ItOk (h0 : AH) (h : AH) : It → Prop
  | .sl v k cs => (v = .ns ∧ cs = []) ∨ ∃ b o n c row, v = .sl b o n c ∧ n * k = cs.length ∧ Blk h0.cs.length h b k row ∧ o + cs.length = row.length ∧ row.drop o = cs
  | .pt b cs => ∃ k, Blk h0.cs.length h b k cs
  | .mp r es => h0.mp.length ≤ r ∧ h.mp[r]? = some (true, es)
def It.ap (x y : It) : Prop := (∀ b, x.blk = some b → y.blk ≠ some b) ∧ ∀ r, x.mr = some r → y.mr ≠ some r
structure Loq (h0 h : AH) (L : List It) : Prop where
  wf0 : h0.wf
  le : h0.le h
  wf : h.wf
  it : ∀ x ∈ L, ItOk h0 h x
  ap : L.Pairwise It.ap
section
variable {h0 h h' : AH} {L M : List It} {n0 n b k : Nat} {row : List AV} {x y : It} {v u : AV}
theorem It.ap.symm (H : x.ap y) : y.ap x := ⟨fun b e e' => H.1 b e' e, fun b e e' => H.2 b e' e⟩
theorem It.ap.sl {v : AV} {k : Nat} {cs : List AV} {y : It} (H : ∀ b, (It.sl v k cs).blk = some b → y.blk ≠ some b) : (It.sl v k cs).ap y := ⟨H, fun r e => by cases e⟩
theorem It.ap.pt {b : Nat} {cs : List AV} {y : It} (H : ∀ b', (It.pt b cs).blk = some b' → y.blk ≠ some b') : (It.pt b cs).ap y := ⟨H, fun r e => by cases e⟩
theorem Blk.lt (H : Blk n0 h b k row) : b < h.cs.length := by obtain ⟨_, m, _, _, _, h4, _⟩ := H; exact (List.getElem?_eq_some_iff.1 h4).1
theorem Blk.le' (H : Blk n0 h b k row) (hle : h.le h') : Blk n0 h' b k row := by
  obtain ⟨h1, m, h2, h3, h4, h5, h6⟩ := H
  exact ⟨h1, m, pre_get hle.2.1 h2, h3, h4, pre_get hle.1 h5, h6⟩
theorem Blk.mono (H : Blk n h b k row) (hn : n0 ≤ n) : Blk n0 h b k row := by
  obtain ⟨h1, m, h2, h3, h4, h5, h6⟩ := H
  exact ⟨by omega, m, h2, h3, h4, h5, fun a ha => ⟨by have := (h6 a ha).1; omega, (h6 a ha).2⟩⟩
theorem ItOk.map {g g' h h' : AH} (F : ∀ b k row, x.blk = some b → Blk g.cs.length h b k row → Blk g'.cs.length h' b k row) (M : ∀ r es, x.mr = some r → g.mp.length ≤ r → h.mp[r]? = some (true, es) → g'.mp.length ≤ r ∧ h'.mp[r]? = some (true, es)) (H : ItOk g h x) : ItOk g' h' x := by
  cases x with
  | sl v k cs =>
    rcases H with e | ⟨b, o, m, c, row, rfl, h2, h3, h4, h5⟩
    · exact .inl e
    · exact .inr ⟨b, o, m, c, row, rfl, h2, F _ _ _ rfl h3, h4, h5⟩
  | pt b cs => obtain ⟨k, hk⟩ := H; exact ⟨k, F _ _ _ rfl hk⟩
  | mp r es => exact M _ _ rfl H.1 H.2
theorem ItOk.mbounds {g : AH} (H : ItOk g h x) : ∀ r, x.mr = some r → g.mp.length ≤ r ∧ r < h.mp.length := by
  intro r e
  cases x with
  | sl v k cs => cases e
  | pt b cs => cases e
  | mp r' es => cases e; exact ⟨H.1, (List.getElem?_eq_some_iff.1 H.2).1⟩
theorem mp_len {h h' : AH} (H : h.le h') : h.mp.length ≤ h'.mp.length := List.IsPrefix.length_le H.2.2
theorem ItOk.bounds {g : AH} (H : ItOk g h x) : ∀ b, x.blk = some b → g.cs.length ≤ b ∧ b < h.cs.length := by
  intro b e
  cases x with
  | mp r es => cases e
  | sl v k cs =>
    rcases H with ⟨rfl, _⟩ | ⟨b', o, m, c, row, rfl, h2, h3, h4, h5⟩
    · cases e
    · cases e; exact ⟨h3.1, h3.lt⟩
  | pt b' cs => cases e; obtain ⟨k, hk⟩ := H; exact ⟨hk.1, hk.lt⟩
theorem Loq.nil (wf : h.wf) : Loq h h [] := ⟨wf, .refl h, wf, by simp, .nil⟩
theorem Loq.nil' (wf0 : h0.wf) (hle : h0.le h) (wf : h.wf) : Loq h0 h [] := ⟨wf0, hle, wf, by simp, .nil⟩
theorem Loq.le' (H : Loq h0 h L) (wf : h'.wf) (hle : h.le h') : Loq h0 h' L := ⟨H.wf0, H.le.trans hle, wf, fun x hx => (H.it x hx).map (fun _ _ _ _ B => B.le' hle) (fun _ _ _ a b => ⟨a, pre_get hle.2.2 b⟩), H.ap⟩
theorem Loq.tail (H : Loq h0 h (x :: L)) : Loq h0 h L := ⟨H.wf0, H.le, H.wf, fun y hy => H.it y (List.mem_cons_of_mem _ hy), (List.pairwise_cons.1 H.ap).2⟩
theorem Loq.sub (H : Loq h0 h L) (hs : M.Sublist L) : Loq h0 h M := ⟨H.wf0, H.le, H.wf, fun y hy => H.it y (hs.subset hy), H.ap.sublist hs⟩
theorem Loq.perm (H : Loq h0 h L) (hs : L.Perm M) : Loq h0 h M := ⟨H.wf0, H.le, H.wf, fun y hy => H.it y (hs.mem_iff.2 hy), H.ap.perm hs It.ap.symm⟩
theorem perm_erase {α : Type} : ∀ (L : List α) (i : Nat) (x : α), L[i]? = some x → L.Perm (x :: L.eraseIdx i)
  | [], i, x, h => by simp at h
  | y :: L, 0, x, h => by simp at h; subst h; exact .refl _
  | y :: L, i + 1, x, h => by
    simp only [List.getElem?_cons_succ] at h
    exact ((perm_erase L i x h).cons y).trans (.swap _ _ _)
theorem Loq.rot (H : Loq h0 h L) (i : Nat) (hx : L[i]? = some x) : Loq h0 h (x :: L.eraseIdx i) := by
  exact H.perm (perm_erase L i x hx)
theorem Loq.swap (H : Loq h0 h (x :: y :: L)) : Loq h0 h (y :: x :: L) := H.perm (.swap _ _ _)
theorem Loq.cons (H : Loq h0 h L) (hx : ItOk h0 h x) (hap : ∀ y ∈ L, x.ap y) : Loq h0 h (x :: L) :=
  ⟨H.wf0, H.le, H.wf, fun y hy => by rcases List.mem_cons.1 hy with rfl | hy; exact hx; exact H.it y hy, .cons hap H.ap⟩
/-- What a call has made is the caller's own. -/
theorem Loq.call {h1 : AH} (H : Loq h0 h1 L) (G : Loq h1 h M) : Loq h0 h (M ++ L) := by
  have hl := le_len H.le
  refine ⟨H.wf0, H.le.trans G.le, G.wf, fun y hy => ?_, ?_⟩
  · rcases List.mem_append.1 hy with hy | hy
    · exact (G.it y hy).map (fun _ _ _ _ B => B.mono hl) (fun _ _ _ a b => ⟨Nat.le_trans (mp_len H.le) a, b⟩)
    · exact (H.it y hy).map (fun _ _ _ _ B => B.le' G.le) (fun _ _ _ a b => ⟨a, pre_get G.le.2.2 b⟩)
  · refine List.pairwise_append.2 ⟨G.ap, H.ap, fun x hx y hy => ⟨fun b e e' => ?_, fun r e e' => ?_⟩⟩
    · have h1 := (G.it x hx).bounds b e
      have h2 := (H.it y hy).bounds b e'
      omega
    · have h1 := (G.it x hx).mbounds r e
      have h2 := (H.it y hy).mbounds r e'
      omega
theorem Loq.rebase {h1 : AH} (G : Loq h1 h M) (wf0 : h0.wf) (hle : h0.le h1) : Loq h0 h M := by simpa using (Loq.nil' wf0 hle G.wf0).call G
theorem Loq.it' (H : Loq h0 h L) {i : Nat} (hx : L[i]? = some x) : ItOk h0 h x := H.it x (List.mem_of_getElem? hx)
/-- A slice that is owned, as the former notes tell it. -/
theorem Loq.ownI {α : Type} {enc : α → List AV} {l : List α} (H : Loq h0 h L) (i : Nat) (hx : L[i]? = some (.sl v k (l.flatMap enc))) (hke : ∀ x, (enc x).length = k) (hk0 : 0 < k) : Own h0 k enc h v l := by
  have hfl := flatMap_len hke l
  rcases H.it' hx with ⟨rfl, e⟩ | ⟨b, o, n, c, row, rfl, hn, ⟨hb, m, hm, ho, hmk, hr, ha⟩, hor, hd⟩
  · have : l = [] := by
      have h1 : (l.flatMap enc).length = 0 := by rw [e]; rfl
      rw [hfl] at h1
      rcases Nat.mul_eq_zero.1 h1 with h2 | h2
      · exact List.eq_nil_of_length_eq_zero h2
      · omega
    subst this
    exact Own.nil H.wf0 H.le H.wf _ _
  · rw [hfl] at hn hor
    have hnl : n = l.length := Nat.eq_of_mul_eq_mul_right hk0 hn
    subst hnl
    refine ⟨H.wf0, H.le, H.wf, ⟨rfl, .inr ⟨b, o, c, rfl, ?_, by rw [hm]; simp [hmk]⟩⟩, .inr ⟨b, o, c, m, row, rfl, hb, hm, ho, hmk, hr, hor, ha⟩⟩
    unfold AH.row
    rw [hr]
    simp only [Option.bind_some]
    rw [if_pos (by omega), hd, List.take_of_length_le (by rw [hfl]; omega)]
theorem Own.it {α : Type} {enc : α → List AV} {l : List α} (H : Own h0 k enc h v l) (hke : ∀ x, (enc x).length = k) : ItOk h0 h (.sl v k (l.flatMap enc)) := by
  rcases H.own with e | ⟨b, o, c, m, row, h1, h2, h3, h4, h5, h6, h7, h8⟩
  · have : l = [] := by have := H.rd.len; rw [e] at this; simp [lenA] at this; exact List.eq_nil_of_length_eq_zero this.symm
    exact .inl ⟨e, by rw [this]; rfl⟩
  · refine .inr ⟨b, o, _, c, row, h1, (flatMap_len hke l).symm, ⟨h2, m, h3, h4, h5, h6, h8⟩, by rw [flatMap_len hke]; exact h7, ?_⟩
    obtain ⟨r, e1, e2, e3, e4⟩ := row_get (H.rd.rowG h1).2
    rw [h6] at e1; cases e1
    rw [e3]
    exact (List.take_of_length_le (by simp; omega)).symm
theorem Own.loc {α : Type} {enc : α → List AV} {l : List α} (H : Own h0 k enc h v l) (hke : ∀ x, (enc x).length = k) : Loq h0 h [.sl v k (l.flatMap enc)] :=
  ⟨H.wf0, H.le, H.wf, by intro x hx; rw [List.mem_singleton.1 hx]; exact H.it hke, List.pairwise_singleton _ _⟩
theorem Loq.rdI {α : Type} {enc : α → List AV} {l : List α} (H : Loq h0 h L) (i : Nat) (hx : L[i]? = some (.sl v k (l.flatMap enc))) (hke : ∀ x, (enc x).length = k) (hk0 : 0 < k) : RdG k enc h v l := (H.ownI i hx hke hk0).rd
theorem Loq.rowP (H : Loq h0 h L) (i : Nat) (hx : L[i]? = some (.pt b row)) : h.cs[b]? = some row := by
  obtain ⟨k, _, m, _, _, _, h4, _⟩ := H.it' hx
  exact h4
theorem Loq.cellP (H : Loq h0 h L) (i : Nat) (hx : L[i]? = some (.pt b row)) {o : Nat} (ho : row[o]? = some v) : h.cell b o = some v := by
  unfold AH.cell
  rw [H.rowP i hx]; exact ho
theorem Loq.rowsP (H : Loq h0 h L) (i : Nat) (hx : L[i]? = some (.pt b row)) {o n : Nat} {r : List AV} (ho : o + n ≤ row.length) (hr : (row.drop o).take n = r) : h.row b o n = some r := by
  unfold AH.row
  rw [H.rowP i hx]
  simp only [Option.bind_some]
  rw [if_pos ho, hr]
/-- One block is written anew. -/
theorem Loq.put {i : Nat} {m : Meta} {row' : List AV} (H : Loq h0 h L) (hx : L[i]? = some x) (hb : x.blk = some b) (hB : Blk h0.cs.length h b k row) (hm : h.mt[b]? = some m)
    (hy : y.blk = some b) (hym : y.mr = none) (hyo : ∀ h', Blk h0.cs.length h' b k row' → ItOk h0 h' y) : Loq h0 ⟨(kill h.cs m.anc).set b row', h.mt, h.mp⟩ (L.set i y) := by
  obtain ⟨h1, m', h2, h3, h4, h5, h6⟩ := hB
  rw [hm] at h2; cases h2
  have hlen : ((kill h.cs m.anc).set b row').length = h.cs.length := by rw [List.length_set, kill_length]
  have hbl : b < (kill h.cs m.anc).length := by rw [kill_length]; exact (List.getElem?_eq_some_iff.1 h5).1
  obtain ⟨hi, rfl⟩ := List.getElem?_eq_some_iff.1 hx
  have other : ∀ b' k' r', b' ≠ b → Blk h0.cs.length h b' k' r' → Blk h0.cs.length ⟨(kill h.cs m.anc).set b row', h.mt, h.mp⟩ b' k' r' := by
    rintro b' k' r' hne ⟨g1, m', g2, g3, g4, g5, g6⟩
    refine ⟨g1, m', g2, g3, g4, ?_, g6⟩
    show ((kill h.cs m.anc).set b row')[b']? = _
    rw [List.getElem?_set_ne (Ne.symm hne), kill_get, if_neg, g5]
    rintro ⟨e, _⟩
    have := H.wf.no b b' m m' hm e g2
    rw [g3] at this; cases this
  refine ⟨H.wf0, ⟨pre_of fun j hj => ?_, H.le.2.1, H.le.2.2⟩, H.wf.cs hlen, ?_, ?_⟩
  · show ((kill h.cs m.anc).set b row')[j]? = _
    rw [List.getElem?_set_ne (by omega), kill_get, if_neg, pre_at H.le.1 hj]
    rintro ⟨e, _⟩
    have := (h6 j e).1
    omega
  · intro z hz
    rcases List.mem_or_eq_of_mem_set hz with hz' | rfl
    · obtain ⟨j, hj⟩ := List.mem_iff_getElem?.1 hz
      by_cases e : i = j
      · subst e
        rw [List.getElem?_set_self hi] at hj
        cases hj
        exact hyo _ ⟨h1, m, hm, h3, h4, List.getElem?_set_self hbl, h6⟩
      · rw [List.getElem?_set_ne e] at hj
        obtain ⟨hj', rfl⟩ := List.getElem?_eq_some_iff.1 hj
        refine (H.it _ (List.getElem_mem hj')).map (fun b' k' r' e' => other b' k' r' ?_) (fun _ _ _ a b => ⟨a, b⟩)
        rintro rfl
        have hap := List.pairwise_iff_getElem.1 H.ap
        rcases Nat.lt_or_gt_of_ne e with hlt | hlt
        · exact (hap i j hi hj' hlt).1 b' hb e'
        · exact (hap j i hj' hi hlt).1 b' e' hb
    · exact hyo _ ⟨h1, m, hm, h3, h4, List.getElem?_set_self hbl, h6⟩
  · have hap := List.pairwise_iff_getElem.1 H.ap
    refine List.pairwise_iff_getElem.2 fun p q hp hq hlt => ⟨fun b' e e' => ?_, fun r' e e' => ?_⟩
    · simp only [List.length_set] at hp hq
      simp only [List.getElem_set] at e e'
      have g1 : (L[p]).blk = some b' := by
        split at e
        · rename_i e2; subst e2; rw [hb, ← hy]; exact e
        · exact e
      have g2 : (L[q]).blk = some b' := by
        split at e'
        · rename_i e2; subst e2; rw [hb, ← hy]; exact e'
        · exact e'
      exact (hap p q hp hq hlt).1 b' g1 g2
    · simp only [List.length_set] at hp hq
      simp only [List.getElem_set] at e e'
      split at e
      · rw [hym] at e; cases e
      · split at e'
        · rw [hym] at e'; cases e'
        · exact (hap p q hp hq hlt).2 r' e e'
theorem Loq.new (H : Loq h0 h L) (k : Nat) (cs : List AV) : Loq h0 (h.new k cs) (.pt h.cs.length cs :: L) :=
  (H.le' (H.wf.new k cs) (AH.le_new h k cs)).cons ⟨k, le_len H.le, ⟨k, true, []⟩, new_mt H.wf _ _, rfl, rfl, new_cs _ _ _, by simp⟩ fun y hy => .pt fun b e e' => by
    cases e
    have := ((H.it y hy).bounds _ e').2
    omega
theorem Loq.newS {α : Type} {enc : α → List AV} (H : Loq h0 h L) (hke : ∀ x, (enc x).length = k) (l : List α) (c : Bool) {row : List AV} (hrow : row = l.flatMap enc) {n : Nat} (hn : n = l.length) :
    Loq h0 (h.new k row) (.sl (.sl h.cs.length 0 n c) k (l.flatMap enc) :: L) := by
  refine (H.le' (H.wf.new k row) (AH.le_new h k row)).cons ((Own.fresh H.wf0 H.le H.wf hke l c hrow hn).it hke) fun y hy => .sl fun b e e' => ?_
  cases e
  have := ((H.it y hy).bounds _ e').2
  omega
/-- A slice goes on: its new form is owned in its place. -/
theorem Loq.step {α : Type} {enc : α → List AV} {l' : List α} {i : Nat} {w : AV} {cs : List AV} (H : Loq h0 h L) (hx : L[i]? = some (.sl v k cs)) (S : Step h h' v) (hO : Own h0 k enc h' w l') (hke : ∀ x, (enc x).length = k) (hg : w = v ∨ geV w h.cs.length) :
    Loq h0 h' (L.set i (.sl w k (l'.flatMap enc))) := by
  obtain ⟨hi, hxi⟩ := List.getElem?_eq_some_iff.1 hx
  have hap := List.pairwise_iff_getElem.1 H.ap
  have away : ∀ j (hj : j < L.length), j ≠ i → ∀ b, (L[j]).blk = some b → ∀ o n c, v ≠ .sl b o n c := by
    intro j hj hne b e o n c hv
    have hvb : (L[i]).blk = some b := by rw [hxi, hv]; rfl
    rcases Nat.lt_or_gt_of_ne hne with hlt | hlt
    · exact (hap j i hj hi hlt).1 b e hvb
    · exact (hap i j hi hj hlt).1 b hvb e
  have oth : ∀ j (hj : j < L.length), j ≠ i → ItOk h0 h' (L[j]) := fun j hj hne => (H.it _ (List.getElem_mem hj)).map (fun b k' r e B => by
    obtain ⟨g1, m', g2, g3, g4, g5, g6⟩ := B
    exact ⟨g1, m', S.mt b m' g2 (away j hj hne b e), g3, g4, pre_get S.ext.cs g5, g6⟩) (fun _ _ _ a b => ⟨a, pre_get S.ext.mp b⟩)
  have wb : ∀ j (hj : j < L.length), j ≠ i → ∀ b, (It.sl w k (l'.flatMap enc)).blk = some b → (L[j]).blk ≠ some b := by
    intro j hj hne b e e'
    have hw : ∃ o n c, w = .sl b o n c := by cases w <;> simp [It.blk] at e; subst e; exact ⟨_, _, _, rfl⟩
    obtain ⟨o, n, c, hw⟩ := hw
    rcases hg with e2 | e2
    · exact away j hj hne b e' o n c (e2.symm.trans hw)
    · have h1 := e2 _ _ _ _ hw
      have h2 := ((H.it _ (List.getElem_mem hj)).bounds b e').2
      omega
  refine ⟨H.wf0, hO.le, S.wf, ?_, ?_⟩
  · intro z hz
    obtain ⟨j, hj⟩ := List.mem_iff_getElem?.1 hz
    by_cases e : i = j
    · subst e
      rw [List.getElem?_set_self hi] at hj
      cases hj
      exact hO.it hke
    · rw [List.getElem?_set_ne e] at hj
      obtain ⟨hj', rfl⟩ := List.getElem?_eq_some_iff.1 hj
      exact oth j hj' (Ne.symm e)
  · refine List.pairwise_iff_getElem.2 fun p q hp hq hlt => ⟨fun b e e' => ?_, fun r e e' => ?_⟩
    · simp only [List.length_set] at hp hq
      simp only [List.getElem_set] at e e'
      split at e
      · rename_i e1
        subst e1
        rw [if_neg (by omega)] at e'
        exact wb q hq (by omega) b e e'
      · split at e'
        · rename_i e1
          subst e1
          exact wb p hp (by omega) b e' e
        · exact (hap p q hp hq hlt).1 b e e'
    · simp only [List.length_set] at hp hq
      simp only [List.getElem_set] at e e'
      split at e
      · cases e
      · split at e'
        · cases e'
        · exact (hap p q hp hq hlt).2 r e e'
end
section
variable {P : Program} {a : List AV} {h0 h : AH} {K : List AV → AH → Prop} {d : Option Nat} {L : List It}
/-- A variable is written, or a part of it. -/
theorem OpR_storeP {T : TypeId} {x y : Operand} {b o : Nat} {v : AV} {cs : List AV} (H : Loq h0 h L) (i : Nat) (hx : ev a x = some (.p b o)) (hy : ev a y = some v) (hi : L[i]? = some (.pt b cs)) (hs : szT P T = some v.cells.length) (hsc : v.cells.all AV.sc = true)
    (hle : o + v.cells.length ≤ cs.length) (hk : ∀ h', Loq h0 h' (L.set i (.pt b (setL cs o v.cells))) → K (st a d un) h') : OpR P (.store T x y) d a h K := by
  obtain ⟨k, hB⟩ := H.it' hi
  obtain ⟨h1, m, h2, h3, h4, h5, h6⟩ := hB
  exact OpR_store hx hy hs hsc h2 h3 h5 hle (hk _ (H.put hi rfl ⟨h1, m, h2, h3, h4, h5, h6⟩ h2 rfl rfl fun h' B => ⟨k, B⟩))
/-- An element of a slice is written. -/
theorem OpR_storeS {α : Type} {enc : α → List AV} {l : List α} {T : TypeId} {x y : Operand} {b o n k o' : Nat} {c : Bool} {u : AV} (z : α) (H : Loq h0 h L) (i j : Nat) (hx : ev a x = some (.p b o')) (hy : ev a y = some u) (hi : L[i]? = some (.sl (.sl b o n c) k (l.flatMap enc)))
    (hs : szT P T = some k) (hke : ∀ x, (enc x).length = k) (hk0 : 0 < k) (hj : j < l.length) (ho : o' = o + j * k) (hv : u.cells = enc z) (hsc : u.cells.all AV.sc = true)
    (hk : ∀ h', Loq h0 h' (L.set i (.sl (.sl b o n c) k ((l.set j z).flatMap enc))) → K (st a d un) h') : OpR P (.store T x y) d a h K := by
  have hO := H.ownI i hi hke hk0
  have hnl : n = l.length := by have := hO.rd.len; simpa [lenA] using this
  rcases hO.own with e | ⟨b', o1, c1, m, row, g1, g2, g3, g4, g5, g6, g7, g8⟩
  · cases e
  · cases g1
    subst ho
    have hlen : u.cells.length = k := by rw [hv, hke]
    have hik : j * k + k ≤ l.length * k := by rw [← Nat.succ_mul]; exact Nat.mul_le_mul_right k hj
    have hdrop : row.drop o = l.flatMap enc := by
      obtain ⟨r, e1, e2, e3, e4⟩ := row_get (hO.rd.rowG rfl).2
      rw [g6] at e1; cases e1
      rw [e3]
      exact (List.take_of_length_le (by simp; omega)).symm
    refine OpR_store hx hy (by rw [hlen]; exact hs) hsc g3 g4 g6 (by rw [hlen]; omega) (hk _ (H.put hi rfl ⟨g2, m, g3, g4, g5, g6, g8⟩ g3 rfl rfl fun h' B => .inr ⟨b, o, _, c, setL row (o + j * k) u.cells, rfl, ?_, B, ?_, ?_⟩))
    · rw [flatMap_len hke, List.length_set]
    · rw [setL_length, flatMap_len hke, List.length_set]; omega
    · have hrow : row = row.take o ++ l.flatMap enc := by rw [← hdrop, List.take_append_drop]
      have htl : (row.take o).length = o := by simp; omega
      rw [hv]
      conv => lhs; rw [hrow]
      rw [show o + j * k = (row.take o).length + j * k by rw [htl], setL_app, setL_flat hke l j z hj]
      rw [List.drop_append_of_le_length (by omega), List.drop_of_length_le (by omega), List.nil_append]
theorem OpR_appendL {α : Type} {k : Nat} {enc : α → List AV} {T e : TypeId} {x y : Operand} {v u : AV} {l l' : List α} {bytes : Nat} {z : AV} (H : Loq h0 h L) (i : Nat)
    (hT : P.underlying T = some (.slice e)) (hs : szT P e = some k) (hby : byT P e = some bytes) (hz : zeroA P e = some z) (hzl : z.cells.length = k) (hke : ∀ x, (enc x).length = k) (hk0 : 0 < k)
    (hx : ev a x = some v) (hy : ev a y = some u) (hi : L[i]? = some (.sl v k (l.flatMap enc))) (hR : RdG k enc h u l') (hne : l' ≠ []) (hbd : (l.length + l'.length) * bytes ≤ 140737488355328) (hbd2 : l.length + l'.length ≤ 4611686018427387904)
    (hk : ∀ w h', Loq h0 h' (L.set i (.sl w k ((l ++ l').flatMap enc))) → K (st a d w) h') :
    OpR P (.call { callee := .builtin .append, args := #[x, y], argTypes := #[T, T] }) d a h K :=
  OpR_appendO hT hs hby hz hzl hke hx hy (H.ownI i hi hke hk0) hR hbd hbd2 fun w h' hO S hg => hk w h' (H.step hi S hO hke (.inr (hg hne)))
theorem OpR_allocL {T : TypeId} {z : AV} (H : Loq h0 h L) (hz : zeroA P T = some z) (hs : z.cells.all AV.sc = true) (hk : ∀ b h', Loq h0 h' (.pt b z.cells :: L) → h.le h' → K (st a d (.p b 0)) h') : OpR P (.alloc T) d a h K :=
  OpR_alloc 1 hz hs (hk _ _ (H.new 1 _) (AH.le_new h 1 _))
theorem OpR_boxL {T : TypeId} {x : Operand} {v : AV} (H : Loq h0 h L) (hx : ev a x = some v) (hs : v.cells.all AV.sc = true) (hk : ∀ b h', Loq h0 h' (.pt b v.cells :: L) → h.le h' → K (st a d (.p b 0)) h') : OpR P (.box T x) d a h K :=
  OpR_box 1 hx hs (hk _ _ (H.new 1 _) (AH.le_new h 1 _))
theorem OpR_litL {α : Type} {enc : α → List AV} {T e : TypeId} {n k : Nat} {parts : Array (Nat × Operand)} {z : AV} {ps : List (Nat × AV)} {cs : List AV} (l : List α) (H : Loq h0 h L) (hT : P.underlying T = some (.slice e)) (hs : szT P e = some k) (hz : zeroA P e = some z) (hzk : z.cells.length = k) (hzs : z.cells.all AV.sc = true)
    (hk0 : 0 < k) (he : evps a parts.toList = some ps) (hl : litA k 0 ps = some cs) (hn : ps.length = n) (hb : n * k ≤ 16777216) (hke : ∀ x, (enc x).length = k) (hrow : cs = l.flatMap enc) (hnl : n = l.length)
    (hk : ∀ w h', Loq h0 h' (.sl w k (l.flatMap enc) :: L) → h.le h' → RdG k enc h' w l → lenA w = some n → K (st a d w) h') : OpR P (.buildSlice T n parts) d a h K :=
  OpR_lit hT hs hz hzk hzs hk0 he hl hn hb (by
    have G := H.newS hke l true hrow hnl
    exact hk _ _ G (AH.le_new h k _) (G.rdI 0 rfl hke hk0) rfl)
theorem OpR_makeL {α : Type} {enc : α → List AV} {T e : TypeId} {x y : Operand} {n m : Int} {z : AV} {bytes : Nat} (zz : α) (H : Loq h0 h L) (hT : P.underlying T = some (.slice e)) (hs : szT P e = some 1) (hb : byT P e = some bytes) (hz : zeroA P e = some z) (hz1 : z.cells = [z]) (hzs : z.sc = true)
    (hx : ev a x = some (.i .i64 n)) (hy : ev a y = some (.i .i64 m)) (hnm : m = n) (h0' : 0 ≤ n) (h1 : n * bytes ≤ 140737488355328) (h2 : n ≤ 9223372036854775807) (hke : ∀ x, (enc x).length = 1) (hzz : enc zz = [z])
    (hk : ∀ b h', Loq h0 h' (.sl (.sl b 0 n.toNat true) 1 ((List.replicate n.toNat zz).flatMap enc) :: L) → h.le h' → K (st a d (.sl b 0 n.toNat true)) h') : OpR P (.makeSlice T x y) d a h K := by
  refine OpR_make hT hs hb hz hz1 hzs hx hy hnm h0' h1 h2 (hk _ _ (H.newS hke (List.replicate n.toNat zz) true ?_ (by simp)) (AH.le_new h 1 _))
  generalize n.toNat = q
  induction q with
  | zero => rfl
  | succ q ih => simp only [List.replicate_succ, List.flatMap_cons, ← ih, hzz]; rfl
end
end Go.AL
