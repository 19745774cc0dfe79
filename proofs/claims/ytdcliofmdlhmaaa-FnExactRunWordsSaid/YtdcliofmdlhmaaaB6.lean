/- The abstract logic, part 15: what a slice's writing leaves of all else; slices of slices. -/
import Derived.Test.YtdcliofmdlhmaaaB5
namespace Go.AL
open Go.RowKit

theorem Own.rebase {α : Type} {h0 h1 h : AH} {k : Nat} {enc : α → List AV} {v : AV} {l : List α} (H : Own h1 k enc h v l) (wf0 : h0.wf) (hle : h0.le h1) : Own h0 k enc h v l := by
  have hl := le_len hle
  refine ⟨wf0, hle.trans H.le, H.wf, H.rd, ?_⟩
  rcases H.own with e | ⟨b, o, c, m, row, h1, h2, h3, h4, h5, h6, h7, h8⟩
  · exact .inl e
  · exact .inr ⟨b, o, c, m, row, h1, by omega, h3, h4, h5, h6, h7, fun a ha => by have := h8 a ha; omega⟩
/-- Two slices of different blocks. -/
def apartV (v v' : AV) : Prop := ∀ b o n c b' o' n' c', v = .sl b o n c → v' = .sl b' o' n' c' → b ≠ b'
theorem apartV.symm {v v' : AV} (H : apartV v v') : apartV v' v := fun b o n c b' o' n' c' e e' => Ne.symm (H b' o' n' c' b o n c e' e)
def ltV (v : AV) (n : Nat) : Prop := ∀ b o m c, v = .sl b o m c → b < n
theorem apart_lt_ge {v v' : AV} {n : Nat} (H : ltV v n) (G : geV v' n) : apartV v v' := fun b o m c b' o' m' c' e e' => by have := H _ _ _ _ e; have := G _ _ _ _ e'; omega
theorem Own.lt {α : Type} {h0 h : AH} {k : Nat} {enc : α → List AV} {v : AV} {l : List α} (H : Own h0 k enc h v l) : ltV v h.cs.length := by
  intro b o m c e
  rcases H.own with e' | ⟨b', o', c', m', row, h1, h2, h3, h4, h5, h6, h7, h8⟩
  · rw [e'] at e; cases e
  · rw [h1] at e; cases e; exact (List.getElem?_eq_some_iff.1 h6).1
theorem Own.ge {α : Type} {h0 h : AH} {k : Nat} {enc : α → List AV} {v : AV} {l : List α} (H : Own h0 k enc h v l) : geV v h0.cs.length := by
  intro b o m c e
  rcases H.own with e' | ⟨b', o', c', m', row, h1, h2, h3, h4, h5, h6, h7, h8⟩
  · rw [e'] at e; cases e
  · rw [h1] at e; cases e; exact h2
theorem ltV.mono {v : AV} {n m : Nat} (H : ltV v n) (h : n ≤ m) : ltV v m := fun b o q c e => Nat.lt_of_lt_of_le (H b o q c e) h
theorem geV.mono {v : AV} {n m : Nat} (H : geV v n) (h : m ≤ n) : geV v m := fun b o q c e => Nat.le_trans h (H b o q c e)

/-- What is left alone by one who writes into the slice v. -/
structure Fr (h h' : AH) (v : AV) : Prop where
  mt : h'.mt = h.mt
  mp : h'.mp = h.mp
  len : h'.cs.length = h.cs.length
  cs : ∀ b', (∀ b o n c, v = .sl b o n c → b' ≠ b ∧ ∀ m, h.mt[b]? = some m → b' ∉ m.anc) → h'.cs[b']? = h.cs[b']?
theorem Fr.refl (h : AH) (v : AV) : Fr h h v := ⟨rfl, rfl, rfl, fun _ _ => rfl⟩
theorem Fr.trans {h h' h'' : AH} {v : AV} (H : Fr h h' v) (G : Fr h' h'' v) : Fr h h'' v :=
  ⟨G.mt.trans H.mt, G.mp.trans H.mp, G.len.trans H.len, fun b' hb => (G.cs b' fun b o n c e => ⟨(hb b o n c e).1, fun m hm => (hb b o n c e).2 m (by rw [← H.mt]; exact hm)⟩).trans (H.cs b' hb)⟩
theorem Fr.wf {h h' : AH} {v : AV} (H : Fr h h' v) (wf : h.wf) : h'.wf := by
  have := wf.cs H.len
  rw [← H.mt, ← H.mp] at this
  exact this
theorem pre_of {α : Type} {l l' : List α} (h : ∀ i, i < l.length → l'[i]? = l[i]?) : l <+: l' := by
  rw [List.prefix_iff_eq_take]
  apply List.ext_getElem?
  intro i
  by_cases hi : i < l.length
  · rw [List.getElem?_take_of_lt hi, h i hi]
  · rw [List.getElem?_eq_none (by omega), List.getElem?_eq_none (by simp; omega)]
theorem pre_at {α : Type} {l l' : List α} (h : l <+: l') {i : Nat} (hi : i < l.length) : l'[i]? = l[i]? := by
  obtain ⟨t, rfl⟩ := h
  rw [List.getElem?_append_left hi]
theorem Own.fr_le {α : Type} {h0 h h' : AH} {k : Nat} {enc : α → List AV} {v : AV} {l : List α} (H : Own h0 k enc h v l) (F : Fr h h' v) : h0.le h' := by
  refine ⟨pre_of fun i hi => ?_, by rw [F.mt]; exact H.le.2.1, by rw [F.mp]; exact H.le.2.2⟩
  rw [F.cs i, pre_at H.le.1 hi]
  intro b o n c e
  rcases H.own with e' | ⟨b', o', c', m', row, h1, h2, h3, h4, h5, h6, h7, h8⟩
  · rw [e'] at e; cases e
  · rw [h1] at e; cases e
    refine ⟨by omega, fun m hm ha => ?_⟩
    rw [h3] at hm; cases hm
    have := h8 i ha
    omega
/-- Another slice of the run's own. -/
theorem Own.fr {α : Type} {h0 h h' : AH} {k : Nat} {enc : α → List AV} {v u : AV} {l : List α} (H : Own h0 k enc h v l) (F : Fr h h' u) (hle : h0.le h') (hne : apartV u v) : Own h0 k enc h' v l := by
  have wf' := F.wf H.wf
  rcases H.own with e' | ⟨b, o, c, m, row, h1, h2, h3, h4, h5, h6, h7, h8⟩
  · subst e'
    exact ⟨H.wf0, hle, wf', ⟨H.rd.len, .inl rfl⟩, .inl rfl⟩
  · subst h1
    have hcs : h'.cs[b]? = h.cs[b]? := F.cs b fun b' o' n' c' e => ⟨Ne.symm (hne _ _ _ _ _ _ _ _ e rfl), fun m' hm' ha => by
      have := H.wf.no b' b m' m hm' ha h3
      rw [h4] at this; cases this⟩
    refine ⟨H.wf0, hle, wf', ⟨H.rd.len, .inr ⟨b, o, c, rfl, ?_, by rw [F.mt, h3]; simp [h5]⟩⟩, .inr ⟨b, o, c, m, row, rfl, h2, by rw [F.mt]; exact h3, h4, h5, by rw [hcs]; exact h6, h7, h8⟩⟩
    have := (H.rd.rowG rfl).2
    unfold AH.row at this ⊢
    rw [hcs]
    exact this
/-- Blocks within bounds are all that was touched. -/
structure FrB (h h' : AH) (lo hi : Nat) : Prop where
  mt : h'.mt = h.mt
  mp : h'.mp = h.mp
  len : h'.cs.length = h.cs.length
  cs : ∀ b', (b' < lo ∨ hi ≤ b') → h'.cs[b']? = h.cs[b']?
theorem FrB.refl (h : AH) (lo hi : Nat) : FrB h h lo hi := ⟨rfl, rfl, rfl, fun _ _ => rfl⟩
theorem FrB.trans {h h' h'' : AH} {lo hi : Nat} (H : FrB h h' lo hi) (G : FrB h' h'' lo hi) : FrB h h'' lo hi :=
  ⟨G.mt.trans H.mt, G.mp.trans H.mp, G.len.trans H.len, fun b' hb => (G.cs b' hb).trans (H.cs b' hb)⟩
theorem FrB.wf {h h' : AH} {lo hi : Nat} (H : FrB h h' lo hi) (wf : h.wf) : h'.wf := by
  have := wf.cs H.len
  rw [← H.mt, ← H.mp] at this
  exact this
theorem Fr.B {α : Type} {h0 h h' : AH} {k : Nat} {enc : α → List AV} {v : AV} {l : List α} {hi : Nat} (F : Fr h h' v) (H : Own h0 k enc h v l) (hlt : ltV v hi) : FrB h h' h0.cs.length hi := by
  refine ⟨F.mt, F.mp, F.len, fun b' hb => F.cs b' ?_⟩
  intro b o n c e
  rcases H.own with e' | ⟨b1, o1, c1, m, row, h1, h2, h3, h4, h5, h6, h7, h8⟩
  · rw [e'] at e; cases e
  · have hb1 := hlt _ _ _ _ e
    rw [h1] at e; cases e
    refine ⟨by omega, fun m' hm' ha => ?_⟩
    rw [h3] at hm'; cases hm'
    have := h8 _ ha
    omega
theorem FrB.le {h0 h h' : AH} {lo hi : Nat} (F : FrB h h' lo hi) (hle : h0.le h) (hlo : h0.cs.length ≤ lo) : h0.le h' :=
  ⟨pre_of fun i hi' => by rw [F.cs i (.inl (by omega)), pre_at hle.1 hi'], by rw [F.mt]; exact hle.2.1, by rw [F.mp]; exact hle.2.2⟩
theorem FrB.mono {h h' : AH} {lo hi lo' hi' : Nat} (F : FrB h h' lo hi) (h1 : lo' ≤ lo) (h2 : hi ≤ hi') : FrB h h' lo' hi' := ⟨F.mt, F.mp, F.len, fun b' hb => F.cs b' (by omega)⟩
theorem Own.frB {α : Type} {h0 h h' : AH} {k lo hi : Nat} {enc : α → List AV} {v : AV} {l : List α} (H : Own h0 k enc h v l) (F : FrB h h' lo hi) (hle : h0.le h') (hne : ltV v lo ∨ geV v hi) : Own h0 k enc h' v l := by
  have wf' := F.wf H.wf
  rcases H.own with e' | ⟨b, o, c, m, row, h1, h2, h3, h4, h5, h6, h7, h8⟩
  · subst e'
    exact ⟨H.wf0, hle, wf', ⟨H.rd.len, .inl rfl⟩, .inl rfl⟩
  · subst h1
    have hcs : h'.cs[b]? = h.cs[b]? := F.cs b (hne.imp (fun e => e _ _ _ _ rfl) fun e => e _ _ _ _ rfl)
    refine ⟨H.wf0, hle, wf', ⟨H.rd.len, .inr ⟨b, o, c, rfl, ?_, by rw [F.mt, h3]; simp [h5]⟩⟩, .inr ⟨b, o, c, m, row, rfl, h2, by rw [F.mt]; exact h3, h4, h5, by rw [hcs]; exact h6, h7, h8⟩⟩
    have := (H.rd.rowG rfl).2
    unfold AH.row at this ⊢
    rw [hcs]
    exact this
/-- An element of a slice of the run's own is written. -/
theorem OpR_storeO {α : Type} {P : Program} {h0 h : AH} {k b o n : Nat} {c : Bool} {enc : α → List AV} {l : List α} {a : List AV} {K : List AV → AH → Prop} {d : Option Nat} {T : TypeId} {x y : Operand} {o' i : Nat} {u : AV} {z : α}
    (hx : ev a x = some (.p b o')) (hy : ev a y = some u) (hs : szT P T = some k) (hke : ∀ x, (enc x).length = k) (hO : Own h0 k enc h (.sl b o n c) l) (hi : i < l.length) (ho : o' = o + i * k) (hv : u.cells = enc z) (hsc : u.cells.all AV.sc = true)
    (hk : ∀ h', Fr h h' (.sl b o n c) → Own h0 k enc h' (.sl b o n c) (l.set i z) → K (st a d un) h') : OpR P (.store T x y) d a h K := by
  subst ho
  have hlen : u.cells.length = k := by rw [hv, hke]
  rcases hO.own with e | ⟨b', o1, c1, m, row, h1, h2, h3, h4, h5, h6, h7, h8⟩
  · cases e
  · cases h1
    have hik : i * k + k ≤ l.length * k := by rw [← Nat.succ_mul]; exact Nat.mul_le_mul_right k hi
    refine OpR_store hx hy (by rw [hlen]; exact hs) hsc h3 h4 h6 (by rw [hlen]; omega) ?_
    have hF : Fr h ⟨(kill h.cs m.anc).set b (setL row (o + i * k) u.cells), h.mt, h.mp⟩ (.sl b o l.length c) := by
      refine ⟨rfl, rfl, by simp [kill_length], fun b' hb => ?_⟩
      obtain ⟨e1, e2⟩ := hb _ _ _ _ rfl
      rw [List.getElem?_set_ne (Ne.symm e1), kill_get, if_neg (fun e => e2 m h3 e.1)]
    refine hk _ hF ⟨hO.wf0, hO.fr_le hF, hF.wf hO.wf, ⟨by simp [lenA], .inr ⟨b, o, c, by simp, ?_, by rw [h3]; simp [h5]⟩⟩, .inr ⟨b, o, c, m, setL row (o + i * k) u.cells, by simp, h2, h3, h4, h5, ?_, ?_, h8⟩⟩
    · have hdrop : row.drop o = l.flatMap enc := by
        obtain ⟨r, e1, e2, e3, e4⟩ := row_get (hO.rd.rowG rfl).2
        rw [h6] at e1; cases e1
        rw [e3]
        exact (List.take_of_length_le (by simp; omega)).symm
      have hbl : b < (kill h.cs m.anc).length := by rw [kill_length]; exact (List.getElem?_eq_some_iff.1 h6).1
      simp only [AH.row, List.getElem?_set_self hbl, Option.bind_some, setL_length, List.length_set]
      rw [if_pos (by omega)]
      congr 1
      have hrow : row = row.take o ++ l.flatMap enc := by rw [← hdrop, List.take_append_drop]
      have htl : (row.take o).length = o := by simp; omega
      rw [hv]
      conv => lhs; rw [hrow]
      rw [show o + i * k = (row.take o).length + i * k by rw [htl], setL_app, setL_flat hke l i z hi]
      rw [List.drop_append_of_le_length (by omega), List.drop_of_length_le (by omega), List.nil_append, List.take_of_length_le (by rw [flatMap_len hke, List.length_set]; omega)]
    · rw [List.getElem?_set_self (by rw [kill_length]; exact (List.getElem?_eq_some_iff.1 h6).1)]
    · rw [setL_length, List.length_set]; exact h7
theorem Own.sl {α : Type} {h0 h : AH} {k : Nat} {enc : α → List AV} {v : AV} {l : List α} (H : Own h0 k enc h v l) (hl : 0 < l.length) : ∃ b o c, v = .sl b o l.length c := by
  rcases H.rd.rd with e | ⟨b, o, c, e, _⟩
  · have := H.rd.len; rw [e] at this; simp [lenA] at this; omega
  · exact ⟨b, o, c, e⟩
theorem Step.le {α : Type} {h0 h h' : AH} {k : Nat} {enc : α → List AV} {v u : AV} {l : List α} (S : Step h h' u) (H : Own h0 k enc h v l) (hg : geV u h0.cs.length) : h0.le h' := by
  refine ⟨H.le.1.trans S.ext.cs, pre_of fun i hi => ?_, H.le.2.2.trans S.ext.mp⟩
  have e := List.getElem?_eq_getElem hi
  have := pre_get H.le.2.1 e
  rw [e, S.mt i _ this fun o n c eu => by have := hg _ _ _ _ eu; have := H.wf0.len; omega]

theorem RdG.one {α : Type} {k : Nat} {enc : α → List AV} {h : AH} {v : AV} {l : List α} (H : RdG k enc h v l) : v.cells = [v] ∧ v.cells.all AV.sc = true := by
  rcases H.rd with rfl | ⟨b, o, c, rfl, _⟩ <;> exact ⟨rfl, rfl⟩
theorem apart_eq_ge {b o n m : Nat} {c : Bool} {u : AV} (G : geV u m) (h : b < m) : apartV (.sl b o n c) u := by
  intro b' o' n' c' b2 o2 n2 c2 e1 e2
  cases e1
  have := G _ _ _ _ e2
  omega

/-! ### Slices of slices of ints -/
structure RdSS (h : AH) (v : AV) (ll : List (List Int)) (vs : List AV) : Prop where
  outer : RdG 1 enV h v vs
  len : vs.length = ll.length
  row : ∀ (i : Nat) (u : AV) (l : List Int), vs[i]? = some u → ll[i]? = some l → Rd h u l
theorem RdSS.le {h h' : AH} {v : AV} {ll : List (List Int)} {vs : List AV} (H : RdSS h v ll vs) (hle : h.le h') : RdSS h' v ll vs :=
  ⟨H.outer.le hle, H.len, fun i u l a b => (H.row i u l a b).le hle⟩
theorem RdSS.at_ {h : AH} {v : AV} {ll : List (List Int)} {vs : List AV} (H : RdSS h v ll vs) {i : Nat} {l : List Int} (hl : ll[i]? = some l) : ∃ u, vs[i]? = some u ∧ Rd h u l := by
  have hi : i < vs.length := by rw [H.len]; exact (List.getElem?_eq_some_iff.1 hl).1
  exact ⟨vs[i], List.getElem?_eq_getElem hi, H.row i _ l (List.getElem?_eq_getElem hi) hl⟩
structure OwnSS (h0 h : AH) (v : AV) (ll : List (List Int)) (vs : List AV) : Prop where
  outer : Own h0 1 enV h v vs
  len : vs.length = ll.length
  row : ∀ (i : Nat) (u : AV) (l : List Int), vs[i]? = some u → ll[i]? = some l → Own h0 1 enI h u l
  ap : ∀ (i j : Nat) (u u' : AV), vs[i]? = some u → vs[j]? = some u' → i ≠ j → apartV u u'
  apo : ∀ (i : Nat) (u : AV), vs[i]? = some u → apartV v u
section
variable {h0 h1 h h' : AH} {v u : AV} {ll : List (List Int)} {vs : List AV}
theorem OwnSS.rd (H : OwnSS h0 h v ll vs) : RdSS h v ll vs := ⟨H.outer.rd, H.len, fun i u l a b => (H.row i u l a b).rd⟩
theorem OwnSS.get (H : OwnSS h0 h v ll vs) {i : Nat} {u : AV} (hu : vs[i]? = some u) : ∃ l, ll[i]? = some l ∧ Own h0 1 enI h u l := by
  have hi : i < ll.length := by rw [← H.len]; exact (List.getElem?_eq_some_iff.1 hu).1
  exact ⟨ll[i], List.getElem?_eq_getElem hi, H.row i u _ hu (List.getElem?_eq_getElem hi)⟩
theorem OwnSS.rebase (H : OwnSS h1 h v ll vs) (wf0 : h0.wf) (hle : h0.le h1) : OwnSS h0 h v ll vs :=
  ⟨H.outer.rebase wf0 hle, H.len, fun i u l a b => (H.row i u l a b).rebase wf0 hle, H.ap, H.apo⟩
theorem OwnSS.le' (H : OwnSS h0 h v ll vs) (wf : h'.wf) (hle : h.le h') : OwnSS h0 h' v ll vs :=
  ⟨H.outer.le' wf hle, H.len, fun i u l a b => (H.row i u l a b).le' wf hle, H.ap, H.apo⟩
/-- All of its blocks are below n; at n or above. -/
def ltSS (v : AV) (vs : List AV) (n : Nat) : Prop := ltV v n ∧ ∀ (i : Nat) (u : AV), vs[i]? = some u → ltV u n
def geSS (v : AV) (vs : List AV) (n : Nat) : Prop := geV v n ∧ ∀ (i : Nat) (u : AV), vs[i]? = some u → geV u n
theorem OwnSS.lt (H : OwnSS h0 h v ll vs) : ltSS v vs h.cs.length := ⟨H.outer.lt, fun i u hu => by obtain ⟨l, _, hO⟩ := H.get hu; exact hO.lt⟩
theorem OwnSS.ge (H : OwnSS h0 h v ll vs) : geSS v vs h0.cs.length := ⟨H.outer.ge, fun i u hu => by obtain ⟨l, _, hO⟩ := H.get hu; exact hO.ge⟩
theorem OwnSS.frB {lo hi : Nat} (H : OwnSS h0 h v ll vs) (F : FrB h h' lo hi) (hle : h0.le h') (hne : ltSS v vs lo ∨ geSS v vs hi) : OwnSS h0 h' v ll vs :=
  ⟨H.outer.frB F hle (hne.imp (·.1) (·.1)), H.len, fun i u l a b => (H.row i u l a b).frB F hle (hne.imp (fun e => e.2 i u a) fun e => e.2 i u a), H.ap, H.apo⟩
/-- Whoever builds another slice leaves it as it is. -/
theorem OwnSS.keep (H : OwnSS h0 h v ll vs) (S : Step h h' u) {n : Nat} (hg : geV u n) (hn : h0.cs.length ≤ n) (hl : ltSS v vs n) : OwnSS h0 h' v ll vs := by
  have hle := S.le H.outer (hg.mono hn)
  exact ⟨H.outer.keep S hle (.inr (apart_lt_ge hl.1 hg)), H.len, fun i u l a b => (H.row i u l a b).keep S hle (.inr (apart_lt_ge (hl.2 i u a) hg)), H.ap, H.apo⟩
/-- A row more. -/
theorem OwnSS.push {l : List Int} {w : AV} (H : OwnSS h0 h v ll vs) (hu : Own h0 1 enI h u l) (hap : ∀ (i : Nat) (z : AV), vs[i]? = some z → apartV z u) (hvu : apartV v u) (S : Step h h' v)
    (hO : Own h0 1 enV h' w (vs ++ [u])) (hg : geV w h.cs.length) : OwnSS h0 h' w (ll ++ [l]) (vs ++ [u]) := by
  have hle := S.le H.outer H.outer.ge
  refine ⟨hO, by simp [H.len], ?_, ?_, ?_⟩
  · intro i z q hz hq
    rcases get_snoc hz with ⟨hi, hz⟩ | ⟨e, rfl⟩
    · rw [List.getElem?_append_left (by rw [← H.len]; exact hi)] at hq
      exact (H.row i z q hz hq).keep S hle (.inr (H.apo i z hz).symm)
    · rcases get_snoc hq with ⟨hi, _⟩ | ⟨_, rfl⟩
      · rw [H.len] at e; omega
      · exact hu.keep S hle (.inr hvu.symm)
  · intro i j z z' hz hz' hne
    rcases get_snoc hz with ⟨hi, hz1⟩ | ⟨e, hz1⟩ <;> rcases get_snoc hz' with ⟨hj, hz2⟩ | ⟨e', hz2⟩
    · exact H.ap i j z z' hz1 hz2 hne
    · rw [hz2]; exact hap i z hz1
    · rw [hz1]; exact (hap j z' hz2).symm
    · omega
  · intro i z hz
    rcases get_snoc hz with ⟨hi, hz⟩ | ⟨e, rfl⟩
    · exact (apart_lt_ge (H.lt.2 i z hz) hg).symm
    · exact (apart_lt_ge hu.lt hg).symm
/-- One row is written. -/
theorem OwnSS.fr {i : Nat} {l' : List Int} (H : OwnSS h0 h v ll vs) (hu : vs[i]? = some u) (F : Fr h h' u) (hO : Own h0 1 enI h' u l') : OwnSS h0 h' v (ll.set i l') vs := by
  obtain ⟨l, _, hO0⟩ := H.get hu
  have hle := hO0.fr_le F
  refine ⟨H.outer.fr F hle (H.apo i u hu).symm, by simp [H.len], ?_, H.ap, H.apo⟩
  intro j z q hz hq
  by_cases e : i = j
  · subst e
    rw [hu] at hz
    cases hz
    rw [List.getElem?_set_self (by rw [← H.len]; exact (List.getElem?_eq_some_iff.1 hu).1)] at hq
    cases hq
    exact hO
  · rw [List.getElem?_set_ne e] at hq
    exact (H.row j z q hz hq).fr F hle (H.ap i j u z hu hz e)
end
end Go.AL
