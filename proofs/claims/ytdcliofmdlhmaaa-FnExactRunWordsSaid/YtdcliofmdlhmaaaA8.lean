/- The abstract logic, part 8: stores and appends. -/
import Derived.Test.YtdcliofmdlhmaaaA7
namespace Go.AL
open Go.RowKit

def kill (cs : List (List AV)) : List Nat → List (List AV)
  | [] => cs
  | x :: l => kill (cs.set x []) l
theorem kill_length : ∀ (l : List Nat) (cs : List (List AV)), (kill cs l).length = cs.length
  | [], _ => rfl
  | x :: l, cs => by simp [kill, kill_length l]
theorem kill_get : ∀ (l : List Nat) (cs : List (List AV)) (j : Nat), (kill cs l)[j]? = if j ∈ l ∧ j < cs.length then some [] else cs[j]?
  | [], cs, j => by simp [kill]
  | x :: l, cs, j => by
    rw [kill, kill_get l (cs.set x []) j]
    simp only [List.length_set, List.mem_cons]
    by_cases h1 : j ∈ l ∧ j < cs.length
    · rw [if_pos h1, if_pos ⟨.inr h1.1, h1.2⟩]
    · rw [if_neg h1]
      by_cases h2 : x = j
      · subst h2
        by_cases h3 : x < cs.length
        · rw [if_pos ⟨.inl rfl, h3⟩]; simp [h3]
        · rw [if_neg (fun e => h3 e.2)]; rw [List.set_eq_of_length_le (by omega)]
      · rw [List.getElem?_set_ne h2]
        split
        · rename_i h4
          rcases h4 with ⟨rfl | h5, h6⟩
          · exact absurd rfl h2
          · exact absurd ⟨h5, h6⟩ h1
        · rfl

section
variable {base : Nat} {w0 : World} {ι : Pl} {h : AH} {w : World}

/-- Some rows fall out of use. -/
theorem Rep.kill (hrep : Rep base w0 ι h w) (l : List Nat) (hno : ∀ b ∈ l, ∀ m, h.mt[b]? = some m → m.own = false) : Rep base w0 ι ⟨AL.kill h.cs l, h.mt, h.mp⟩ w := by
  have old : ∀ {b : Nat} {r : List AV}, (AL.kill h.cs l)[b]? = some r → (b ∈ l ∧ r = [] ∧ b < h.cs.length) ∨ (h.cs[b]? = some r) := by
    intro b r hr
    rw [kill_get] at hr
    split at hr
    · rename_i hc; injection hr with hr; exact .inl ⟨hc.1, hr.symm, hc.2⟩
    · exact .inr hr
  refine ⟨by rw [kill_length]; exact hrep.lb, by rw [kill_length]; exact hrep.lm, hrep.lp, hrep.below, hrep.base_le, ?_, ?_, hrep.kk, hrep.inb, ?_, ?_, hrep.own2, hrep.ancno, ?_, hrep.mcell, hrep.mexcl, hrep.oth⟩
  · intro b r hr
    rcases old hr with ⟨_, rfl, _⟩ | hr
    · rfl
    · exact hrep.sc b r hr
  · intro b pl r hp hr j v hv
    rcases old hr with ⟨_, rfl, _⟩ | hr
    · simp at hv
    · exact hrep.cell b pl r hp hr j v hv
  · intro b pl m r hp hm hr ho
    rcases old hr with ⟨hb, rfl, _⟩ | hr
    · exact absurd ho (by rw [hno b hb m hm]; simp)
    · exact hrep.own b pl m r hp hm hr ho
  · intro b b' pl pl' m m' r r' hp hp' hm hm' hr hr' ho hc
    rcases old hr' with ⟨_, rfl, _⟩ | hr'
    · exact .inr (.inl rfl)
    · rcases old hr with ⟨hb, rfl, _⟩ | hr
      · exact absurd ho (by rw [hno b hb m hm]; simp)
      · exact hrep.excl b b' pl pl' m m' r r' hp hp' hm hm' hr hr' ho hc
  · intro b m hm b' hb'
    rw [kill_length]
    exact hrep.anclt b m hm b' hb'

/-- A row of the run's own is given up. -/
theorem Rep.unown (hrep : Rep base w0 ι h w) {b : Nat} {m : Meta} (hm : h.mt[b]? = some m) : Rep base w0 ι ⟨h.cs, h.mt.set b ⟨m.k, false, m.anc⟩, h.mp⟩ w := by
  have old : ∀ {b' : Nat} {m' : Meta}, (h.mt.set b ⟨m.k, false, m.anc⟩)[b']? = some m' → ∃ m'', h.mt[b']? = some m'' ∧ m'.k = m''.k ∧ m'.anc = m''.anc ∧ (m'.own = true → m'' = m') ∧ (m''.own = false → m'.own = false) := by
    intro b' m' hm'
    by_cases e : b = b'
    · subst e
      rw [List.getElem?_set_self (List.getElem?_eq_some_iff.1 hm).1] at hm'
      injection hm' with hm'
      subst hm'
      exact ⟨m, hm, rfl, rfl, by simp, by simp⟩
    · rw [List.getElem?_set_ne e] at hm'
      exact ⟨m', hm', rfl, rfl, fun _ => rfl, id⟩
  refine ⟨hrep.lb, by simpa using hrep.lm, hrep.lp, hrep.below, hrep.base_le, hrep.sc, hrep.cell, ?_, hrep.inb, ?_, ?_, ?_, ?_, ?_, hrep.mcell, hrep.mexcl, hrep.oth⟩
  · intro b' pl m' hp hm'
    obtain ⟨m'', h1, h2, _⟩ := old hm'
    rw [h2]; exact hrep.kk b' pl m'' hp h1
  · intro b' pl m' r hp hm' hr ho
    obtain ⟨m'', h1, _, _, h4, _⟩ := old hm'
    rw [h4 ho] at h1
    exact hrep.own b' pl m' r hp h1 hr ho
  · intro b1 b2 pl pl' m1 m2 r r' hp hp' hm1 hm2 hr hr' ho hc
    obtain ⟨m1', h1, _, _, h4, _⟩ := old hm1
    rw [h4 ho] at h1
    obtain ⟨m2', h1', _, _, _, h5'⟩ := old hm2
    rcases hrep.excl b1 b2 pl pl' m1 m2' r r' hp hp' h1 h1' hr hr' ho hc with e | e | ⟨e1, e2, e3⟩
    · exact .inl e
    · exact .inr (.inl e)
    · exact .inr (.inr ⟨e1, h5' e2, e3⟩)
  · intro b1 b2 pl pl' m1 m2 hp hp' hm1 hm2 ho ho' hc
    obtain ⟨m1', h1, _, _, h4, _⟩ := old hm1
    rw [h4 ho] at h1
    obtain ⟨m2', h1', _, _, h4', _⟩ := old hm2
    rw [h4' ho'] at h1'
    exact hrep.own2 b1 b2 pl pl' m1 m2 hp hp' h1 h1' ho ho' hc
  · intro b1 b2 m1 m2 hm1 hb2 hm2
    obtain ⟨m1', h1, _, h3, _⟩ := old hm1
    obtain ⟨m2', h1', _, _, _, h5'⟩ := old hm2
    exact h5' (hrep.ancno b1 b2 m1' m2' h1 (h3 ▸ hb2) h1')
  · intro b1 m1 hm1 b2 hb2
    obtain ⟨m1', h1, _, h3, _⟩ := old hm1
    exact hrep.anclt b1 m1' h1 b2 (h3 ▸ hb2)

/-- A store into a row of the run's own. -/
theorem Rep.store (hrep : Rep base w0 ι h w) {b o : Nat} {m : Meta} {l vs : List AV} {cs : List Value} {pl : Place} (hp : ι.bl[b]? = some pl) (hm : h.mt[b]? = some m) (ho : m.own = true) (hl : h.cs[b]? = some l) (hle : o + vs.length ≤ l.length)
    (hv : VRels ι vs cs) (hsc : vs.all AV.sc = true) {arr : Array Value} {T : TypeId} (harr : w.heap[pl.c]? = some (.cells arr T (0, 0))) {arr' : Array Value} (hsz : arr'.size = arr.size)
    (harr' : ∀ j : Nat, arr'[j]? = if pl.o + o ≤ j ∧ j < pl.o + o + cs.length then cs[j - (pl.o + o)]? else arr[j]?) :
    Rep base w0 ι ⟨(AL.kill h.cs m.anc).set b (setL l o vs), h.mt, h.mp⟩ (w.setRow pl.c arr') := by
  have hk := hrep.kill m.anc (fun b' hb' m' hm' => hrep.ancno b b' m m' hm hb' hm')
  have hbase := (hrep.own b pl m l hp hm hl ho).1
  have hvl := hv.length
  have hbl : b < h.cs.length := (List.getElem?_eq_some_iff.1 hl).1
  have hnb : b ∉ m.anc := fun hb => by have := hrep.ancno b b m m hm hb hm; rw [ho] at this; cases this
  have hlk : (AL.kill h.cs m.anc)[b]? = some l := by rw [kill_get, if_neg (fun e => hnb e.1)]; exact hl
  have old : ∀ {b' : Nat} {r : List AV}, ((AL.kill h.cs m.anc).set b (setL l o vs))[b']? = some r → (b' = b ∧ r = setL l o vs) ∨ (b' ≠ b ∧ (AL.kill h.cs m.anc)[b']? = some r) := by
    intro b' r hr
    by_cases e : b = b'
    · subst e
      rw [List.getElem?_set_self (by rw [kill_length]; exact hbl)] at hr
      injection hr with hr
      exact .inl ⟨rfl, hr.symm⟩
    · rw [List.getElem?_set_ne e] at hr
      exact .inr ⟨fun e' => e e'.symm, hr⟩
  have hcellb : ∀ j, (w.setRow pl.c arr').cell? ⟨pl.c, j, none⟩ = arr'[j]? := fun j => cell_setRow_same w pl.c j arr arr' T (0, 0) harr
  have hcella : ∀ j, w.cell? ⟨pl.c, j, none⟩ = arr[j]? := fun j => cell_of_row w pl.c j arr T (0, 0) harr
  refine ⟨by simp [kill_length]; exact hrep.lb, by simp [kill_length]; exact hrep.lm, hrep.lp, ?_, by simp; exact hrep.base_le, ?_, ?_, hrep.kk, by simpa using hrep.inb, ?_, ?_, hrep.own2, hrep.ancno, ?_, ?_, hrep.mexcl, fun k o hk ho => by have h1 := hrep.oth k o hk ho; rw [setRow_other w pl.c k arr' (fun e => by rw [e, harr] at h1; cases h1; cases ho)]; exact h1⟩
  · exact hrep.below.trans ⟨rfl, rfl, rfl, by simp, fun k hk' => setRow_other w pl.c k arr' (by omega)⟩
  · intro b' r hr
    rcases old hr with ⟨rfl, rfl⟩ | ⟨_, hr⟩
    · exact setL_sc o (hrep.sc _ l hl) hsc
    · exact hk.sc b' r hr
  · intro b' pl' r hp' hr j v hv'
    rcases old hr with ⟨rfl, rfl⟩ | ⟨hne, hr⟩
    · rw [hp] at hp'; injection hp' with hp'; subst hp'
      rw [setL_get vs l o j hle] at hv'
      rw [hcellb, harr' (pl.o + j)]
      split at hv'
      · rename_i hc
        obtain ⟨c, e1, e2⟩ := hv.get hv'
        rw [if_pos (by omega), show pl.o + j - (pl.o + o) = j - o by omega]
        exact ⟨c, e1, e2⟩
      · rename_i hc
        rw [if_neg (by omega)]
        obtain ⟨c, e1, e2⟩ := hrep.cell _ pl l hp hl j v hv'
        rw [hcella] at e1
        exact ⟨c, e1, e2⟩
    · obtain ⟨c, e1, e2⟩ := hk.cell b' pl' r hp' hr j v hv'
      refine ⟨c, ?_, e2⟩
      by_cases ec : pl'.c = pl.c
      · obtain ⟨m', hm'⟩ := hrep.mt_of (hrep.b_lt hp')
        rcases hk.excl b b' pl pl' m m' l r hp hp' hm hm' hlk hr ho ec with e | e | ⟨e3, _, _⟩
        · exact absurd e hne
        · subst e; simp at hv'
        · have hlt := hrep.anclt b m hm b' e3
          have : r = [] := by
            have hr' := hr
            change (AL.kill h.cs m.anc)[b']? = some r at hr'
            rw [kill_get, if_pos ⟨e3, hlt⟩] at hr'
            injection hr' with hr'
            exact hr'.symm
          subst this; simp at hv'
      · rw [cell_setRow_other w pl.c arr' _ ec]; exact e1
  · intro b' pl' m' r hp' hm' hr ho'
    rcases old hr with ⟨rfl, rfl⟩ | ⟨hne, hr⟩
    · rw [hp] at hp'; injection hp' with hp'; subst hp'
      obtain ⟨h1, h2, a0, T0, h3, h4⟩ := hrep.own _ pl m' l hp hm' hl ho'
      rw [harr] at h3
      injection h3 with h3
      injection h3 with h3a h3b
      subst h3a
      exact ⟨h1, by rw [setL_length]; exact h2, arr', T, setRow_heap w pl.c arr arr' T (0, 0) harr, by omega⟩
    · obtain ⟨h1, h2, a0, T0, h3, h4⟩ := hk.own b' pl' m' r hp' hm' hr ho'
      refine ⟨h1, h2, a0, T0, ?_, h4⟩
      have ec : pl'.c ≠ pl.c := by
        intro ec
        exact hne (hrep.own2 b b' pl pl' m m' hp hp' hm hm' ho ho' ec)
      rw [setRow_other w pl.c pl'.c arr' ec]; exact h3
  · intro b1 b2 pl1 pl2 m1 m2 r1 r2 hp1 hp2 hm1 hm2 hr1 hr2 ho1 hc
    have conv : ∀ {b' : Nat} {r : List AV}, ((AL.kill h.cs m.anc).set b (setL l o vs))[b']? = some r → ∃ r', (AL.kill h.cs m.anc)[b']? = some r' ∧ r'.length = r.length := by
      intro b' r hr
      rcases old hr with ⟨rfl, rfl⟩ | ⟨_, hr⟩
      · exact ⟨l, hlk, by rw [setL_length]⟩
      · exact ⟨r, hr, rfl⟩
    obtain ⟨r1', e1, e2⟩ := conv hr1
    obtain ⟨r2', e3, e4⟩ := conv hr2
    rcases hk.excl b1 b2 pl1 pl2 m1 m2 r1' r2' hp1 hp2 hm1 hm2 e1 e3 ho1 hc with e | e | ⟨e5, e6, e7⟩
    · exact .inl e
    · exact .inr (.inl (List.eq_nil_of_length_eq_zero (by rw [← e4, e]; rfl)))
    · exact .inr (.inr ⟨e5, e6, by omega⟩)
  · intro b' m' hm' b2 hb2
    simp only [List.length_set, kill_length]
    exact hrep.anclt b' m' hm' b2 hb2
  · intro r c es hc hes
    obtain ⟨h1, en, cl, h2, h3⟩ := hrep.mcell r c es hc hes
    refine ⟨h1, en, cl, ?_, h3⟩
    have ec : c ≠ pl.c := fun e => by rw [e, harr] at h2; cases h2
    rw [setRow_other w pl.c c arr' ec]; exact h2

theorem get_set2 {α : Type} {l : List α} {i j : Nat} {x y : α} (h : (l.set i x)[j]? = some y) : (i = j ∧ y = x ∧ i < l.length) ∨ (i ≠ j ∧ l[j]? = some y) := by
  by_cases e : i = j
  · subst e
    by_cases hi : i < l.length
    · rw [List.getElem?_set_self hi] at h; injection h with h; exact .inl ⟨rfl, h.symm, hi⟩
    · rw [List.set_eq_of_length_le (by omega), List.getElem?_eq_none (by omega)] at h; cases h
  · rw [List.getElem?_set_ne e] at h; exact .inr ⟨e, h⟩

/-- What is appended in place. -/
theorem Rep.appendIn (hrep : Rep base w0 ι h w) {b off n : Nat} {m : Meta} {l vs : List AV} {cs : List Value} {pl : Place} (hp : ι.bl[b]? = some pl) (hm : h.mt[b]? = some m) (ho : m.own = true) (hl : h.cs[b]? = some l) (hend : off + n = l.length)
    (hv : VRels ι vs cs) (hsc : vs.all AV.sc = true) {arr : Array Value} {T : TypeId} (harr : w.heap[pl.c]? = some (.cells arr T (0, 0))) {arr' : Array Value} (hsz : arr'.size = arr.size) (hroom : pl.o + l.length + vs.length ≤ arr.size)
    (harr' : ∀ j : Nat, arr'[j]? = if pl.o + l.length ≤ j ∧ j < pl.o + l.length + cs.length then cs[j - (pl.o + l.length)]? else arr[j]?) :
    Rep base w0 (ι.add ⟨pl.c, pl.o + off, pl.n, m.k⟩) ⟨h.cs ++ [l.drop off ++ vs], h.mt.set b ⟨m.k, false, m.anc⟩ ++ [⟨m.k, true, b :: m.anc⟩], h.mp⟩ (w.setRow pl.c arr') := by
  have hu := hrep.unown hm
  obtain ⟨hbase, hfit, a0, T0, h3, h4⟩ := hrep.own b pl m l hp hm hl ho
  rw [harr] at h3; injection h3 with h3; injection h3 with h3a h3b; subst h3a
  have hvl := hv.length
  have hbl : b < h.cs.length := (List.getElem?_eq_some_iff.1 hl).1
  have hlb := hrep.lb
  have hlm := hrep.lm
  have hmono := Pl.le_add ι ⟨pl.c, pl.o + off, pl.n, m.k⟩
  have hcellb : ∀ j, (w.setRow pl.c arr').cell? ⟨pl.c, j, none⟩ = arr'[j]? := fun j => cell_setRow_same w pl.c j arr arr' T (0, 0) harr
  have hcella : ∀ j, w.cell? ⟨pl.c, j, none⟩ = arr[j]? := fun j => cell_of_row w pl.c j arr T (0, 0) harr
  have hdl : (l.drop off ++ vs).length = n + vs.length := by simp; omega
  have hum : (h.mt.set b ⟨m.k, false, m.anc⟩).length = h.cs.length := by simpa using hlm
  refine ⟨by simp [Pl.add, hlb], by simp [hlm], hrep.lp, ?_, by simp; exact hrep.base_le, ?_, ?_, ?_, ?_, ?_, ?_, ?_, ?_, ?_, ?_, hrep.mexcl, fun k o hk ho => by have h1 := hrep.oth k o hk ho; rw [setRow_other w pl.c k arr' (fun e => by rw [e, harr] at h1; cases h1; cases ho)]; exact h1⟩
  · exact hrep.below.trans ⟨rfl, rfl, rfl, by simp, fun k hk' => setRow_other w pl.c k arr' (by omega)⟩
  · intro b' r hr
    rcases get_app _ _ _ _ hr with ⟨_, e⟩ | ⟨_, rfl⟩
    · exact hrep.sc b' r e
    · have h1 := hrep.sc b l hl
      simp only [List.all_append, hsc, Bool.and_true]
      simp only [List.all_eq_true] at h1 ⊢
      exact fun x hx => h1 x (List.mem_of_mem_drop hx)
  · intro b' pl' r hp' hr j v hv'
    rcases get_app _ _ _ _ hp' with ⟨hb', ep⟩ | ⟨hb', rfl⟩
    · rcases get_app _ _ _ _ hr with ⟨_, er⟩ | ⟨hb2, rfl⟩
      · obtain ⟨c, e1, e2⟩ := hrep.cell b' pl' r ep er j v hv'
        have hj : j < r.length := (List.getElem?_eq_some_iff.1 hv').1
        refine ⟨c, ?_, e2.mono hmono⟩
        by_cases ec : pl'.c = pl.c
        · have hb : pl'.o + r.length ≤ pl.o + l.length := by
            obtain ⟨m', hm'⟩ := hrep.mt_of (hrep.b_lt ep)
            rcases hrep.excl b b' pl pl' m m' l r hp ep hm hm' hl er ho ec with e | e | ⟨_, _, e⟩
            · subst e
              rw [hp] at ep; injection ep with ep; subst ep
              rw [hl] at er; injection er with er; subst er
              exact Nat.le_refl _
            · subst e; simp at hj
            · exact e
          rw [ec] at e1 ⊢
          rw [hcella] at e1
          rw [hcellb, harr', if_neg (by omega)]
          exact e1
        · rw [cell_setRow_other w pl.c arr' _ ec]; exact e1
      · omega
    · rcases get_app _ _ _ _ hr with ⟨hb2, _⟩ | ⟨_, rfl⟩
      · omega
      · show ∃ cv, (w.setRow pl.c arr').cell? ⟨pl.c, pl.o + off + j, none⟩ = some cv ∧ _
        rw [hcellb, harr']
        by_cases hj : j < n
        · rw [List.getElem?_append_left (by simp; omega), List.getElem?_drop] at hv'
          obtain ⟨c, e1, e2⟩ := hrep.cell b pl l hp hl (off + j) v hv'
          rw [hcella, ← Nat.add_assoc] at e1
          exact ⟨c, by rw [if_neg (by omega)]; exact e1, e2.mono hmono⟩
        · rw [List.getElem?_append_right (by simp; omega)] at hv'
          obtain ⟨c, e1, e2⟩ := hv.get hv'
          have hjl := (List.getElem?_eq_some_iff.1 hv').1
          simp only [List.length_drop] at e1 hjl
          refine ⟨c, ?_, e2.mono hmono⟩
          rw [if_pos (by omega), show pl.o + off + j - (pl.o + l.length) = j - (l.length - off) by omega]
          exact e1
  · intro b' pl' m' hp' hm'
    rcases get_app _ _ _ _ hp' with ⟨hb', ep⟩ | ⟨hb', rfl⟩
    · rcases get_app _ _ _ _ hm' with ⟨_, em⟩ | ⟨hb2, rfl⟩
      · exact hu.kk b' pl' m' ep em
      · omega
    · rcases get_app _ _ _ _ hm' with ⟨hb2, _⟩ | ⟨_, rfl⟩
      · omega
      · rfl
  · intro b' pl' hp'
    rcases get_app _ _ _ _ hp' with ⟨_, ep⟩ | ⟨_, rfl⟩
    · have := hrep.inb b' pl' ep; simpa using this
    · have := hrep.inb b pl hp; simpa using this
  · intro b' pl' m' r hp' hm' hr ho'
    rcases get_app _ _ _ _ hp' with ⟨hb', ep⟩ | ⟨hb', rfl⟩
    · rcases get_app _ _ _ _ hm' with ⟨_, em⟩ | ⟨hb2, rfl⟩
      · rcases get_app _ _ _ _ hr with ⟨_, er⟩ | ⟨hb2, rfl⟩
        · obtain ⟨h1, h2, a1, T1, h5, h6⟩ := hu.own b' pl' m' r ep em er ho'
          refine ⟨h1, h2, a1, T1, ?_, h6⟩
          rcases get_set2 em with ⟨rfl, rfl, _⟩ | ⟨hne, em'⟩
          · cases ho'
          · rw [setRow_other w pl.c pl'.c arr' (fun ec => hne (hrep.own2 b b' pl pl' m m' hp ep hm em' ho ho' ec).symm)]
            exact h5
        · omega
      · omega
    · rcases get_app _ _ _ _ hr with ⟨hb2, _⟩ | ⟨_, rfl⟩
      · omega
      · rcases get_app _ _ _ _ hm' with ⟨hb2, _⟩ | ⟨_, rfl⟩
        · omega
        · exact ⟨hbase, by rw [hdl]; simp only; omega, arr', T, setRow_heap w pl.c arr arr' T (0, 0) harr, by rw [hsz]; exact h4⟩
  · intro b1 b2 pl1 pl2 m1 m2 r1 r2 hp1 hp2 hm1 hm2 hr1 hr2 ho1 hc
    rcases get_app _ _ _ _ hp1 with ⟨hb1, ep1⟩ | ⟨hb1, rfl⟩
    · rcases get_app _ _ _ _ hm1 with ⟨_, em1⟩ | ⟨hx, _⟩
      · rcases get_app _ _ _ _ hr1 with ⟨_, er1⟩ | ⟨hx, _⟩
        · rcases get_app _ _ _ _ hp2 with ⟨hb2, ep2⟩ | ⟨hb2, rfl⟩
          · rcases get_app _ _ _ _ hm2 with ⟨_, em2⟩ | ⟨hx, _⟩
            · rcases get_app _ _ _ _ hr2 with ⟨_, er2⟩ | ⟨hx, _⟩
              · exact hu.excl b1 b2 pl1 pl2 m1 m2 r1 r2 ep1 ep2 em1 em2 er1 er2 ho1 hc
              · omega
            · omega
          · exfalso
            rcases get_set2 em1 with ⟨rfl, rfl, _⟩ | ⟨hne, em'⟩
            · cases ho1
            · exact hne (hrep.own2 b b1 pl pl1 m m1 hp ep1 hm em' ho ho1 hc.symm).symm
        · omega
      · omega
    · rcases get_app _ _ _ _ hr1 with ⟨hx, _⟩ | ⟨_, rfl⟩
      · omega
      · rcases get_app _ _ _ _ hm1 with ⟨hx, _⟩ | ⟨_, rfl⟩
        · omega
        · rcases get_app _ _ _ _ hp2 with ⟨hb2, ep2⟩ | ⟨hb2, rfl⟩
          · rcases get_app _ _ _ _ hm2 with ⟨_, em2⟩ | ⟨hx, _⟩
            · rcases get_app _ _ _ _ hr2 with ⟨_, er2⟩ | ⟨hx, _⟩
              · rcases get_set2 em2 with ⟨rfl, rfl, _⟩ | ⟨hne, em'⟩
                · rw [hp] at ep2; injection ep2 with ep2; subst ep2
                  rw [hl] at er2; injection er2 with er2; subst er2
                  exact .inr (.inr ⟨by simp, rfl, by simp only; omega⟩)
                · rcases hrep.excl b b2 pl pl2 m m2 l r2 hp ep2 hm em' hl er2 ho hc with e | e | ⟨e1, e2, e3⟩
                  · exact absurd e.symm hne
                  · exact .inr (.inl e)
                  · exact .inr (.inr ⟨by simp [e1], e2, by simp only; omega⟩)
              · omega
            · omega
          · exact .inl (by omega)
  · intro b1 b2 pl1 pl2 m1 m2 hp1 hp2 hm1 hm2 ho1 ho2 hc
    rcases get_app _ _ _ _ hp1 with ⟨hb1, ep1⟩ | ⟨hb1, rfl⟩
    · rcases get_app _ _ _ _ hm1 with ⟨_, em1⟩ | ⟨hx, _⟩
      · rcases get_app _ _ _ _ hp2 with ⟨hb2, ep2⟩ | ⟨hb2, rfl⟩
        · rcases get_app _ _ _ _ hm2 with ⟨_, em2⟩ | ⟨hx, _⟩
          · exact hu.own2 b1 b2 pl1 pl2 m1 m2 ep1 ep2 em1 em2 ho1 ho2 hc
          · omega
        · exfalso
          rcases get_set2 em1 with ⟨rfl, rfl, _⟩ | ⟨hne, em'⟩
          · cases ho1
          · exact hne (hrep.own2 b b1 pl pl1 m m1 hp ep1 hm em' ho ho1 hc.symm).symm
      · omega
    · rcases get_app _ _ _ _ hp2 with ⟨hb2, ep2⟩ | ⟨hb2, rfl⟩
      · exfalso
        rcases get_app _ _ _ _ hm2 with ⟨_, em2⟩ | ⟨hx, _⟩
        · rcases get_set2 em2 with ⟨rfl, rfl, _⟩ | ⟨hne, em'⟩
          · cases ho2
          · exact hne (hrep.own2 b b2 pl pl2 m m2 hp ep2 hm em' ho ho2 hc).symm
        · omega
      · omega
  · intro b1 b2 m1 m2 hm1 hb2 hm2
    rcases get_app _ _ _ _ hm1 with ⟨hx, em1⟩ | ⟨hx, rfl⟩
    · rcases get_app _ _ _ _ hm2 with ⟨_, em2⟩ | ⟨hx2, rfl⟩
      · exact hu.ancno b1 b2 m1 m2 em1 hb2 em2
      · have := hu.anclt b1 m1 em1 b2 hb2
        simp only at this
        omega
    · rcases get_app _ _ _ _ hm2 with ⟨_, em2⟩ | ⟨hx2, rfl⟩
      · simp only [List.mem_cons] at hb2
        rcases get_set2 em2 with ⟨rfl, rfl, _⟩ | ⟨hne, em'⟩
        · rfl
        · rcases hb2 with rfl | hb2
          · exact absurd rfl hne
          · exact hrep.ancno b b2 m m2 hm hb2 em'
      · simp only [List.mem_cons] at hb2
        rcases hb2 with rfl | hb2
        · omega
        · have := hrep.anclt b m hm b2 hb2
          omega
  · intro b1 m1 hm1 b2 hb2
    rcases get_app _ _ _ _ hm1 with ⟨hx, em1⟩ | ⟨hx, rfl⟩
    · have := hu.anclt b1 m1 em1 b2 hb2
      simp only [List.length_append, List.length_cons, List.length_nil] at this ⊢
      omega
    · simp only [List.mem_cons] at hb2
      rcases hb2 with rfl | hb2
      · simp; omega
      · have := hrep.anclt b m hm b2 hb2
        simp; omega
  · intro r c es hc hes
    obtain ⟨h1, en, cl, h2, h3, h4⟩ := hrep.mcell r c es hc hes
    have ec : c ≠ pl.c := fun e => by rw [e, harr] at h2; cases h2
    exact ⟨h1, en, cl, by rw [setRow_other w pl.c c arr' ec]; exact h2, h3, fun j e e' he he' => ⟨(h4 j e e' he he').1.mono hmono, (h4 j e e' he he').2.mono hmono⟩⟩
end
end Go.AL
