/- The abstract logic, part 6: how memory that is made or written is told. -/
import Derived.Test.YtdcliofmdlhmaaaA5
namespace Go.AL
open Go.RowKit

theorem get_app {α : Type} (l : List α) (x : α) (i : Nat) (y : α) (h : (l ++ [x])[i]? = some y) : (i < l.length ∧ l[i]? = some y) ∨ (i = l.length ∧ y = x) := by
  by_cases e : i < l.length
  · rw [List.getElem?_append_left e] at h; exact .inl ⟨e, h⟩
  · rw [List.getElem?_append_right (by omega)] at h
    by_cases e2 : i - l.length = 0
    · rw [e2] at h; simp at h; exact .inr ⟨by omega, h.symm⟩
    · rw [List.getElem?_eq_none (by simp; omega)] at h; cases h
theorem get_new {α : Type} (l : List α) (x : α) : (l ++ [x])[l.length]? = some x := by simp

section
variable {base : Nat} {w0 : World} {ι : Pl} {h : AH} {w : World}

theorem Rep.c_lt (hrep : Rep base w0 ι h w) {b : Nat} {pl : Place} (hp : ι.bl[b]? = some pl) : pl.c < w.heap.size := hrep.inb b pl hp
theorem Rep.b_lt (hrep : Rep base w0 ι h w) {b : Nat} {pl : Place} (hp : ι.bl[b]? = some pl) : b < h.cs.length := by
  have := (List.getElem?_eq_some_iff.1 hp).1; rw [hrep.lb] at this; exact this
theorem Rep.pl_of (hrep : Rep base w0 ι h w) {b : Nat} (hb : b < h.cs.length) : ∃ pl, ι.bl[b]? = some pl := ⟨_, List.getElem?_eq_getElem (by rw [hrep.lb]; exact hb)⟩
theorem Rep.mt_of (hrep : Rep base w0 ι h w) {b : Nat} (hb : b < h.cs.length) : ∃ m, h.mt[b]? = some m := ⟨_, List.getElem?_eq_getElem (by rw [hrep.lm]; exact hb)⟩
theorem cs_of {b : Nat} (hb : b < h.cs.length) : ∃ l, h.cs[b]? = some l := ⟨_, List.getElem?_eq_getElem hb⟩

theorem Rep.drew (hrep : Rep base w0 ι h w) : Rep base w0 ι h w.drew :=
  ⟨hrep.lb, hrep.lm, hrep.lp, hrep.below.drew, hrep.base_le, hrep.sc, hrep.cell, hrep.kk, hrep.inb, hrep.own, hrep.excl, hrep.own2, hrep.ancno, hrep.anclt, hrep.mcell, hrep.mexcl, hrep.oth⟩

/-- A new block, perhaps with spare cells behind its own. -/
theorem Rep.alloc (hrep : Rep base w0 ι h w) (k : Nat) (l : List AV) (anc : List Nat) (arr : Array Value) (T : TypeId) (hl : VRels ι l (arr.toList.take l.length)) (hle : l.length ≤ arr.size) (hsc : l.all AV.sc = true)
    (hanc : ∀ b ∈ anc, ∀ m, h.mt[b]? = some m → m.own = false) (hal : ∀ b ∈ anc, b < h.cs.length) :
    Rep base w0 (ι.add ⟨w.heap.size, 0, arr.size, k⟩) ⟨h.cs ++ [l], h.mt ++ [⟨k, true, anc⟩], h.mp⟩ (w.alloc (.cells arr T)) := by
  have hlb := hrep.lb
  have hlm := hrep.lm
  have hcell : ∀ (x : Addr), x.block < w.heap.size → (w.alloc (.cells arr T)).cell? x = w.cell? x := fun x hx => World.cell?_alloc_lt w _ x hx
  have hmono := Pl.le_add ι ⟨w.heap.size, 0, arr.size, k⟩
  refine ⟨by simp [Pl.add, hlb], by simp [hlm], hrep.lp, hrep.below.alloc hrep.base_le _, by simp; have := hrep.base_le; omega, ?_, ?_, ?_, ?_, ?_, ?_, ?_, ?_, ?_, ?_, hrep.mexcl, fun k o hk ho => by rw [heap_alloc_old w _ _ (Array.getElem?_eq_some_iff.1 (hrep.oth k o hk ho)).1]; exact hrep.oth k o hk ho⟩
  · intro b r hr
    rcases get_app _ _ _ _ hr with ⟨_, e⟩ | ⟨_, rfl⟩
    · exact hrep.sc b r e
    · exact hsc
  · intro b pl r hp hr j v hv
    rcases get_app _ _ _ _ hp with ⟨hb, ep⟩ | ⟨hb, rfl⟩
    · rcases get_app _ _ _ _ hr with ⟨_, er⟩ | ⟨hb', rfl⟩
      · obtain ⟨cv, e1, e2⟩ := hrep.cell b pl r ep er j v hv
        exact ⟨cv, by rw [hcell _ (by exact hrep.inb b pl ep)]; exact e1, e2.mono hmono⟩
      · omega
    · rcases get_app _ _ _ _ hr with ⟨hb', er⟩ | ⟨hb', rfl⟩
      · omega
      · obtain ⟨c, hc, hv'⟩ := hl.get hv
        have hj : j < r.length := (List.getElem?_eq_some_iff.1 hv).1
        refine ⟨c, ?_, hv'.mono hmono⟩
        rw [List.getElem?_take_of_lt hj] at hc
        show (w.alloc (.cells arr T)).cell? ⟨w.heap.size, 0 + j, none⟩ = some c
        rw [World.cell?_alloc_new]
        simpa using hc
  · intro b pl m hp hm
    rcases get_app _ _ _ _ hp with ⟨hb, ep⟩ | ⟨hb, rfl⟩
    · rcases get_app _ _ _ _ hm with ⟨_, em⟩ | ⟨hb', rfl⟩
      · exact hrep.kk b pl m ep em
      · omega
    · rcases get_app _ _ _ _ hm with ⟨hb', _⟩ | ⟨_, rfl⟩
      · omega
      · rfl
  · intro b pl hp
    rcases get_app _ _ _ _ hp with ⟨_, ep⟩ | ⟨_, rfl⟩
    · have := hrep.inb b pl ep; simp; omega
    · simp
  · intro b pl m r hp hm hr ho
    rcases get_app _ _ _ _ hp with ⟨hb, ep⟩ | ⟨hb, rfl⟩
    · rcases get_app _ _ _ _ hm with ⟨_, em⟩ | ⟨hb', rfl⟩
      · rcases get_app _ _ _ _ hr with ⟨_, er⟩ | ⟨hb', rfl⟩
        · obtain ⟨h1, h3, a', T', h4, h5⟩ := hrep.own b pl m r ep em er ho
          exact ⟨h1, h3, a', T', by rw [heap_alloc_old w _ _ (hrep.inb b pl ep)]; exact h4, h5⟩
        · omega
      · omega
    · rcases get_app _ _ _ _ hr with ⟨hb', _⟩ | ⟨_, rfl⟩
      · omega
      · exact ⟨hrep.base_le, by simpa using hle, arr, T, heap_alloc_new w _, rfl⟩
  · intro b b' pl pl' m m' r r' hp hp' hm hm' hr hr' ho hc
    rcases get_app _ _ _ _ hp with ⟨hb, ep⟩ | ⟨hb, rfl⟩
    · rcases get_app _ _ _ _ hp' with ⟨hb', ep'⟩ | ⟨hb', rfl⟩
      · rcases get_app _ _ _ _ hm with ⟨_, em⟩ | ⟨_, _⟩
        · rcases get_app _ _ _ _ hm' with ⟨_, em'⟩ | ⟨_, _⟩
          · rcases get_app _ _ _ _ hr with ⟨_, er⟩ | ⟨_, _⟩
            · rcases get_app _ _ _ _ hr' with ⟨_, er'⟩ | ⟨_, _⟩
              · exact hrep.excl b b' pl pl' m m' r r' ep ep' em em' er er' ho hc
              · omega
            · omega
          · omega
        · omega
      · have := hrep.inb b pl ep
        simp only at hc
        omega
    · rcases get_app _ _ _ _ hp' with ⟨hb', ep'⟩ | ⟨hb', rfl⟩
      · have := hrep.inb b' pl' ep'
        simp only at hc
        omega
      · exact .inl (by omega)
  · intro b b' pl pl' m m' hp hp' hm hm' ho ho' hc
    rcases get_app _ _ _ _ hp with ⟨hb, ep⟩ | ⟨hb, rfl⟩
    · rcases get_app _ _ _ _ hp' with ⟨hb', ep'⟩ | ⟨hb', rfl⟩
      · rcases get_app _ _ _ _ hm with ⟨_, em⟩ | ⟨_, _⟩
        · rcases get_app _ _ _ _ hm' with ⟨_, em'⟩ | ⟨_, _⟩
          · exact hrep.own2 b b' pl pl' m m' ep ep' em em' ho ho' hc
          · omega
        · omega
      · have := hrep.inb b pl ep
        simp only at hc
        omega
    · rcases get_app _ _ _ _ hp' with ⟨hb', ep'⟩ | ⟨hb', rfl⟩
      · have := hrep.inb b' pl' ep'
        simp only at hc
        omega
      · omega
  · intro b b' m m' hm hb' hm'
    rcases get_app _ _ _ _ hm with ⟨hb, em⟩ | ⟨hb, rfl⟩
    · rcases get_app _ _ _ _ hm' with ⟨_, em'⟩ | ⟨hl', rfl⟩
      · exact hrep.ancno b b' m m' em hb' em'
      · have := hrep.anclt b m em b' hb'
        omega
    · rcases get_app _ _ _ _ hm' with ⟨_, em'⟩ | ⟨hl', rfl⟩
      · exact hanc b' hb' m' em'
      · have := hal b' hb'; omega
  · intro b m hm b' hb'
    rcases get_app _ _ _ _ hm with ⟨hb, em⟩ | ⟨hb, rfl⟩
    · have := hrep.anclt b m em b' hb'
      simp; omega
    · have := hal b' hb'
      simp; omega
  · intro r c es hc hes
    obtain ⟨h1, en, cl, h2, h3, h4⟩ := hrep.mcell r c es hc hes
    refine ⟨h1, en, cl, ?_, h3, fun j e e' he he' => ⟨(h4 j e e' he he').1.mono hmono, (h4 j e e' he he').2.mono hmono⟩⟩
    rw [heap_alloc_old w _ _ (by exact (Array.getElem?_eq_some_iff.1 h2).1)]
    exact h2
end
end Go.AL
