/- The abstract logic, part 17: arguments of whatever shape, opened. -/
import Derived.Test.YtdcliofmdlhmaaaB7
import Derived.ChangeSlices
import Derived.ChangeArms
import Derived.ChangeSame
namespace Go.AL
open Go.RowKit Go.WideShapes Go.ChangeShapes

/-- An address somewhere among the cells of an argument: then there is memory. -/
theorem pos_of_cell {P : Program} {w : World} {r : Reach} {base : Nat} {u : TypeId} {a : Addr} {l c : Nat} (h : Cell.okWide P w r base u (.slice (some a) l c)) : 0 < w.heap.size := by
  have key : Cell.ok P w r base u (.slice (some a) l c) → 0 < w.heap.size := by
    intro h
    unfold Cell.ok at h
    split at h <;> simp_all [World.has]
    obtain ⟨_, _, _, _, row, cells, hs, _⟩ := h
    unfold World.shape? at hs
    split at hs
    · rename_i hb
      have := (Array.getElem?_eq_some_iff.1 hb).1; omega
    · cases hs
  unfold Cell.okWide at h
  split at h <;> first | (exact key h) | (exfalso; simp_all; done) | simp_all
theorem pos_of_ok {P : Program} {w : World} {r : Reach} {base : Nat} {t : TypeId} {v : Value} (h : Value.okWide P w r base t v) (hs : ∃ a l c, Value.slice (some a) l c ∈ v.cells.toList) : 0 < w.heap.size := by
  obtain ⟨a, l, c, hm⟩ := hs
  unfold Value.okWide at h
  have agg : (∃ cs, v = .agg cs ∧ cs.size = P.cellsOf t ∧ Row.okWide P w r base t cs) → 0 < w.heap.size := by
    rintro ⟨cs, rfl, _, ts, _, _, hc⟩
    obtain ⟨i, hi⟩ := List.mem_iff_getElem?.1 hm
    obtain ⟨u, _, hu⟩ := hc i _ (by simpa [Value.cells] using hi)
    exact pos_of_cell hu
  have one : Cell.okWide P w r base t v → 0 < w.heap.size := by
    intro h
    have hv : v = .slice (some a) l c ∨ ∃ cs, v = .agg cs := by
      cases v <;> simp [Value.cells] at hm <;> first | (exact .inr ⟨_, rfl⟩) | (obtain ⟨h1, h2, h3⟩ := hm; subst h1; subst h2; subst h3; exact .inl rfl) | skip
    rcases hv with rfl | ⟨cs, rfl⟩
    · exact pos_of_cell h
    · exfalso
      unfold Cell.okWide Cell.ok at h
      split at h <;> simp_all
  split at h
  · exact agg h
  · exact agg h
  · exact one h

section
variable {H : Type} {enc : TypeId × Value → H} {P : Program} {W : World}
/-- How what stands in cells is opened: its abstract cells, and what they tell. -/
structure Opn (enc : TypeId × Value → H) (P : Program) (W : World) (t : TypeId) (k : Nat) {α : Type} (rel : AH → List AV → α → Prop) : Prop where
  mono : ∀ {h h' : AH} {avs : List AV} {z : α}, h.le h' → rel h avs z → rel h' avs z
  op : ∀ (ι : Pl) (h : AH) (fuel : Nat) (cs : List Value) (x : DataW H × List MemPlace), RoRep W ι h → h.wf → ((∃ a l c, Value.slice (some a) l c ∈ cs) → 0 < W.heap.size) →
    DataW.trod enc P W 0 (fun _ => true) true fuel t cs = some x → ∃ (ι' : Pl) (h' : AH) (avs : List AV) (z : α), RoRep W ι' h' ∧ h'.wf ∧ ι.le ι' ∧ h.le h' ∧ VRels ι' avs cs ∧ avs.all AV.sc = true ∧ avs.length = k ∧ rel h' avs z
def relI (k : IntKind) (_ : AH) (avs : List AV) (z : Int) : Prop := avs = [.i k z] ∧ (Lit.int k z).wf = true
theorem opnI {t : TypeId} {k : IntKind} (ht : P.underlying t = some (.int k)) : Opn enc P W t 1 (relI k) where
  mono := fun _ h => h
  op := by
    intro ι h fuel cs x hR wf _ hd
    obtain ⟨m, rfl, _, hw⟩ := DataW.trod_int ht hd
    exact ⟨ι, h, [.i k m], m, hR, wf, .refl _, .refl _, .cons (.i _ _) .nil, rfl, rfl, rfl, hw⟩
def relS (_ : AH) (avs : List AV) (z : ByteArray) : Prop := avs = [.s z] ∧ z.size ≤ maxLen
theorem opnS {t : TypeId} (ht : P.underlying t = some .string) : Opn enc P W t 1 relS where
  mono := fun _ h => h
  op := by
    intro ι h fuel cs x hR wf _ hd
    cases fuel with
    | zero => simp [DataW.trod] at hd
    | succ n =>
      unfold DataW.trod at hd
      rw [ht] at hd
      split at hd <;> simp_all
      rename_i s
      exact ⟨ι, h, hR, wf, .refl _, .refl _, [.s s], .cons (.s _) .nil, by simp [AV.sc], rfl, s, rfl, hd.1⟩
def relB (_ : AH) (avs : List AV) (z : Bool) : Prop := avs = [.b z]
theorem opnB {t : TypeId} (ht : P.underlying t = some .bool) : Opn enc P W t 1 relB where
  mono := fun _ h => h
  op := by
    intro ι h fuel cs x hR wf _ hd
    cases fuel with
    | zero => simp [DataW.trod] at hd
    | succ n =>
      unfold DataW.trod at hd
      rw [ht] at hd
      split at hd
      all_goals first | (rename_i s e; exact ⟨ι, h, [.b s], s, hR, wf, .refl _, .refl _, .cons (.b _) .nil, rfl, rfl, rfl⟩) | (rename_i s e e'; exact ⟨ι, h, [.b s], s, hR, wf, .refl _, .refl _, .cons (.b _) .nil, rfl, rfl, rfl⟩) | (rename_i s; exact ⟨ι, h, [.b s], s, hR, wf, .refl _, .refl _, .cons (.b _) .nil, rfl, rfl, rfl⟩) | (simp_all; done)
/-- A slice: its rows, and what each tells. -/
structure relL {α : Type} (k : Nat) (E : AH → List AV → α → Prop) (h : AH) (avs : List AV) (l : List α) : Prop where
  ex : ∃ (v : AV) (rows : List (List AV)), avs = [v] ∧ RdG k id h v rows ∧ rows.length = l.length ∧ l.length ≤ maxLen ∧ ∀ (i : Nat) (r : List AV) (z : α), rows[i]? = some r → l[i]? = some z → r.length = k ∧ E h r z
theorem cells_lt {W : World} {a : Addr} {n : Nat} {cs : List Value} (h : W.cells? 0 a n = some cs) (hn : 0 < n) : 0 < W.heap.size ∧ cs.length = n ∧ ∀ j v, cs[j]? = some v → W.cell? (a.add j) = some v := by
  obtain ⟨_, h2, h3⟩ := World.cells?_some h
  have hl : cs.length = n := by first | exact h2 | exact h2.symm | omega
  refine ⟨?_, hl, fun j v hv => ?_⟩
  · have h0 := h3 0 (by omega)
    have : (cs[0]?) = some cs[0] := List.getElem?_eq_getElem (by omega)
    rw [this] at h0
    have := cell_lt h0
    omega
  · have hj := (List.getElem?_eq_some_iff.1 hv).1
    rw [h3 j (by omega), hv]
theorem opnRows {α : Type} {e : TypeId} {k : Nat} {E : AH → List AV → α → Prop} (O : Opn enc P W e k E) (hk : 0 < k) (hc : P.cellsOf e = k) (a : Addr) (n : Nat) (xs : List (DataW H × List MemPlace)) :
    ∀ (len : Nat), (∀ i, i < len → (W.cells? 0 (a.add (i * k)) k).bind (DataW.trod enc P W 0 (fun _ => true) true n e) = xs[i]?) → len ≤ xs.length → ∀ (ι : Pl) (h : AH), RoRep W ι h → h.wf →
      ∃ (ι' : Pl) (h' : AH) (rows : List (List AV)) (l : List α), RoRep W ι' h' ∧ h'.wf ∧ ι.le ι' ∧ h.le h' ∧ rows.length = len ∧ l.length = len ∧
        (∀ (i : Nat) (r : List AV) (z : α), rows[i]? = some r → l[i]? = some z → r.length = k ∧ r.all AV.sc = true ∧ E h' r z ∧ ∀ j v, r[j]? = some v → ∃ cv, W.cell? ((a.add (i * k)).add j) = some cv ∧ VRel ι' v cv) ∧ (0 < len → 0 < W.heap.size)
  | 0, _, _, ι, h, hR, wf => ⟨ι, h, [], [], hR, wf, .refl _, .refl _, rfl, rfl, by simp, by omega⟩
  | len + 1, hx, hle, ι, h, hR, wf => by
    obtain ⟨ι1, h1, rows, l, R1, wf1, li1, le1, e1, e2, e3, _⟩ := opnRows O hk hc a n xs len (fun i hi => hx i (by omega)) (by omega) ι h hR wf
    have h2 := hx len (by omega)
    rw [List.getElem?_eq_getElem (show len < xs.length by omega), Option.bind_eq_some_iff] at h2
    obtain ⟨cs, hcs, hd⟩ := h2
    obtain ⟨hp, hcl, hcell⟩ := cells_lt hcs hk
    obtain ⟨ι2, h2, avs, z, R2, wf2, li2, le2, hv, hsc, hal, hE⟩ := O.op ι1 h1 n cs _ R1 wf1 (fun _ => hp) hd
    refine ⟨ι2, h2, rows ++ [avs], l ++ [z], R2, wf2, li1.trans li2, le1.trans le2, by simp [e1], by simp [e2], ?_, fun _ => hp⟩
    intro i r z' hr hz
    rcases get_snoc hr with ⟨hi, hr1⟩ | ⟨e, hr1⟩
    · rw [List.getElem?_append_left (by omega)] at hz
      obtain ⟨q1, q2, q3, q4⟩ := e3 i r z' hr1 hz
      exact ⟨q1, q2, O.mono le2 q3, fun j v hj => by obtain ⟨cv, w1, w2⟩ := q4 j v hj; exact ⟨cv, w1, w2.mono li2⟩⟩
    · subst hr1
      rw [List.getElem?_append_right (by omega)] at hz
      rw [e, e1, e2, Nat.sub_self] at hz
      cases hz
      refine ⟨hal, hsc, hE, fun j v hj => ?_⟩
      obtain ⟨c, hc1, hc2⟩ := hv.get hj
      rw [e, e1]
      exact ⟨c, hcell j c hc1, hc2⟩
theorem opnL {α : Type} {t e : TypeId} {k : Nat} {E : AH → List AV → α → Prop} (O : Opn enc P W e k E) (ht : P.underlying t = some (.slice e)) (hk : 0 < k) (hc : P.cellsOf e = k) : Opn enc P W t 1 (relL k E) where
  mono := by
    rintro h h' avs l hle ⟨v, rows, h1, h2, h3, h4, h5⟩
    exact ⟨v, rows, h1, h2.le hle, h3, h4, fun i r z a b => ⟨(h5 i r z a b).1, O.mono hle (h5 i r z a b).2⟩⟩
  op := by
    intro ι h fuel cs x hR wf hpos hd
    rcases DataW.trod_slice ht hd with ⟨rfl, _⟩ | ⟨a, len, cap, elems, rest, n, _, rfl, _, _, hl, hm, hlen, hel, hsp', _⟩
    · exact ⟨ι, h, [.ns], [], hR, wf, .refl _, .refl _, .cons .ns .nil, rfl, rfl, .ns, [], rfl, .nil _ _ _, rfl, Nat.zero_le _, by simp⟩
    · rw [hc] at hel
      obtain ⟨ι1, h1, rows, l, R1, wf1, li1, le1, e1, e2, e3, hp⟩ := opnRows O hk hc a n elems len hel (by omega) ι h hR wf
      have hp0 : 0 < W.heap.size := hpos ⟨a, len, cap, by simp⟩
      have hflat : ∀ (rs : List (List AV)), (∀ r ∈ rs, r.length = k) → (rs.flatMap id).length = rs.length * k := by
        intro rs
        induction rs with
        | nil => intro _; simp
        | cons r rs ih => intro hr; rw [List.flatMap_cons, List.length_append, ih fun q hq => hr q (by simp [hq]), id, hr r (by simp), List.length_cons, Nat.succ_mul]; omega
      have hrk : ∀ r ∈ rows, r.length = k := by
        intro r hr
        obtain ⟨i, hi⟩ := List.mem_iff_getElem?.1 hr
        have hil := (List.getElem?_eq_some_iff.1 hi).1
        exact (e3 i r l[i] hi (List.getElem?_eq_getElem (by omega))).1
      have hfl := hflat rows hrk
      by_cases hc0 : cap = 0
      · have hl0 : len = 0 := by omega
        subst hl0
        have hr0 : rows = [] := List.eq_nil_of_length_eq_zero e1
        have hz0 : l = [] := List.eq_nil_of_length_eq_zero e2
        subst hr0; subst hz0
        have hadd := R1.add ⟨0, 0, 0, k⟩ [] rfl (by intro j v hv; simp at hv) hp0
        refine ⟨_, _, [.sl h1.cs.length 0 0 false], [], hadd, AH.ro_wf wf1 _ _, li1.trans (ι1.le_add _), le1.trans (h1.le_ro _ _), .cons ?_ .nil, rfl, rfl, ⟨_, [], rfl, ⟨rfl, .inr ⟨_, 0, false, rfl, ?_, ?_⟩⟩, rfl, Nat.zero_le _, by simp⟩⟩
        · refine .sl _ 0 _ false ⟨0, 0, 0, k⟩ _ cap ?_ hl (by simp) (.inl hc0)
          rw [← R1.rep.lb]; simp [Pl.add]
        · simp [AH.row, ro_cs]
        · rw [ro_mt wf1]; rfl
      · obtain ⟨b, off, sp⟩ := a
        by_cases hl0 : len = 0
        · subst hl0
          have hr0 : rows = [] := List.eq_nil_of_length_eq_zero e1
          have hz0 : l = [] := List.eq_nil_of_length_eq_zero e2
          subst hr0; subst hz0
          obtain ⟨hrl, hre⟩ := hsp' rfl
          have h2 := hre 0 (by omega)
          rw [hc, List.getElem?_eq_getElem (show 0 < rest.length by omega), Option.bind_eq_some_iff] at h2
          obtain ⟨cs', hcs', _⟩ := h2
          obtain ⟨_, hcl', hcell'⟩ := cells_lt hcs' hk
          have hcv := hcell' 0 cs'[0] (List.getElem?_eq_getElem (by omega))
          have hsp : sp = none := by simpa [Addr.add] using World.cell?_spot hcv
          subst hsp
          have hblk : b < W.heap.size := by have := cell_lt hcv; rwa [add_none, add_none] at this
          have hadd := R1.add ⟨b, off, off + cap * k, k⟩ [] rfl (by intro j v hv; simp at hv) hblk
          refine ⟨_, _, [.sl h1.cs.length 0 0 false], [], hadd, AH.ro_wf wf1 _ _, li1.trans (ι1.le_add _), le1.trans (h1.le_ro _ _), .cons ?_ .nil, rfl, rfl, ⟨_, [], rfl, ⟨rfl, .inr ⟨_, 0, false, rfl, ?_, ?_⟩⟩, rfl, Nat.zero_le _, by simp⟩⟩
          · refine .sl _ 0 _ false ⟨b, off, off + cap * k, k⟩ _ cap ?_ hl (by simp) (.inr ⟨rfl, by simp⟩)
            rw [← R1.rep.lb]; simp [Pl.add]
          · simp [AH.row, ro_cs]
          · rw [ro_mt wf1]; rfl
        · have hrow0 : ∃ r z, rows[0]? = some r ∧ l[0]? = some z := ⟨rows[0], l[0], List.getElem?_eq_getElem (by omega), List.getElem?_eq_getElem (by omega)⟩
          obtain ⟨r0, z0, hr0, hz0⟩ := hrow0
          obtain ⟨q1, q2, q3, q4⟩ := e3 0 r0 z0 hr0 hz0
          obtain ⟨cv, hcv, _⟩ := q4 0 r0[0] (List.getElem?_eq_getElem (by omega))
          have hsp : sp = none := by simpa [Addr.add] using World.cell?_spot hcv
          subst hsp
          have hblk : b < W.heap.size := by have := cell_lt hcv; rwa [add_none, add_none] at this
          have hget : ∀ (rs : List (List AV)) (j : Nat) (v : AV), (∀ r ∈ rs, r.length = k) → (rs.flatMap id)[j]? = some v → ∃ r, rs[j / k]? = some r ∧ r[j % k]? = some v := by
            intro rs
            induction rs with
            | nil => intro j v _ hj; simp at hj
            | cons r rs ih =>
              intro j v hr hj
              rw [List.flatMap_cons, id] at hj
              have hrl := hr r (by simp)
              by_cases hjk : j < k
              · rw [List.getElem?_append_left (by omega)] at hj
                rw [Nat.div_eq_of_lt hjk, Nat.mod_eq_of_lt hjk]
                exact ⟨r, rfl, hj⟩
              · rw [List.getElem?_append_right (by omega), hrl] at hj
                obtain ⟨r', g1, g2⟩ := ih (j - k) v (fun q hq => hr q (by simp [hq])) hj
                have e : j / k = (j - k) / k + 1 := by rw [Nat.div_eq_sub_div hk (by omega)]
                have e' : j % k = (j - k) % k := by rw [Nat.mod_eq_sub_mod (by omega)]
                rw [e, e']
                exact ⟨r', by simpa using g1, g2⟩
          have hadd := R1.add ⟨b, off, off + cap * k, k⟩ (rows.flatMap id) (by
            simp only [List.all_eq_true, List.mem_flatMap]
            rintro v ⟨r, hr, hv⟩
            obtain ⟨i, hi⟩ := List.mem_iff_getElem?.1 hr
            have hil := (List.getElem?_eq_some_iff.1 hi).1
            have := (e3 i r l[i] hi (List.getElem?_eq_getElem (by omega))).2.1
            exact List.all_eq_true.1 this v hv) (by
            intro j v hv
            obtain ⟨r, g1, g2⟩ := hget rows j v hrk hv
            have hil := (List.getElem?_eq_some_iff.1 g1).1
            obtain ⟨_, _, _, q⟩ := e3 (j / k) r l[j / k] g1 (List.getElem?_eq_getElem (by omega))
            obtain ⟨cv, w1, w2⟩ := q _ v g2
            refine ⟨cv, ?_, w2⟩
            rw [add_none, add_none] at w1
            rw [← w1]
            congr 2
            have := Nat.div_add_mod' j k
            show off + j = off + j / k * k + j % k
            omega) hblk
          refine ⟨_, _, [.sl h1.cs.length 0 len false], l, hadd, AH.ro_wf wf1 _ _, li1.trans (ι1.le_add _), le1.trans (h1.le_ro _ _), .cons ?_ .nil, rfl, rfl, ⟨_, rows, rfl, ⟨by simp [lenA, e1], .inr ⟨_, 0, false, by rw [e1], ?_, ?_⟩⟩, by omega, by omega, ?_⟩⟩
          · refine .sl _ 0 _ false ⟨b, off, off + cap * k, k⟩ _ cap ?_ hl (by simp) (.inr ⟨rfl, by simp⟩)
            rw [← R1.rep.lb]; simp [Pl.add]
          · simp only [AH.row, ro_cs, Option.bind_some]
            rw [if_pos (by rw [hfl]; omega), List.drop_zero, List.take_of_length_le (by rw [hfl]; omega)]
          · rw [ro_mt wf1]; rfl
          · intro i r z hr hz
            obtain ⟨g1, _, g3, _⟩ := e3 i r z hr hz
            exact ⟨g1, O.mono (h1.le_ro _ _) g3⟩
/-! ### Structs -/
/-- The fields of a struct from an offset on. -/
structure OpnFs (enc : TypeId × Value → H) (P : Program) (W : World) (off : Nat) (fs : List Field) (k : Nat) {α : Type} (rel : AH → List AV → α → Prop) : Prop where
  mono : ∀ {h h' : AH} {avs : List AV} {z : α}, h.le h' → rel h avs z → rel h' avs z
  op : ∀ (ι : Pl) (h : AH) (n : Nat) (cs : List Value) (ys : List (DataW H × List MemPlace)), RoRep W ι h → h.wf → ((∃ a l c, Value.slice (some a) l c ∈ cs) → 0 < W.heap.size) → cs.length = off + k → ys.length = fs.length →
    (∀ (i : Nat) (f : Field), fs[i]? = some f → DataW.trod enc P W 0 (fun _ => true) true n f.type ((cs.drop f.offset).take (P.cellsOf f.type)) = ys[i]?) →
    ∃ (ι' : Pl) (h' : AH) (avs : List AV) (z : α), RoRep W ι' h' ∧ h'.wf ∧ ι.le ι' ∧ h.le h' ∧ VRels ι' avs (cs.drop off) ∧ avs.all AV.sc = true ∧ avs.length = k ∧ rel h' avs z
theorem opnF0 (off : Nat) : OpnFs enc P W off [] 0 (fun _ (avs : List AV) (_ : Unit) => avs = []) where
  mono := fun _ h => h
  op := by
    intro ι h n cs ys hR wf _ hl _ _
    exact ⟨ι, h, [], (), hR, wf, .refl _, .refl _, by rw [List.drop_eq_nil_of_le (by omega)]; exact .nil, rfl, rfl, rfl⟩
theorem opnFc {α β : Type} {off k kR : Nat} {f : Field} {fs : List Field} {E : AH → List AV → α → Prop} {R : AH → List AV → β → Prop} (O : Opn enc P W f.type k E) (hc : P.cellsOf f.type = k) (ho : f.offset = off) (F : OpnFs enc P W (off + k) fs kR R) :
    OpnFs enc P W off (f :: fs) (k + kR) (fun h avs (z : α × β) => ∃ a b, avs = a ++ b ∧ E h a z.1 ∧ R h b z.2) where
  mono := by
    rintro h h' avs z hle ⟨a, b, rfl, h1, h2⟩
    exact ⟨a, b, rfl, O.mono hle h1, F.mono hle h2⟩
  op := by
    intro ι h n cs ys hR wf hpos hl hyl hf
    have h0 := hf 0 f rfl
    cases ys with
    | nil => simp at hyl
    | cons y ys =>
      rw [hc, ho] at h0
      have sub : ∀ v, v ∈ (cs.drop off).take k → v ∈ cs := fun v hv => List.mem_of_mem_drop (List.mem_of_mem_take hv)
      obtain ⟨ι1, h1, a, z, R1, wf1, li1, le1, v1, s1, l1, e1⟩ := O.op ι h n _ _ hR wf (fun ⟨q, l, c, hm⟩ => hpos ⟨q, l, c, sub _ hm⟩) h0
      obtain ⟨ι2, h2, b, zs, R2, wf2, li2, le2, v2, s2, l2, e2⟩ := F.op ι1 h1 n cs ys R1 wf1 hpos (by omega) (by simpa using hyl) (fun i g hg => hf (i + 1) g (by simpa using hg))
      refine ⟨ι2, h2, a ++ b, (z, zs), R2, wf2, li1.trans li2, le1.trans le2, ?_, by rw [List.all_append, s1, s2]; rfl, by simp [l1, l2], ⟨a, b, rfl, O.mono le2 e1, e2⟩⟩
      have := (v1.mono li2).append v2
      rw [← List.drop_drop, List.take_append_drop] at this
      exact this
theorem opnT {α : Type} {t : TypeId} {k : Nat} {fs : Array Field} {R : AH → List AV → α → Prop} (ht : P.underlying t = some (.struct fs)) (hc : P.cellsOf t = k) (F : OpnFs enc P W 0 fs.toList k R) : Opn enc P W t k R where
  mono := F.mono
  op := by
    intro ι h fuel cs x hR wf hpos hd
    obtain ⟨xs, n, _, _, hl, hxl, hf⟩ := DataW.trod_struct ht hd
    have := F.op ι h n cs xs hR wf hpos (by omega) (by simpa using hxl) (fun i f hi => hf i f (by simpa using hi))
    simpa using this
/-- An argument. -/
theorem Opn.arg {α : Type} {t : TypeId} {k : Nat} {R : AH → List AV → α → Prop} (O : Opn enc P W t k R) {ι : Pl} {h : AH} {v : Value} {d : DataW H} {p : List MemPlace} (H0 : RoRep W ι h) (wf : h.wf) {r : Reach} {base : Nat} (hok : Value.okWide P W r base t v)
    (hd : DataW.Trod enc P W 0 (fun _ => true) true t v d p) :
    ∃ (ι' : Pl) (h' : AH) (avs : List AV) (z : α), RoRep W ι' h' ∧ h'.wf ∧ ι.le ι' ∧ h.le h' ∧ VRels ι' avs v.cells.toList ∧ avs.all AV.sc = true ∧ avs.length = k ∧ R h' avs z := by
  obtain ⟨fuel, hf⟩ := hd
  exact O.op ι h fuel _ _ H0 wf (pos_of_ok hok) hf
/-- Of one cell; of a struct. -/
theorem VRels.arg1 {ι : Pl} {v : AV} {c : Value} (H : VRels ι [v] c.cells.toList) (hc : c.cells = #[c]) : VRel ι v c := by
  rw [hc] at H
  cases H with | cons h _ => exact h
theorem VRels.argT {ι : Pl} {avs : List AV} {cs : Array Value} (H : VRels ι avs (Value.agg cs).cells.toList) (hs : avs.all AV.sc = true) : VRel ι (.agg avs) (.agg cs) := .agg avs cs hs H
/-- Rows of one cell each. -/
theorem relL_enc {α : Type} {k : Nat} {E : AH → List AV → α → Prop} {en : α → List AV} {h : AH} {avs : List AV} {l : List α} (H : relL k E h avs l) (hE : ∀ r z, E h r z → r = en z) : ∃ v, avs = [v] ∧ RdG k en h v l ∧ l.length ≤ maxLen := by
  obtain ⟨v, rows, h1, h2, h3, h4, h5⟩ := H
  refine ⟨v, h1, ?_, h4⟩
  have e : rows = l.map en := by
    apply List.ext_getElem?
    intro i
    by_cases hi : i < rows.length
    · have hl : i < l.length := by omega
      rw [List.getElem?_map, List.getElem?_eq_getElem hi, List.getElem?_eq_getElem hl]
      exact congrArg some (hE _ _ (h5 i _ _ (List.getElem?_eq_getElem hi) (List.getElem?_eq_getElem hl)).2)
    · rw [List.getElem?_eq_none (by omega), List.getElem?_eq_none (by simp; omega)]
  subst e
  have hf : (l.map en).flatMap id = l.flatMap en := by rw [List.flatMap_map]; rfl
  refine ⟨by rw [h2.len]; simp, h2.rd.imp id ?_⟩
  rintro ⟨b, o, c, g1, g2, g3⟩
  refine ⟨b, o, c, by rw [g1]; simp, ?_, g3⟩
  rw [← hf]
  simpa using g2
theorem relL.all {α : Type} {k : Nat} {E : AH → List AV → α → Prop} {p : α → Prop} {h : AH} {avs : List AV} {l : List α} (H : relL k E h avs l) (hE : ∀ r z, E h r z → p z) : ∀ z ∈ l, p z := by
  obtain ⟨v, rows, h1, h2, h3, h4, h5⟩ := H
  intro z hz
  obtain ⟨i, hi⟩ := List.mem_iff_getElem?.1 hz
  have hl := (List.getElem?_eq_some_iff.1 hi).1
  exact hE _ _ (h5 i rows[i] z (List.getElem?_eq_getElem (by omega)) hi).2
theorem relL.ints {h : AH} {avs : List AV} {l : List Int} (H : relL 1 (relI .i64) h avs l) : ∃ v, avs = [v] ∧ Rd h v l ∧ l.length ≤ maxLen ∧ ∀ n ∈ l, (Lit.int .i64 n).wf = true := by
  obtain ⟨v, h1, h2, h3⟩ := relL_enc (en := enI) H fun r z hz => hz.1
  exact ⟨v, h1, h2, h3, H.all fun r z hz => hz.2⟩
theorem relL.bytes {h : AH} {avs : List AV} {l : List Int} (H : relL 1 (relI .u8) h avs l) : ∃ v, avs = [v] ∧ RdG 1 (fun n => [.i .u8 n]) h v l ∧ l.length ≤ maxLen ∧ ∀ n ∈ l, (Lit.int .u8 n).wf = true := by
  obtain ⟨v, h1, h2, h3⟩ := relL_enc (en := fun n => [.i .u8 n]) H fun r z hz => hz.1
  exact ⟨v, h1, h2, h3, H.all fun r z hz => hz.2⟩
theorem relL.strs {h : AH} {avs : List AV} {l : List ByteArray} (H : relL 1 relS h avs l) : ∃ v, avs = [v] ∧ RdG 1 (fun n => [.s n]) h v l ∧ l.length ≤ maxLen ∧ ∀ n ∈ l, n.size ≤ maxLen := by
  obtain ⟨v, h1, h2, h3⟩ := relL_enc (en := fun n => [.s n]) H fun r z hz => hz.1
  exact ⟨v, h1, h2, h3, H.all fun r z hz => hz.2⟩
theorem relL.rows {h : AH} {avs : List AV} {l : List (List Int)} (H : relL 1 (relL 1 (relI .i64)) h avs l) : ∃ v vs, avs = [v] ∧ RdSS h v l vs ∧ l.length ≤ maxLen ∧ ∀ r ∈ l, r.length ≤ maxLen ∧ ∀ n ∈ r, (Lit.int .i64 n).wf = true := by
  have hall := H.all (p := fun r : List Int => r.length ≤ maxLen ∧ ∀ n ∈ r, (Lit.int .i64 n).wf = true) fun r z hz => by obtain ⟨v, _, _, g1, g2⟩ := hz.ints; exact ⟨g1, g2⟩
  obtain ⟨v, rows, h1, h2, h3, h4, h5⟩ := H
  have hex : ∀ i, i < rows.length → ∃ u, rows[i]? = some [u] := fun i hi => by
    obtain ⟨_, g⟩ := h5 i _ _ (List.getElem?_eq_getElem hi) (List.getElem?_eq_getElem (show i < l.length by omega))
    obtain ⟨u, e, _⟩ := g.ints
    exact ⟨u, by rw [List.getElem?_eq_getElem hi, e]⟩
  have e : rows = (rows.map (·.headD .ns)).map enV := by
    apply List.ext_getElem?
    intro i
    by_cases hi : i < rows.length
    · obtain ⟨u, hu⟩ := hex i hi
      simp [hu, enV]
    · rw [List.getElem?_eq_none (by omega), List.getElem?_eq_none (by simp; omega)]
  refine ⟨v, rows.map (·.headD .ns), h1, ⟨?_, by simp [h3], ?_⟩, h4, hall⟩
  · have hf : rows.flatMap id = (rows.map (·.headD .ns)).flatMap enV := by
      conv => lhs; rw [e]
      rw [List.flatMap_map]; rfl
    refine ⟨by rw [h2.len]; simp, h2.rd.imp id ?_⟩
    rintro ⟨b, o, c, g1, g2, g3⟩
    refine ⟨b, o, c, by rw [g1]; simp, ?_, g3⟩
    rw [← hf]
    simpa using g2
  · intro i u q hu hq
    rw [List.getElem?_map] at hu
    cases hr : rows[i]? with
    | none => rw [hr] at hu; simp at hu
    | some r =>
      rw [hr] at hu
      simp at hu
      obtain ⟨_, g⟩ := h5 i r q hr hq
      obtain ⟨w, rfl, g2, _⟩ := g.ints
      simp at hu
      rw [← hu]
      exact g2
end
end Go.AL
