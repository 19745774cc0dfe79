/- The abstract logic, part 13: slices that are written in place; slices that the call was handed. -/
import Derived.Test.YtdcliofmdlhmaaaB3
namespace Go.AL
open Go.RowKit

/-- A block of the run's own that nobody else shares. -/
structure Mut {α : Type} (h0 : AH) (k : Nat) (enc : α → List AV) (h : AH) (b : Nat) (l : List α) : Prop where
  wf0 : h0.wf
  le : h0.le h
  wf : h.wf
  lt : h0.cs.length ≤ b
  mt : h.mt[b]? = some ⟨k, true, []⟩
  cs : h.cs[b]? = some (l.flatMap enc)
section
variable {α : Type} {h0 h h' : AH} {k b n : Nat} {enc : α → List AV} {l : List α}
theorem Mut.fresh (wf0 : h0.wf) (le : h0.le h) (wf : h.wf) {row : List AV} (l : List α) (hrow : row = l.flatMap enc) : Mut h0 k enc (h.new k row) h.cs.length l := by
  subst hrow
  exact ⟨wf0, le.new _ _, wf.new _ _, le_len le, new_mt wf _ _, new_cs _ _ _⟩
theorem Mut.rd (H : Mut h0 k enc h b l) (hke : ∀ x, (enc x).length = k) (c : Bool) (hn : n = l.length) : RdG k enc h (.sl b 0 n c) l := by
  subst hn
  refine ⟨rfl, .inr ⟨b, 0, c, rfl, ?_, by rw [H.mt]; rfl⟩⟩
  simp only [AH.row, H.cs, Option.bind_some]
  rw [if_pos (by rw [flatMap_len hke]; omega)]
  congr 1
  rw [List.drop_zero, ← flatMap_len hke, List.take_length]
theorem Mut.own (H : Mut h0 k enc h b l) (hke : ∀ x, (enc x).length = k) (c : Bool) (hn : n = l.length) : Own h0 k enc h (.sl b 0 n c) l := by
  have hr := H.rd hke c hn
  subst hn
  exact ⟨H.wf0, H.le, H.wf, hr, .inr ⟨b, 0, c, _, _, rfl, H.lt, H.mt, rfl, rfl, H.cs, by rw [flatMap_len hke]; omega, by simp⟩⟩
theorem Mut.le' (H : Mut h0 k enc h b l) (wf : h'.wf) (hle : h.le h') : Mut h0 k enc h' b l := ⟨H.wf0, H.le.trans hle, wf, H.lt, pre_get hle.2.1 H.mt, pre_get hle.1 H.cs⟩
theorem prefix_set {α : Type} {l l' : List α} (h : l <+: l') {b : Nat} (hb : l.length ≤ b) (x : α) : l <+: l'.set b x := by
  obtain ⟨t, rfl⟩ := h
  rw [List.set_append_right _ _ hb]
  exact List.prefix_append _ _
/-- What a store leaves. -/
theorem Mut.set_le (H : Mut h0 k enc h b l) (row : List AV) : h0.le ⟨h.cs.set b row, h.mt, h.mp⟩ := ⟨prefix_set H.le.1 H.lt _, H.le.2.1, H.le.2.2⟩
theorem Mut.set (H : Mut h0 k enc h b l) (l' : List α) {row : List AV} (hrow : row = l'.flatMap enc) : Mut h0 k enc ⟨h.cs.set b row, h.mt, h.mp⟩ b l' := by
  subst hrow
  exact ⟨H.wf0, H.set_le _, H.wf.cs (by simp), H.lt, H.mt, by rw [List.getElem?_set]; simp [(List.getElem?_eq_some_iff.1 H.cs).1]⟩
/-- Another block is as it was. -/
theorem Mut.other {row : List AV} {b' : Nat} (H : Mut h0 k enc h b l) (hb : h0.cs.length ≤ b') (hne : b ≠ b') : Mut h0 k enc ⟨h.cs.set b' row, h.mt, h.mp⟩ b l :=
  ⟨H.wf0, ⟨prefix_set H.le.1 hb _, H.le.2.1, H.le.2.2⟩, H.wf.cs (by simp), H.lt, H.mt, by rw [List.getElem?_set_ne (Ne.symm hne)]; exact H.cs⟩
theorem setL_app (A : List AV) : ∀ (vs B : List AV) (j : Nat), setL (A ++ B) (A.length + j) vs = A ++ setL B j vs
  | [], _, _ => rfl
  | v :: vs, B, j => by
    rw [setL, setL, List.set_append_right _ _ (by omega), show A.length + j - A.length = j by omega, Nat.add_assoc, setL_app A vs]
theorem setL_flat (hke : ∀ x, (enc x).length = k) : ∀ (l : List α) (i : Nat) (x : α), i < l.length → setL (l.flatMap enc) (i * k) (enc x) = (l.set i x).flatMap enc
  | [], i, x, h => by simp at h
  | y :: l, 0, x, _ => by
    have := setL_mid (enc x) (enc y) [] (l.flatMap enc) (by rw [hke, hke])
    simpa using this
  | y :: l, i + 1, x, h => by
    have ih := setL_flat hke l i x (by simpa using h)
    rw [List.flatMap_cons, show (i + 1) * k = (enc y).length + i * k by rw [hke, Nat.add_mul]; omega, List.set_cons_succ, List.flatMap_cons, ← ih, setL_app]
/-- An element of a slice is written. -/
theorem OpR_storeM {P : Program} {a : List AV} {K : List AV → AH → Prop} {d : Option Nat} {T : TypeId} {x y : Operand} {o' i : Nat} {v : AV} {z : α} (hx : ev a x = some (.p b o')) (hy : ev a y = some v) (hs : szT P T = some k)
    (hke : ∀ x, (enc x).length = k) (hM : Mut h0 k enc h b l) (hi : i < l.length) (ho : o' = i * k) (hv : v.cells = enc z) (hsc : v.cells.all AV.sc = true)
    (hk : ∀ h' row, h' = ⟨h.cs.set b row, h.mt, h.mp⟩ → Mut h0 k enc h' b (l.set i z) → K (st a d un) h') : OpR P (.store T x y) d a h K := by
  subst ho
  have hlen : v.cells.length = k := by rw [hv, hke]
  refine OpR_store0 hx hy (by rw [hlen]; exact hs) hsc hM.mt hM.cs ?_ ?_
  · rw [hlen, flatMap_len hke, ← Nat.succ_mul]; exact Nat.mul_le_mul_right k hi
  · refine hk _ _ rfl (hM.set _ ?_)
    rw [hv, setL_flat hke l i z hi]
end

/-! ### Regions that draw their order: slices -/
section
variable {P : Program} {m : Nat} {h0 h : AH} {ls : List (IOp × Bool)} {K : List AV → AH → Prop} {a : List AV} {d : Option Nat}
theorem AX_idx {α : Type} {k : Nat} {enc : α → List AV} {T e : TypeId} {x ix : Operand} {v : AV} {l : List α} {kk : IntKind} {n : Int} {hh : AH} (hT : P.underlying T = some (.slice e)) (hs : szT P e = some k)
    (hx : ev a x = some v) (hi : ev a ix = some (.i kk n)) (hR : RdG k enc hh v l) (hke : ∀ x, (enc x).length = k) {y : α} (hn : 0 ≤ n) (hy : l[n.toNat]? = some y)
    (hk : ∀ b o, hh.row b o k = some (enc y) → AX P m h0 ls K (st a d (.p b o)) h) : AX P m h0 ((⟨d, .indexAddr T x ix, none⟩, true) :: ls) K a h := by
  obtain ⟨b, o, c, rfl, hrow⟩ := hR.at_ hke hy
  have hlt := (List.getElem?_eq_some_iff.1 hy).1
  exact AX_v (OpV_indexAddr hT hs hx hi hn (by omega)) (hk b _ hrow)
theorem AX_lenA {T e : TypeId} {x : Operand} {v : AV} {n : Nat} (hT : P.underlying T = some (.slice e)) (hx : ev a x = some v) (hn : lenA v = some n) (hk : AX P m h0 ls K (st a d (.i .i64 n)) h) :
    AX P m h0 ((⟨d, .call { callee := .builtin .len, args := #[x], argTypes := #[T] }, none⟩, true) :: ls) K a h := by
  cases v <;> simp [lenA] at hn
  · subst hn; exact AX_v (OpV_len hT hx) hk
  · subst hn; exact AX_v (OpV_len0 hT hx) hk
end

/-! ### A slice of ints that the call was handed -/
theorem ro_cs (h : AH) (k : Nat) (l : List AV) : (h.ro k l).cs[h.cs.length]? = some l := by simp [AH.ro]
theorem ro_mt {h : AH} (wf : h.wf) (k : Nat) (l : List AV) : (h.ro k l).mt[h.cs.length]? = some ⟨k, false, []⟩ := by
  rw [← wf.len]; simp [AH.ro]
theorem cell_lt {W : World} {x : Addr} {v : Value} (h : W.cell? x = some v) : x.block < W.heap.size := by
  unfold World.cell? at h
  cases hb : W.heap[x.block]? with
  | none => rw [hb] at h; simp at h
  | some o => exact (Array.getElem?_eq_some_iff.1 hb).1
/-- What an argument brings: its abstract value, and the heap that it stands in. -/
theorem openI {W : World} {ι : Pl} {h : AH} (H : RoRep W ι h) (wf : h.wf) {k : IntKind} (enc : Int → List AV) (henc : enc = fun n => [.i k n]) {a : Option Addr} {len cap : Nat} {zs : List Int}
    (hz : (a = none ∧ len = 0 ∧ cap = 0 ∧ zs = []) ∨ ∃ x, a = some x ∧ len ≤ cap ∧ zs.length = cap ∧ 0 < W.heap.size ∧ ∀ i, i < zs.length → W.cell? (x.add i) = some (.int k (zs.getD i 0))) :
    ∃ (ι' : Pl) (h' : AH) (v : AV) (l : List Int), RoRep W ι' h' ∧ h'.wf ∧ ι.le ι' ∧ h.le h' ∧ VRel ι' v (.slice a len cap) ∧ RdG 1 enc h' v l ∧ l.length = len ∧ l = zs.take len := by
  subst henc
  rcases hz with ⟨rfl, rfl, rfl, rfl⟩ | ⟨x, rfl, hle, hzl, hblk, hcell⟩
  · exact ⟨ι, h, .ns, [], H, wf, .refl _, .refl _, .ns, .nil _ _ _, rfl, by simp⟩
  · by_cases hc : cap = 0
    · subst hc
      have hl0 : len = 0 := by omega
      subst hl0
      have hzs : zs = [] := List.eq_nil_of_length_eq_zero hzl
      subst hzs
      have hadd := H.add ⟨0, 0, 0, 1⟩ [] rfl (by intro j v hv; simp at hv) hblk
      refine ⟨_, _, .sl h.cs.length 0 0 false, [], hadd, AH.ro_wf wf _ _, ι.le_add _, h.le_ro _ _, ?_, ?_, rfl, rfl⟩
      · refine .sl _ 0 _ false ⟨0, 0, 0, 1⟩ _ 0 ?_ hle (by simp) (.inl rfl)
        rw [← H.rep.lb]; simp [Pl.add]
      · refine ⟨rfl, .inr ⟨_, 0, false, rfl, ?_, ?_⟩⟩
        · simp [AH.row, ro_cs]
        · rw [ro_mt wf]; rfl
    · obtain ⟨b, off, sp⟩ := x
      have hsp : sp = none := by simpa [Addr.add] using World.cell?_spot (hcell 0 (by omega))
      subst hsp
      have hcell' : ∀ j, j < zs.length → W.cell? ⟨b, off + j, none⟩ = some (.int k (zs.getD j 0)) := fun j hj => by rw [← add_none]; exact hcell j hj
      have hadd := H.add ⟨b, off, off + cap, 1⟩ (zs.map (.i k)) (by simp [AV.sc]) (by
        intro j v hv
        rw [List.getElem?_map] at hv
        cases hj : zs[j]? with
        | none => rw [hj] at hv; simp at hv
        | some n =>
          rw [hj] at hv
          simp at hv
          subst hv
          have hlt := (List.getElem?_eq_some_iff.1 hj).1
          refine ⟨.int k n, ?_, .i _ _⟩
          rw [hcell' j hlt]
          simp [hj]) (cell_lt (hcell' 0 (by omega)))
      refine ⟨_, _, .sl h.cs.length 0 len false, zs.take len, hadd, AH.ro_wf wf _ _, ι.le_add _, h.le_ro _ _, ?_, ?_, by simp; omega, rfl⟩
      · refine .sl _ 0 _ false ⟨b, off, off + cap, 1⟩ _ cap ?_ hle (by simp) (.inr ⟨rfl, by simp⟩)
        rw [← H.rep.lb]; simp [Pl.add]
      · have hl : (zs.take len).length = len := by simp; omega
        refine ⟨by simp only [lenA, hl], .inr ⟨_, 0, false, by rw [hl], ?_, ?_⟩⟩
        · simp only [AH.row, ro_cs, Option.bind_some, hl]
          rw [if_pos (by simp; omega)]
          congr 1
          rw [List.drop_zero, Nat.mul_one, ← List.map_take]
          generalize zs.take len = q
          induction q with
          | nil => rfl
          | cons y q ih => simp [ih]
        · rw [ro_mt wf]; rfl
theorem okWide_pos {P : Program} {W : World} {base : Nat} {t e : TypeId} {a : Addr} {len cap : Nat} (ht : P.underlying t = some (.slice e)) (h : Value.okWide P W .any base t (.slice (some a) len cap)) : 0 < W.heap.size := by
  simp only [Value.okWide, ht, Cell.okWide, Cell.ok, World.has] at h
  obtain ⟨_, _, _, _, row, cells, hs, _⟩ := h
  unfold World.shape? at hs
  cases hb : W.heap[a.block]? with
  | none => rw [hb] at hs; simp at hs
  | some o => have := (Array.getElem?_eq_some_iff.1 hb).1; omega
end Go.AL
