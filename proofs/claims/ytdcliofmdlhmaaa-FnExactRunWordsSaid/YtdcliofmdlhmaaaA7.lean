/- The abstract logic, part 7: rules for operations that make or write memory. -/
import Derived.Test.YtdcliofmdlhmaaaA6
namespace Go.AL
open Go.RowKit

def setL (l : List AV) (o : Nat) : List AV → List AV
  | [] => l
  | v :: vs => setL (l.set o v) (o + 1) vs
def setV (l : List Value) (o : Nat) : List Value → List Value
  | [] => l
  | v :: vs => setV (l.set o v) (o + 1) vs
theorem setL_length : ∀ (vs l : List AV) (o : Nat), (setL l o vs).length = l.length
  | [], _, _ => rfl
  | v :: vs, l, o => by simp [setL, setL_length vs]
theorem setV_length : ∀ (vs l : List Value) (o : Nat), (setV l o vs).length = l.length
  | [], _, _ => rfl
  | v :: vs, l, o => by simp [setV, setV_length vs]
theorem setV_get : ∀ (vs l : List Value) (o j : Nat), o + vs.length ≤ l.length → (setV l o vs)[j]? = if o ≤ j ∧ j < o + vs.length then vs[j - o]? else l[j]?
  | [], l, o, j, _ => by simp [setV]; intro h1 h2; omega
  | v :: vs, l, o, j, h => by
    simp only [List.length_cons] at h
    rw [setV, setV_get vs (l.set o v) (o + 1) j (by simp; omega)]
    by_cases h1 : o + 1 ≤ j ∧ j < o + 1 + vs.length
    · rw [if_pos h1, if_pos (by simp; omega), show j - o = (j - (o + 1)) + 1 by omega]; simp
    · rw [if_neg h1]
      by_cases h2 : o = j
      · subst h2; rw [if_pos (by simp)]; simp [List.getElem?_set]; omega
      · rw [if_neg (by simp; omega), List.getElem?_set_ne h2]
theorem setL_get : ∀ (vs l : List AV) (o j : Nat), o + vs.length ≤ l.length → (setL l o vs)[j]? = if o ≤ j ∧ j < o + vs.length then vs[j - o]? else l[j]?
  | [], l, o, j, _ => by simp [setL]; intro h1 h2; omega
  | v :: vs, l, o, j, h => by
    simp only [List.length_cons] at h
    rw [setL, setL_get vs (l.set o v) (o + 1) j (by simp; omega)]
    by_cases h1 : o + 1 ≤ j ∧ j < o + 1 + vs.length
    · rw [if_pos h1, if_pos (by simp; omega), show j - o = (j - (o + 1)) + 1 by omega]; simp
    · rw [if_neg h1]
      by_cases h2 : o = j
      · subst h2; rw [if_pos (by simp)]; simp [List.getElem?_set]; omega
      · rw [if_neg (by simp; omega), List.getElem?_set_ne h2]
theorem setL_rel {ι : Pl} : ∀ {vs l : List AV} {cs cl : List Value} (o : Nat), VRels ι l cl → VRels ι vs cs → VRels ι (setL l o vs) (setV cl o cs)
  | _, _, _, _, _, hl, .nil => hl
  | _, _, _, _, o, hl, .cons h t => setL_rel (o + 1) (hl.set o h) t
theorem all_set {l : List AV} (h : l.all AV.sc = true) (o : Nat) {v : AV} (hv : v.sc = true) : (l.set o v).all AV.sc = true := by
  simp only [List.all_eq_true] at h ⊢
  intro x hx
  rcases List.mem_or_eq_of_mem_set hx with hx | rfl
  · exact h x hx
  · exact hv
theorem setL_sc : ∀ {vs l : List AV} (o : Nat), l.all AV.sc = true → vs.all AV.sc = true → (setL l o vs).all AV.sc = true
  | [], _, _, h, _ => h
  | v :: vs, l, o, h, h' => by
    simp only [List.all_cons, Bool.and_eq_true] at h'
    exact setL_sc (o + 1) (all_set h o h'.1) h'.2
theorem foldl_setV (off : Nat) : ∀ (vs : List Value) (n : Nat) (cs : Array Value), ((vs.zipIdx n).foldl (fun cs (x : Value × Nat) => cs.setIfInBounds (off + x.2) x.1) cs).toList = setV cs.toList (off + n) vs
  | [], n, cs => rfl
  | v :: vs, n, cs => by
    rw [List.zipIdx_cons, List.foldl_cons, foldl_setV off vs (n + 1)]
    simp [setV, Nat.add_assoc]

/-! ### Literals -/
def evps (a : List AV) : List (Nat × Operand) → Option (List (Nat × AV))
  | [] => some []
  | (i, x) :: l => match ev a x, evps a l with
    | some v, some vs => some ((i, v) :: vs)
    | _, _ => none
def fillA (place : Nat → Option (Nat × Nat)) (z : List AV) : List (Nat × AV) → Option (List AV)
  | [] => some z
  | (i, v) :: l => match place i with
    | none => none
    | some (o, n) => if v.cells.length = n ∧ o + n ≤ z.length ∧ v.cells.all AV.sc = true then fillA place (setL z o v.cells) l else none
theorem fill_rel {ι : Pl} {a : List AV} {ca : Act} (hr : VRels ι a ca.tmps.toList) {place : Nat → Option (Nat × Nat)} : ∀ {xs : List (Nat × Operand)} {ps : List (Nat × AV)} {z cs : List AV} {cz : Array Value},
    evps a xs = some ps → fillA place z ps = some cs → VRels ι z cz.toList → z.all AV.sc = true →
    ∃ cc : Array Value, Instr.fill place cz (xs.map fun (i, x) => (i, ca.eval x)) = some cc ∧ VRels ι cs cc.toList ∧ cs.all AV.sc = true
  | [], ps, z, cs, cz, h1, h2, hz, hsc => by
    simp [evps] at h1; subst h1
    simp [fillA] at h2; subst h2
    exact ⟨cz, rfl, hz, hsc⟩
  | (i, x) :: xs, ps, z, cs, cz, h1, h2, hz, hsc => by
    simp only [evps] at h1
    split at h1
    · rename_i v vs hv hvs
      injection h1 with h1; subst h1
      simp only [fillA] at h2
      split at h2
      · cases h2
      · rename_i o n hpl
        split at h2
        · rename_i hc
          obtain ⟨c1, c2, c3⟩ := hc
          have hvr := (ev_rel hr hv).cells
          have hlen := hvr.length
          have hzl := hz.length
          simp only [Array.length_toList] at hlen hzl
          obtain ⟨cc, e1, e2, e3⟩ := fill_rel hr (cz := (setV cz.toList o (ca.eval x).cells.toList).toArray) hvs h2 (by simpa using setL_rel o hz hvr) (setL_sc o hsc c3)
          refine ⟨cc, ?_, e2, e3⟩
          simp only [List.map_cons, Instr.fill, hpl]
          rw [if_neg (by simp; omega)]
          rw [← e1]
          congr 1
          apply Array.toList_inj.1
          have := foldl_setV o (ca.eval x).cells.toList 0 cz
          rw [Nat.add_zero] at this
          rw [← this]
          rw [← Array.foldl_toList, Array.toList_zipIdx]
        · cases h2
    · cases h1
def zeroA (P : Program) (T : TypeId) : Option AV := (P.info? T).bind fun i => i.zero.bind absV
def byT (P : Program) (T : TypeId) : Option Nat := (P.info? T).map (·.bytes)
theorem zeroA_out {P : Program} {T : TypeId} {z : AV} (H : zeroA P T = some z) : ∃ i zv, P.info? T = some i ∧ i.zero = some zv ∧ absV zv = some z := by
  unfold zeroA at H
  cases hi : P.info? T with
  | none => rw [hi] at H; simp at H
  | some i =>
    rw [hi] at H
    simp only [Option.bind_some] at H
    cases hz : i.zero with
    | none => rw [hz] at H; simp at H
    | some zv => rw [hz] at H; simp at H; exact ⟨i, zv, rfl, hz, H⟩
theorem run_zeroA {P : Program} {T : TypeId} {z : AV} (H : zeroA P T = some z) (ι : Pl) (w : World) : ∃ zv, (zeroValue T).run P w = .ok zv w ∧ VRel ι z zv := by
  obtain ⟨i, zv, h1, h2, h3⟩ := zeroA_out H
  exact ⟨zv, by simp [zeroValue, typeInfo, h1, h2], absV_rel h3⟩
def plA (P : Program) (T : TypeId) : Option (List (Nat × Nat)) := match P.underlying T with
  | some (.struct fs) => fs.toList.mapM fun f => (szT P f.type).map fun n => (f.offset, n)
  | _ => none
theorem mapM_places {P : Program} (w : World) : ∀ {fs : List Field} {l : List (Nat × Nat)}, (fs.mapM fun f => (szT P f.type).map fun n => (f.offset, n)) = some l →
    (fs.mapM (m := Sem) fun f => do pure (f.offset, ← sizeOf f.type)).run P w = .ok l w
  | [], l, H => by simp at H; subst H; rfl
  | f :: fs, l, H => by
    rw [List.mapM_cons] at H
    cases hn : szT P f.type with
    | none => rw [hn] at H; simp at H
    | some n =>
      rw [hn] at H
      cases hl : (fs.mapM fun f => (szT P f.type).map fun n => (f.offset, n)) with
      | none => rw [hl] at H; simp at H
      | some l' =>
        rw [hl] at H
        simp at H
        subst H
        rw [List.mapM_cons, Sem.run_bind, Sem.run_bind, run_sizeOf_sz hn]
        simp only [Result.andThen_ok, Sem.run_pure, Sem.run_bind, mapM_places w hl]

section
variable {P : Program} {a : List AV} {h : AH} {K : List AV → AH → Prop} {d : Option Nat}

theorem OpR_build {T : TypeId} {parts : Array (Nat × Operand)} {pls : List (Nat × Nat)} {z cs : List AV} {ps : List (Nat × AV)} (hp : plA P T = some pls) (hz : zeroA P T = some (.agg z))
    (he : evps a parts.toList = some ps) (hf : fillA (pls[·]?) z ps = some cs) (hk : K (st a d (.agg cs)) h) : OpR P (.build T parts) d a h K :=
  OpR_pure (fun base w0 ι w ca _ hr o ho => by
    obtain ⟨zv, hzr, hzv⟩ := run_zeroA hz ι w
    obtain ⟨zc, rfl, hzc, hzs⟩ : ∃ zc : Array Value, zv = .agg zc ∧ VRels ι z zc.toList ∧ z.all AV.sc = true := by
      cases hzv with | agg _ vs hs h => exact ⟨vs, rfl, h, hs⟩
    obtain ⟨cc, e1, e2, e3⟩ := fill_rel hr he hf hzc hzs
    refine ⟨.agg cc, ?_, .agg cs cc e3 e2⟩
    unfold plA at hp
    split at hp
    · rename_i fs hu
      have hm := mapM_places (P := P) w hp
      have e1' : Instr.fill (fun x => pls[x]?) zc (parts.toList.map fun (x : Nat × Operand) => (x.1, ca.eval x.2)) = some cc := e1
      have hmm : (fs.mapM (m := Sem) fun f => do pure (f.offset, ← sizeOf f.type)).run P w = .ok pls.toArray w := by
        rw [← Array.toArray_toList (xs := fs), List.mapM_toArray, map_eq_pure_bind, Sem.run_bind, hm]
        rfl
      unfold execOp
      simp only [ho, Instr.build, Sem.run_bind, hzr, Result.andThen_ok, run_underlying hu, hmm, Value.cells, Array.toList_map, List.getElem?_toArray, e1', Sem.run_pure]
    · cases hp) hk

/-- The new block that an operation lays. -/
theorem OpR_new {op : Op} {v : AV} (k : Nat) (l : List AV) (hsc : ∀ base w0 ι w (ca : Act), Rep base w0 ι h w → VRels ι a ca.tmps.toList → ∀ (o : Oper), o.op = op → l.all AV.sc = true ∧ ∃ (arr : Array Value) (T : TypeId) (cv : Value),
      VRels ι l (arr.toList.take l.length) ∧ l.length ≤ arr.size ∧ (execOp ca.eval o).run P w = .ok (.value cv) (w.alloc (.cells arr T)) ∧ VRel (ι.add ⟨w.heap.size, 0, arr.size, k⟩) v cv)
    (hk : K (st a d v) (h.new k l)) : OpR P op d a h K := by
  intro o ho hd base w0 ι0 ι w ca hok N R hN
  obtain ⟨hs, arr, T, cv, h1, h2, h3, h4⟩ := hsc base w0 ι w ca hok.rep hok.rel o ho
  unfold Oper.wp
  rw [h3]
  have hle := Pl.le_add ι ⟨w.heap.size, 0, arr.size, k⟩
  refine hN (ι.add ⟨w.heap.size, 0, arr.size, k⟩) _ _ _ _ ⟨hok.le.trans hle, hok.rep.alloc k l [] arr T h1 h2 hs (by simp) (by simp), ?_, ?_⟩ hk
  · rw [put_defers]; exact hok.def_
  · rw [hd]; exact put_rel (hok.rel.mono hle) d h4
theorem new_pl {base : Nat} {w0 : World} {ι : Pl} {w : World} (hrep : Rep base w0 ι h w) (p : Place) : (ι.add p).bl[h.cs.length]? = some p := by
  rw [← hrep.lb]; exact get_new _ _
theorem take_all {α : Type} (l : List α) : l.take l.length = l := List.take_length
theorem OpR_alloc {T : TypeId} {z : AV} (k : Nat) (hz : zeroA P T = some z) (hs : z.cells.all AV.sc = true) (hk : K (st a d (.p h.cs.length 0)) (h.new k z.cells)) : OpR P (.alloc T) d a h K :=
  OpR_new k z.cells (fun base w0 ι w ca hrep hr o ho => by
    obtain ⟨zv, hzr, hzv⟩ := run_zeroA hz ι w
    have hl := hzv.cells.length
    simp only [Array.length_toList] at hl
    refine ⟨hs, zv.cells, T, .pointer (some ⟨w.heap.size, 0, none⟩), ?_, by omega, ?_, ?_⟩
    · rw [hl, ← Array.length_toList, take_all]; exact hzv.cells
    · unfold execOp
      simp [ho, Instr.alloc, hzr, newVar, newRow]
    · exact .p h.cs.length 0 _ (new_pl hrep _)) hk
theorem OpR_box {T : TypeId} {x : Operand} {v : AV} (k : Nat) (hx : ev a x = some v) (hs : v.cells.all AV.sc = true) (hk : K (st a d (.p h.cs.length 0)) (h.new k v.cells)) : OpR P (.box T x) d a h K :=
  OpR_new k v.cells (fun base w0 ι w ca hrep hr o ho => by
    have hv := ev_rel hr hx
    have hl := hv.cells.length
    simp only [Array.length_toList] at hl
    refine ⟨hs, (ca.eval x).cells, T, .pointer (some ⟨w.heap.size, 0, none⟩), ?_, by omega, ?_, ?_⟩
    · rw [hl, ← Array.length_toList, take_all]; exact hv.cells
    · unfold execOp
      simp [ho, Instr.box, newVar, newRow]
    · exact .p h.cs.length 0 _ (new_pl hrep _)) hk
def litA (k : Nat) : Nat → List (Nat × AV) → Option (List AV)
  | _, [] => some []
  | i, (j, v) :: l => if j = i ∧ v.cells.length = k ∧ v.cells.all AV.sc = true then (litA k (i + 1) l).map (v.cells ++ ·) else none
theorem setL_mid : ∀ (vs old pre post : List AV), old.length = vs.length → setL (pre ++ (old ++ post)) pre.length vs = pre ++ (vs ++ post)
  | [], old, pre, post, h => by
    have : old = [] := List.eq_nil_of_length_eq_zero h
    subst this; rfl
  | v :: vs, o :: old, pre, post, h => by
    simp only [List.length_cons, Nat.add_right_cancel_iff] at h
    have := setL_mid vs old (pre ++ [v]) post h
    simp only [List.length_append, List.length_cons, List.length_nil, List.append_assoc, List.cons_append, List.nil_append] at this
    simp only [setL, List.cons_append]
    rw [List.set_append_right _ _ (Nat.le_refl _)]
    simpa using this
  | v :: vs, [], pre, post, h => by simp at h
theorem lit_fill {k : Nat} : ∀ {ps : List (Nat × AV)} {i : Nat} {cs : List AV} (pre post : List AV), litA k i ps = some cs → pre.length = i * k → post.length = cs.length → fillA (fun i => some (i * k, k)) (pre ++ post) ps = some (pre ++ cs)
  | [], i, cs, pre, post, h, hp, hq => by
    simp [litA] at h; subst h
    have : post = [] := List.eq_nil_of_length_eq_zero (by simpa using hq)
    subst this; rfl
  | (j, v) :: ps, i, cs, pre, post, h, hp, hq => by
    simp only [litA] at h
    split at h
    · rename_i hc
      obtain ⟨rfl, hk, hsc⟩ := hc
      simp only [Option.map_eq_some_iff] at h
      obtain ⟨cs', h1, rfl⟩ := h
      simp only [List.length_append] at hq
      have hsplit : post = post.take k ++ post.drop k := (List.take_append_drop k post).symm
      have hset : setL (pre ++ post) (j * k) v.cells = (pre ++ v.cells) ++ post.drop k := by
        rw [hsplit, ← hp, setL_mid v.cells (post.take k) pre (post.drop k) (by simp; omega), List.append_assoc]
        simp
      simp only [fillA]
      rw [if_pos ⟨hk, by simp; omega, hsc⟩, hset]
      have := lit_fill (pre ++ v.cells) (post.drop k) h1 (by simp [hp, hk, Nat.add_mul]) (by simp; omega)
      rw [this, List.append_assoc]
    · cases h
theorem litA_len {k : Nat} : ∀ {ps : List (Nat × AV)} {i : Nat} {cs : List AV}, litA k i ps = some cs → cs.length = ps.length * k ∧ cs.all AV.sc = true
  | [], i, cs, h => by simp [litA] at h; subst h; simp
  | (j, v) :: ps, i, cs, h => by
    simp only [litA] at h
    split at h
    · rename_i hc
      simp only [Option.map_eq_some_iff] at h
      obtain ⟨cs', h1, rfl⟩ := h
      obtain ⟨e1, e2⟩ := litA_len h1
      exact ⟨by simp [e1, hc.2.1, Nat.add_mul, Nat.add_comm], by simp only [List.all_append, hc.2.2, e2, Bool.and_self]⟩
    · cases h
theorem VRels.modrep {ι : Pl} {z : List AV} {cz : Array Value} (hz : VRels ι z cz.toList) (n : Nat) (hn : 0 < z.length ∨ n = 0) : ∃ l : List AV, l.length = n * z.length ∧ VRels ι l ((Array.range (n * z.length)).map (fun i => cz[i % cz.size]!)).toList ∧ (z.all AV.sc = true → l.all AV.sc = true) := by
  have hlen := hz.length
  simp only [Array.length_toList] at hlen
  rcases hn with hn | rfl
  · refine ⟨(List.range (n * z.length)).map (fun i => z.getD (i % z.length) un), by simp, VRels.of_get (by simp) ?_, ?_⟩
    · intro j v c hv hc
      simp only [List.getElem?_map, Option.map_eq_some_iff] at hv
      obtain ⟨i, hi, rfl⟩ := hv
      have hj : j < n * z.length := by have := (List.getElem?_eq_some_iff.1 hi).1; simpa using this
      have : i = j := by rw [List.getElem?_range hj] at hi; exact (Option.some.inj hi).symm
      subst this
      simp only [Array.toList_map, List.getElem?_map, Option.map_eq_some_iff] at hc
      obtain ⟨i', hi', rfl⟩ := hc
      have : i' = i := by simp [hj] at hi'; exact hi'.symm
      subst this
      have hm : i' % z.length < z.length := Nat.mod_lt _ hn
      obtain ⟨c, e1, e2⟩ := hz.get (List.getElem?_eq_getElem hm)
      rw [← hlen]
      have e3 : cz[i' % z.length]! = c := by
        have : cz[i' % z.length]? = some c := by simpa using e1
        rw [Array.getElem!_eq_getD, Array.getD_eq_getD_getElem?, this]; rfl
      rw [e3, List.getD_eq_getElem?_getD, List.getElem?_eq_getElem hm]
      exact e2
    · intro hs
      simp only [List.all_eq_true, List.mem_map] at hs ⊢
      rintro x ⟨i, _, rfl⟩
      have hm : i % z.length < z.length := Nat.mod_lt _ hn
      rw [List.getD_eq_getElem?_getD, List.getElem?_eq_getElem hm]
      exact hs _ (List.getElem_mem hm)
  · exact ⟨[], by simp, by simpa using .nil, by simp⟩
theorem OpR_lit {T e : TypeId} {n k : Nat} {parts : Array (Nat × Operand)} {z : AV} {ps : List (Nat × AV)} {cs : List AV} (hT : P.underlying T = some (.slice e)) (hs : szT P e = some k) (hz : zeroA P e = some z) (hzk : z.cells.length = k) (hzs : z.cells.all AV.sc = true)
    (hk0 : 0 < k) (he : evps a parts.toList = some ps) (hl : litA k 0 ps = some cs) (hn : ps.length = n) (hb : n * k ≤ 16777216) (hk : K (st a d (.sl h.cs.length 0 n true)) (h.new k cs)) : OpR P (.buildSlice T n parts) d a h K :=
  OpR_new k cs (fun base w0 ι w ca hrep hr o ho => by
    obtain ⟨zv, hzr, hzv⟩ := run_zeroA hz ι w
    obtain ⟨hcl, hcs⟩ := litA_len hl
    have hzc := hzv.cells
    have hzl := hzc.length
    simp only [Array.length_toList] at hzl
    obtain ⟨l0, h1, h2, h3⟩ := hzc.modrep n (.inl (by omega))
    rw [hzk] at h1 h2
    have hf := lit_fill [] l0 hl (by simp) (by rw [h1, hcl, hn])
    obtain ⟨cc, e1, e2, e3⟩ := fill_rel hr he hf h2 (h3 hzs)
    have hccl := e2.length
    simp only [Array.length_toList, List.nil_append] at hccl
    refine ⟨hcs, cc, e, .slice (some ⟨w.heap.size, 0, none⟩) n n, ?_, by omega, ?_, ?_⟩
    · rw [hccl, ← Array.length_toList, take_all]; simpa using e2
    · have e1' : Instr.fill (fun i => some (i * k, k)) ((Array.range (n * k)).map (fun i => zv.cells[i % zv.cells.size]!)) (parts.toList.map fun (x : Nat × Operand) => (x.1, ca.eval x.2)) = some cc := e1
      unfold execOp
      simp only [ho, Instr.buildSlice, Sem.run_bind, run_underlying hT, Result.andThen_ok, run_sizeOf_sz hs, show ¬ (n * k > 2 ^ 24) by omega, if_false]
      by_cases h0 : n * k = 0
      · have hn0 : n = 0 := by rcases Nat.mul_eq_zero.1 h0 with h | h <;> omega
        subst hn0
        have hps : ps = [] := List.eq_nil_of_length_eq_zero hn
        subst hps
        have hpar : parts = #[] := by
          cases hp : parts.toList with
          | nil => simpa using hp
          | cons x xs =>
            rw [hp] at he
            simp only [evps] at he
            split at he <;> simp at he
        subst hpar
        simp [Instr.fill] at e1'
        have hz0 : ∀ f : Nat → Value, Array.map f (Array.range 0) = #[] := fun f => Array.eq_empty_of_size_eq_zero (by simp)
        have : cc = #[] := by rw [← e1']; exact hz0 _
        subst this
        simp [Instr.fill, newRow, hz0]
      · rw [if_neg h0]
        simp only [Sem.run_bind, hzr, Result.andThen_ok, Sem.run_pure, Array.toList_map, e1', newRow]
        simp
    · exact .sl h.cs.length 0 n true _ _ n (new_pl hrep _) (Nat.le_refl _) (fun _ => rfl) (.inr ⟨rfl, by rw [hn] at hcl; simp only [Nat.zero_add]; omega⟩)) hk
theorem OpR_make {T e : TypeId} {x y : Operand} {n m : Int} {z : AV} {bytes : Nat} (hT : P.underlying T = some (.slice e)) (hs : szT P e = some 1) (hb : byT P e = some bytes) (hz : zeroA P e = some z) (hz1 : z.cells = [z]) (hzs : z.sc = true)
    (hx : ev a x = some (.i .i64 n)) (hy : ev a y = some (.i .i64 m)) (hnm : m = n) (h0 : 0 ≤ n) (h1 : n * bytes ≤ 140737488355328) (h2 : n ≤ 9223372036854775807) (hk : K (st a d (.sl h.cs.length 0 n.toNat true)) (h.new 1 (List.replicate n.toNat z))) : OpR P (.makeSlice T x y) d a h K :=
  OpR_new 1 (List.replicate n.toNat z) (fun base w0 ι w ca hrep hr o ho => by
    subst hnm
    obtain ⟨zv, hzr, hzv⟩ := run_zeroA hz ι w
    have e1 := rel_i (ev_rel hr hx)
    have e2 := rel_i (ev_rel hr hy)
    have hzc : zv.cells = #[zv] := by cases hzv <;> first | rfl | simp [AV.sc] at hzs
    have hw : IntKind.i64.wrap m = m := IntWalk.i64_in m ⟨by omega, h2⟩
    have hby : ∃ i, P.info? e = some i ∧ i.bytes = bytes := by
      unfold byT at hb
      cases hi : P.info? e with
      | none => rw [hi] at hb; simp at hb
      | some i => rw [hi] at hb; simp at hb; exact ⟨i, rfl, hb⟩
    obtain ⟨i, hi, hib⟩ := hby
    refine ⟨by simp [hzs], (List.replicate m.toNat zv).toArray, e, .slice (some ⟨w.heap.size, 0, none⟩) m.toNat m.toNat, ?_, by simp, ?_, ?_⟩
    · simpa using VRels.rep hzv m.toNat
    · have ht : ¬ (m < 0) := by omega
      have ht2 : ¬ (281474976710656 < (bytes : Int) * m) := by rw [Int.mul_comm]; omega
      have hrep' : (Array.range m.toNat).map (fun i => (#[zv])[i % (#[zv] : Array Value).size]!) = (List.replicate m.toNat zv).toArray := by
        apply Array.toList_inj.1
        apply List.ext_getElem?
        intro j
        by_cases hj : j < m.toNat
        · simp [hj, Nat.mod_one]
        · simp [hj]
      unfold execOp
      simp only [ho, Instr.makeSlice, Sem.run_bind, run_underlying hT, Result.andThen_ok, e1, e2, asInt, asIntOf, Sem.run_pure, typeInfo, run_program, hi, hw]
      have hroom : ¬ (m.toNat * bytes > roomBytes) := by
        have e9 : ((m.toNat * bytes : Nat) : Int) = m * bytes := by rw [Int.natCast_mul, Int.toNat_of_nonneg h0]
        have e10 : roomBytes = 140737488355328 := rfl
        rw [e10]
        generalize m.toNat * bytes = q at e9 ⊢
        generalize m * (bytes : Int) = r at e9 h1
        omega
      simp [hib, ht, ht2, askRoom, hroom]
      by_cases hm0 : m.toNat = 0
      · have hz0 : ∀ f : Nat → Value, Array.map f (Array.range 0) = #[] := fun f => Array.eq_empty_of_size_eq_zero (by simp)
        simp [hm0, run_sizeOf_sz hs, newRow, hz0]
      · simp [hm0, run_sizeOf_sz hs, hzr, newRow, hzc] at hrep' ⊢
        rw [hrep']
    · exact .sl h.cs.length 0 _ true _ _ m.toNat (new_pl hrep _) (Nat.le_refl _) (fun _ => rfl) (.inr ⟨rfl, by simp⟩)) hk
end
end Go.AL
