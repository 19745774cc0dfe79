/- The logic of what is owned, part 5: slices of slices; what is let go. -/
import Derived.Test.YtdcliofmdlhmaaaC4
namespace Go.AL
set_option linter.unusedVariables false
set_option linter.unusedSimpArgs false
open Go.RowKit
theorem enI1 (x : Int) : (enI x).length = 1 := rfl
theorem enV1 (x : AV) : (enV x).length = 1 := rfl
theorem enB1 (x : Bool) : (enB x).length = 1 := rfl
theorem enStep2 (x : Int × Int) : (enStep x).length = 2 := rfl
theorem enMat4 (x : MatM) : (enMat x).length = 4 := rfl
def enS (s : ByteArray) : List AV := [.s s]
theorem enS1 (x : ByteArray) : (enS x).length = 1 := rfl
/-- The rows of a slice of slices, each owned. -/
def rowsI : List AV → List (List Int) → List It
  | u :: us, l :: ll => .sl u 1 (l.flatMap enI) :: rowsI us ll
  | _, _ => []
theorem rowsI_snoc : ∀ {us : List AV} {ll : List (List Int)} (u : AV) (l : List Int), us.length = ll.length → rowsI (us ++ [u]) (ll ++ [l]) = rowsI us ll ++ [.sl u 1 (l.flatMap enI)]
  | [], [], u, l, _ => rfl
  | v :: us, k :: ll, u, l, h => by simp only [List.cons_append, rowsI]; rw [rowsI_snoc u l (by simpa using h)]
  | [], _ :: _, _, _, h => by simp at h
  | _ :: _, [], _, _, h => by simp at h
theorem rowsI_get : ∀ {us : List AV} {ll : List (List Int)} {i : Nat} {u : AV} {l : List Int}, us[i]? = some u → ll[i]? = some l → It.sl u 1 (l.flatMap enI) ∈ rowsI us ll
  | [], _, _, _, _, h, _ => by simp at h
  | _ :: _, [], _, _, _, _, h => by simp at h
  | v :: us, k :: ll, 0, u, l, h1, h2 => by simp at h1 h2; subst h1; subst h2; simp [rowsI]
  | v :: us, k :: ll, i + 1, u, l, h1, h2 => by simp only [rowsI]; exact List.mem_cons_of_mem _ (rowsI_get (by simpa using h1) (by simpa using h2))
section
variable {P : Program} {h0 h : AH} {L M : List It} {Q : Exit → List AV → List It → Prop} {a : List AV} {l : List IOp} {d : Option Nat} {c : IC}
theorem Loq.rdM {α : Type} {enc : α → List AV} {k : Nat} {v : AV} {ll : List α} (H : Loq h0 h L) (hx : It.sl v k (ll.flatMap enc) ∈ L) (hke : ∀ x, (enc x).length = k) (hk0 : 0 < k) : RdG k enc h v ll := by
  obtain ⟨i, hi⟩ := List.mem_iff_getElem?.1 hx
  exact H.rdI i hi hke hk0
theorem Loq.ownM {α : Type} {enc : α → List AV} {k : Nat} {v : AV} {ll : List α} (H : Loq h0 h L) (hx : It.sl v k (ll.flatMap enc) ∈ L) (hke : ∀ x, (enc x).length = k) (hk0 : 0 < k) : Own h0 k enc h v ll := by
  obtain ⟨i, hi⟩ := List.mem_iff_getElem?.1 hx
  exact H.ownI i hi hke hk0
theorem Loq.ss {v : AV} {us : List AV} {ll : List (List Int)} (H : Loq h0 h L) (ho : It.sl v 1 (us.flatMap enV) ∈ L) (hr : ∀ x ∈ rowsI us ll, x ∈ L) (hl : us.length = ll.length) : RdSS h v ll us :=
  ⟨H.rdM ho enV1 (by decide), hl, fun i u q hu hq => H.rdM (hr _ (rowsI_get hu hq)) enI1 (by decide)⟩
theorem LIL_drop (k : Nat) (H : LIL P h0 (L.drop k) c Q a) : LIL P h0 L c Q a := LIL_sub (List.drop_sublist k L) H
theorem LI_drop (k : Nat) (H : LI P h0 (L.drop k) c Q a) : LI P h0 L c Q a := fun h HL => H h (HL.sub (List.drop_sublist k L))
theorem LS_drop (k : Nat) (H : LS P h0 (L.drop k) l Q a) : LS P h0 L l Q a := LS_sub (List.drop_sublist k L) H
/-- A row more: it joins the rows. -/
theorem push_perm (C : List It) {us : List AV} {ll : List (List Int)} {u : AV} {l : List Int} (hl : us.length = ll.length) (B : List It) : List.Perm (.sl u 1 (l.flatMap enI) :: (C ++ (rowsI us ll ++ B))) (C ++ (rowsI (us ++ [u]) (ll ++ [l]) ++ B)) := by
  rw [rowsI_snoc u l hl, List.append_assoc]
  refine List.Perm.trans ?_ (List.Perm.append_left C (List.perm_middle (l₁ := rowsI us ll) (a := It.sl u 1 (l.flatMap enI)) (l₂ := B)).symm)
  exact (List.perm_middle (l₁ := C) (a := It.sl u 1 (l.flatMap enI)) (l₂ := rowsI us ll ++ B)).symm
theorem LIL_push (C : List It) {us : List AV} {ll : List (List Int)} {u : AV} {l : List Int} {B : List It} (hl : us.length = ll.length) (H : LIL P h0 (C ++ (rowsI (us ++ [u]) (ll ++ [l]) ++ B)) c Q a) :
    LIL P h0 (.sl u 1 (l.flatMap enI) :: (C ++ (rowsI us ll ++ B))) c Q a := LIL_perm (push_perm C hl B) H
theorem LIL_rot (k : Nat) {x : It} (hx : L[k]? = some x) (H : LIL P h0 (x :: L.eraseIdx k) c Q a) : LIL P h0 L c Q a := LIL_perm (perm_erase L k x hx) H
theorem PlR.frz {h : AH} {v : AV} {p : PlanM} (H : PlR h v p) : PlR h.frz v p := by obtain ⟨vs, vo, e, h1, h2⟩ := H; exact ⟨vs, vo, e, h1.frz, h2.frz⟩
/-- One cell of an element is written. -/
theorem flat_set {α : Type} {k : Nat} {enc : α → List AV} (hke : ∀ x, (enc x).length = k) {ll : List α} {j f : Nat} {y z : α} {u : AV} (hy : ll[j]? = some y) (hf : f < k) (hz : enc z = (enc y).set f u) : (ll.flatMap enc).set (j * k + f) u = (ll.set j z).flatMap enc := by
  have hj := (List.getElem?_eq_some_iff.1 hy).1
  have hfl := flatMap_len hke ll
  have hjk : j * k + k ≤ ll.length * k := by rw [← Nat.succ_mul]; exact Nat.mul_le_mul_right k hj
  have hrow := flatMap_get hke ll j y hy
  rw [← setL_flat hke ll j z hj]
  apply List.ext_getElem?
  intro q
  rw [setL_get _ _ _ _ (by rw [hke, hfl]; exact hjk), hke, hz]
  by_cases e : j * k + f = q
  · subst e
    rw [List.getElem?_set_self (by rw [hfl]; omega), if_pos ⟨by omega, by omega⟩, show j * k + f - j * k = f by omega, List.getElem?_set_self (by rw [hke]; exact hf)]
  · rw [List.getElem?_set_ne e]
    split
    · rename_i h1
      rw [List.getElem?_set_ne (by omega), ← hrow, List.getElem?_take_of_lt (by omega), List.getElem?_drop]
      congr 1
      omega
    · rfl
theorem OpR_storeSf {α : Type} {P : Program} {a : List AV} {h0 h : AH} {K : List AV → AH → Prop} {d : Option Nat} {L : List It} {enc : α → List AV} {l : List α} {T : TypeId} {x y : Operand} {b o n k o' : Nat} {c : Bool} {u : AV} {e : α} (z : α) (H : Loq h0 h L) (i j f : Nat) (hx : ev a x = some (.p b o')) (hy : ev a y = some u)
    (hi : L[i]? = some (.sl (.sl b o n c) k (l.flatMap enc))) (hs : szT P T = some 1) (hke : ∀ x, (enc x).length = k) (hk0 : 0 < k) (hj : l[j]? = some e) (hf : f < k) (ho : o' = o + j * k + f) (hz : enc z = (enc e).set f u) (hsc : u.sc = true)
    (hk : ∀ h', Loq h0 h' (L.set i (.sl (.sl b o n c) k ((l.set j z).flatMap enc))) → K (st a d un) h') : OpR P (.store T x y) d a h K := by
  have hO := H.ownI i hi hke hk0
  have hnl : n = l.length := by have := hO.rd.len; simpa [lenA] using this
  have hjl := (List.getElem?_eq_some_iff.1 hj).1
  have hu1 := cells1 hsc
  rcases hO.own with e' | ⟨b', o1, c1, m, row, g1, g2, g3, g4, g5, g6, g7, g8⟩
  · cases e'
  · cases g1
    subst ho
    have hik : j * k + k ≤ l.length * k := by rw [← Nat.succ_mul]; exact Nat.mul_le_mul_right k hjl
    have hdrop : row.drop o = l.flatMap enc := by
      obtain ⟨r, e1, e2, e3, e4⟩ := row_get (hO.rd.rowG rfl).2
      rw [g6] at e1; cases e1
      rw [e3]
      exact (List.take_of_length_le (by simp; omega)).symm
    refine OpR_store hx hy (by rw [hu1]; exact hs) (by rw [hu1]; simp [hsc]) g3 g4 g6 (by rw [hu1]; simp; omega) (hk _ (H.put hi rfl ⟨g2, m, g3, g4, g5, g6, g8⟩ g3 rfl rfl fun h' B => .inr ⟨b, o, _, c, setL row (o + j * k + f) u.cells, rfl, ?_, B, ?_, ?_⟩))
    · rw [flatMap_len hke, List.length_set]
    · rw [setL_length, flatMap_len hke, List.length_set]; omega
    · rw [hu1]
      show (row.set (o + j * k + f) u).drop o = _
      rw [List.drop_set, if_neg (by omega), hdrop, show o + j * k + f - o = j * k + f by omega, flat_set hke hj hf hz]
theorem LS_sf {α : Type} {P : Program} {a : List AV} {h0 : AH} {d : Option Nat} {L : List It} {Q : Exit → List AV → List It → Prop} {l : List IOp} {enc : α → List AV} {ll : List α} {T : TypeId} {x y : Operand} {b o n k o' : Nat} {c : Bool} {u : AV} {e : α} [i1 : Tsz P T 1] (z : α) (i j f : Nat) (hi : L[i]? = some (.sl (.sl b o n c) k (ll.flatMap enc)))
    (hj : ll[j]? = some e) (hf : f < k) (ho : o' = o + j * k + f) (hz : enc z = (enc e).set f u) (hke : ∀ x, (enc x).length = k) (hk0 : 0 < k) (hsc : u.sc = true) (hx : ev a x = some (.p b o')) (hy : ev a y = some u)
    (H : LS P h0 (L.set i (.sl (.sl b o n c) k ((ll.set j z).flatMap enc))) l Q (st a d un)) : LS P h0 L (⟨d, .store T x y, none⟩ :: l) Q a :=
  LS_o fun h HL => OpR_storeSf z HL i j f hx hy hi i1.e hke hk0 hj hf ho hz hsc fun h' HL' => ⟨_, HL', H⟩
theorem LX_is {F : FK} {L0 : List It} {lx : Tr (IOp × Kd)} {g : Option (Nat × Bool)} {T e : TypeId} {x ix : Operand} {b o n k : Nat} {cc : Bool} {kk : IntKind} {j : Int} [i1 : Tsl P T e] [i2 : Tsz P e k] (h0' : 0 ≤ j) (h1 : j < n) (hx : ev a x = some (.sl b o n cc)) (hi : ev a ix = some (.i kk j))
    (hg : ∀ gg want, g = some (gg, want) → a[gg]? = some (.b want)) (H : LX P F h0 L0 L lx Q (st a d (.p b (o + j.toNat * k)))) : LX P F h0 L0 L (.c (⟨d, .indexAddr T x ix, g⟩, .p) lx) Q a := LX_v hg (OpV_indexAddr i1.e i2.e hx hi h0' h1) H
theorem LS_gyH {op : Op} {g : Nat} {t want : Bool} (hv : a[g]? = some (.b t)) (ht : t = want) (H : t = want → LS P h0 L (⟨d, op, none⟩ :: l) Q a) : LS P h0 L (⟨d, op, some (g, want)⟩ :: l) Q a := LS_gy hv ht (H ht)
theorem LS_gtnH {op : Op} {g : Nat} {t : Bool} (hv : a[g]? = some (.b t)) (ht : t = false) (H : t = false → LS P h0 L l Q (st a d un)) : LS P h0 L (⟨d, op, some (g, true)⟩ :: l) Q a := LS_gtn hv ht (H ht)
theorem LS_gfnH {op : Op} {g : Nat} {t : Bool} (hv : a[g]? = some (.b t)) (ht : t = true) (H : t = true → LS P h0 L l Q (st a d un)) : LS P h0 L (⟨d, op, some (g, false)⟩ :: l) Q a := LS_gfn hv ht (H ht)
theorem LI_cond_tH {x y : IC} {cn : Operand} {t : Bool} (hc : ev a cn = some (.b t)) (ht : t = true) (H : t = true → LI P h0 L x Q a) : LI P h0 L (.cond cn x y) Q a := LI_cond_t hc ht (H ht)
theorem LI_cond_fH {x y : IC} {cn : Operand} {t : Bool} (hc : ev a cn = some (.b t)) (ht : t = false) (H : t = false → LI P h0 L y Q a) : LI P h0 L (.cond cn x y) Q a := LI_cond_f hc ht (H ht)
theorem LS_cq {f : Operand} {args : Array Operand} {ts : Array TypeId} {g : FuncId} {caps vs : List AV} {X : AV → Prop} (hc : ∀ h, Loq h0 h L → h.wf → AC P g (vs ++ caps) h (fun r h' => X r ∧ h.le h')) (hf : ev a f = some (.f g caps)) (ha : evs a args.toList = some vs)
    (H : ∀ r, X r → LS P h0 L l Q (st a d r)) : LS P h0 L (⟨d, .call { callee := .value f, args := args, argTypes := ts }, none⟩ :: l) Q a :=
  fun h HL => AS_op (OpR_call hf ha (hc h HL HL.wf) fun v h' wf ⟨hx, hle⟩ => H v hx h' (HL.le' wf hle))
theorem LX_cq {F : FK} {L0 : List It} {lx : Tr (IOp × Kd)} {g : Option (Nat × Bool)} {f : Operand} {args : Array Operand} {ts : Array TypeId} {gf : FuncId} {caps vs : List AV} {X : AV → Prop} (hc : ∀ h, Loq h0 h L → h.wf → AC P gf (vs ++ caps) h.frz (fun r h' => X r ∧ h.frz.le h')) (hf : ev a f = some (.f gf caps)) (ha : evs a args.toList = some vs)
    (hg : ∀ gg want, g = some (gg, want) → a[gg]? = some (.b want)) (H : ∀ r, X r → LX P F h0 L0 L lx Q (st a d r)) : LX P F h0 L0 L (.c (⟨d, .call { callee := .value f, args := args, argTypes := ts }, g⟩, .e) lx) Q a := fun hs h H0 HL =>
  AXz_e (X := fun a' M => ∃ r, X r ∧ a' = st a d r ∧ M = []) hg (OpR_call hf ha (hc h HL HL.wf) fun r h' wf ⟨e1, e2⟩ => ⟨[], Loq.nil' (frz_wf HL.wf) e2 wf, r, e1, rfl, rfl⟩) fun a' M h' ⟨r, e0, e1, e2⟩ G => by subst e1; subst e2; exact H r e0 hs h' H0 (by simpa using HL.call G)
theorem LS_have {q : Prop} (hq : ∀ h, Loq h0 h L → q) (H : q → LS P h0 L l Q a) : LS P h0 L l Q a := fun h HL => H (hq h HL) h HL
theorem LI_have {q : Prop} (hq : ∀ h, Loq h0 h L → q) (H : q → LI P h0 L c Q a) : LI P h0 L c Q a := fun h HL => H (hq h HL) h HL
theorem LIL_have {q : Prop} (hq : ∀ h, Loq h0 h L → q) (H : q → LIL P h0 L c Q a) : LIL P h0 L c Q a := fun h HL => H (hq h HL) h HL
theorem LX_have {F : FK} {L0 : List It} {lx : Tr (IOp × Kd)} {q : Prop} (hq : ∀ h, Loq h0 h L → q) (H : q → LX P F h0 L0 L lx Q a) : LX P F h0 L0 L lx Q a := fun hs h H0 HL => H (hq h HL) hs h H0 HL
theorem LS_rot (k : Nat) {x : It} (hx : L[k]? = some x) (H : LS P h0 (x :: L.eraseIdx k) l Q a) : LS P h0 L l Q a := LS_perm (perm_erase L k x hx) H
theorem LI_rot (k : Nat) {x : It} (hx : L[k]? = some x) (H : LI P h0 (x :: L.eraseIdx k) c Q a) : LI P h0 L c Q a := LI_perm (perm_erase L k x hx) H
end
theorem rep_get (cs : List AV) (k : Nat) (hk : 0 < k) (hc : cs.length = k) : ∀ (n j : Nat) (v : AV), ((List.replicate n cs).flatten)[j]? = some v → j < n * k ∧ cs[j % k]? = some v
  | 0, j, v, h => by simp at h
  | n + 1, j, v, h => by
    rw [List.replicate_succ, List.flatten_cons] at h
    by_cases hj : j < k
    · rw [List.getElem?_append_left (by omega)] at h
      rw [Nat.mod_eq_of_lt hj]
      exact ⟨by rw [Nat.succ_mul]; omega, h⟩
    · rw [List.getElem?_append_right (by omega), hc] at h
      obtain ⟨h1, h2⟩ := rep_get cs k hk hc n (j - k) v h
      refine ⟨by rw [Nat.succ_mul]; omega, ?_⟩
      rw [Nat.mod_eq_sub_mod (by omega)]
      exact h2
theorem rep_len (cs : List AV) (k : Nat) (hc : cs.length = k) : ∀ n, ((List.replicate n cs).flatten).length = n * k
  | 0 => by simp
  | n + 1 => by rw [List.replicate_succ, List.flatten_cons, List.length_append, rep_len cs k hc n, hc, Nat.succ_mul]; omega
theorem rep_all (cs : List AV) (hc : cs.all AV.sc = true) : ∀ n, ((List.replicate n cs).flatten).all AV.sc = true
  | 0 => by simp
  | n + 1 => by rw [List.replicate_succ, List.flatten_cons, List.all_append, hc, rep_all cs hc n]; rfl
theorem rep_flat {α : Type} {enc : α → List AV} (zz : α) : ∀ n, (List.replicate n (enc zz)).flatten = (List.replicate n zz).flatMap enc
  | 0 => by simp
  | n + 1 => by rw [List.replicate_succ, List.flatten_cons, List.replicate_succ, List.flatMap_cons, rep_flat zz n]
section
variable {P : Program} {a : List AV} {h0 h : AH} {K : List AV → AH → Prop} {d : Option Nat} {L : List It} {Q : Exit → List AV → List It → Prop} {l : List IOp}
theorem OpR_makeN {T e : TypeId} {x y : Operand} {n m : Int} {z : AV} {bytes k : Nat} (hT : P.underlying T = some (.slice e)) (hs : szT P e = some k) (hb : byT P e = some bytes) (hz : zeroA P e = some z) (hzk : z.cells.length = k) (hk0 : 0 < k) (hzs : z.cells.all AV.sc = true)
    (hx : ev a x = some (.i .i64 n)) (hy : ev a y = some (.i .i64 m)) (hnm : m = n) (h0 : 0 ≤ n) (h1 : n * bytes ≤ 140737488355328) (h2 : n ≤ 9223372036854775807) (hk : K (st a d (.sl h.cs.length 0 n.toNat true)) (h.new k (List.replicate n.toNat z.cells).flatten)) : OpR P (.makeSlice T x y) d a h K :=
  OpR_new k (List.replicate n.toNat z.cells).flatten (fun base w0 ι w ca hrep hr o ho => by
    subst hnm
    obtain ⟨zv, hzr, hzv⟩ := run_zeroA hz ι w
    have e1 := rel_i (ev_rel hr hx)
    have e2 := rel_i (ev_rel hr hy)
    have hzl := hzv.cells.length
    simp only [Array.length_toList] at hzl
    have hw : IntKind.i64.wrap m = m := IntWalk.i64_in m ⟨by omega, h2⟩
    have hby : ∃ i, P.info? e = some i ∧ i.bytes = bytes := by
      unfold byT at hb
      cases hi : P.info? e with
      | none => rw [hi] at hb; simp at hb
      | some i => rw [hi] at hb; simp at hb; exact ⟨i, rfl, hb⟩
    obtain ⟨i, hi, hib⟩ := hby
    have hrl := rep_len z.cells k hzk m.toNat
    have hrel : VRels ι (List.replicate m.toNat z.cells).flatten ((Array.range (m.toNat * k)).map (fun i => zv.cells[i % zv.cells.size]!)).toList := by
      refine VRels.of_get (by rw [hrl]; simp) fun j v c hv hc => ?_
      obtain ⟨g1, g2⟩ := rep_get z.cells k hk0 hzk _ _ _ hv
      obtain ⟨c', g3, g4⟩ := hzv.cells.get g2
      have hcs : zv.cells.size = k := by omega
      have hjk : j % k < zv.cells.size := by rw [hcs]; exact Nat.mod_lt _ hk0
      simp only [Array.toList_map, List.getElem?_map, Array.toList_range, List.getElem?_range g1, Option.map_some, Option.some.injEq] at hc
      rw [hcs] at hc
      have : zv.cells[j % k]! = c' := by
        rw [getElem!_pos zv.cells (j % k) hjk]
        simp only [Array.getElem?_toList] at g3
        rw [Array.getElem?_eq_getElem hjk] at g3
        exact Option.some.inj g3
      rw [← hc, this]
      exact g4
    refine ⟨rep_all _ hzs _, (Array.range (m.toNat * k)).map (fun i => zv.cells[i % zv.cells.size]!), e, .slice (some ⟨w.heap.size, 0, none⟩) m.toNat m.toNat, ?_, by rw [hrl]; simp, ?_, ?_⟩
    · rw [List.take_of_length_le (by rw [hrl]; simp)]
      exact hrel
    · have ht : ¬ (m < 0) := by omega
      have ht2 : ¬ (281474976710656 < (bytes : Int) * m) := by rw [Int.mul_comm]; omega
      unfold execOp
      simp only [ho, Instr.makeSlice, Sem.run_bind, run_underlying hT, Result.andThen_ok, e1, e2, asInt, asIntOf, Sem.run_pure, typeInfo, run_program, hi, hw]
      have hroom : ¬ (m.toNat * bytes > roomBytes) := by
        have e9 : ((m.toNat * bytes : Nat) : Int) = m * bytes := by rw [Int.natCast_mul, Int.toNat_of_nonneg h0]
        have e10 : roomBytes = 140737488355328 := rfl
        rw [e10]
        generalize m.toNat * bytes = q at e9 ⊢
        generalize m * (bytes : Int) = r at e9 h1
        omega
      simp [hib, ht, ht2, askRoom, hroom]
      by_cases hm0 : m.toNat = 0
      · have hz0 : ∀ f : Nat → Value, Array.map f (Array.range 0) = #[] := fun f => Array.eq_empty_of_size_eq_zero (by simp)
        simp [hm0, run_sizeOf_sz hs, newRow, hz0]
      · simp [hm0, run_sizeOf_sz hs, hzr, newRow]
        intro e
        rcases Nat.mul_eq_zero.1 e with e | e <;> omega
    · exact .sl h.cs.length 0 _ true _ _ m.toNat (new_pl hrep _) (Nat.le_refl _) (fun _ => rfl) (.inr ⟨rfl, by simp⟩)) hk
theorem LS_mk2 {α : Type} {enc : α → List AV} {T e : TypeId} {x y : Operand} {n m : Int} {z : AV} {bytes k : Nat} (zz : α) [i1 : Tsl P T e] [i2 : Tsz P e k] [i4 : Tby P e bytes] [i3 : Tze P e z] (hzk : z.cells.length = k) (hk0 : 0 < k) (hzs : z.cells.all AV.sc = true)
    (hx : ev a x = some (.i .i64 n)) (hy : ev a y = some (.i .i64 m)) (hnm : m = n) (h0' : 0 ≤ n) (h1 : n * bytes ≤ 140737488355328) (h2 : n ≤ 9223372036854775807) (hke : ∀ x, (enc x).length = k) (hzz : enc zz = z.cells)
    (H : ∀ b, LS P h0 (.sl (.sl b 0 n.toNat true) k ((List.replicate n.toNat zz).flatMap enc) :: L) l Q (st a d (.sl b 0 n.toNat true))) : LS P h0 L (⟨d, .makeSlice T x y, none⟩ :: l) Q a :=
  LS_o fun h HL => OpR_makeN i1.e i2.e i4.e i3.e hzk hk0 hzs hx hy hnm h0' h1 h2 ⟨_, HL.newS hke (List.replicate n.toNat zz) true (by rw [← hzz]; exact rep_flat zz _) (by simp), H _⟩
theorem LS_ltV {T e : TypeId} {x : Operand} {v z : AV} [i1 : Tsl P T e] [i2 : Tsz P e 1] [i3 : Tze P e z] (hzk : z.cells.length = 1) (hzs : z.cells.all AV.sc = true) (hv : v.sc = true) (hx : ev a x = some v)
    (H : ∀ w, lenA w = some 1 → w.sc = true → LS P h0 (.sl w 1 ([v].flatMap enV) :: L) l Q (st a d w)) : LS P h0 L (⟨d, .buildSlice T 1 #[(0, x)], none⟩ :: l) Q a :=
  LS_lt (k := 1) (enc := enV) (cs := [v]) (ps := [(0, v)]) [v] hzk hzs (by decide) (by simp [evps, hx]) (by simp [litA, cells1 hv, hv]) rfl rfl enV1 rfl rfl H
theorem LX_ltV {F : FK} {L0 : List It} {lx : Tr (IOp × Kd)} {g : Option (Nat × Bool)} {T e : TypeId} {x : Operand} {v z : AV} [i1 : Tsl P T e] [i2 : Tsz P e 1] [i3 : Tze P e z] (hzk : z.cells.length = 1) (hzs : z.cells.all AV.sc = true) (hv : v.sc = true) (hx : ev a x = some v) (hg : ∀ gg want, g = some (gg, want) → a[gg]? = some (.b want))
    (H : ∀ w, lenA w = some 1 → w.sc = true → LX P F h0 L0 (.sl w 1 ([v].flatMap enV) :: L) lx Q (st a d w)) : LX P F h0 L0 L (.c (⟨d, .buildSlice T 1 #[(0, x)], g⟩, .e) lx) Q a :=
  LX_lt (k := 1) (enc := enV) (cs := [v]) (ps := [(0, v)]) [v] hzk hzs (by decide) (by simp [evps, hx]) (by simp [litA, cells1 hv, hv]) rfl rfl enV1 rfl rfl hg H
end
end Go.AL
