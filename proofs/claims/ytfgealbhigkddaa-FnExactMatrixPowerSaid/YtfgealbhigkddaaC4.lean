/- The logic of what is owned, part 4: further rules; the text for regions. -/
import Derived.Test.YtfgealbhigkddaaC3
namespace Go.AL
set_option linter.unusedVariables false
set_option linter.unusedSimpArgs false
open Go.RowKit
section
variable {P : Program} {h0 : AH} {L : List It} {Q : Exit → List AV → List It → Prop} {X : List AV → List It → Prop} {a : List AV} {l : List IOp} {d : Option Nat}
theorem sl_of {v : AV} {n : Nat} (h : lenA v = some n) (hn : 0 < n) : ∃ b o c, v = .sl b o n c := by
  cases v <;> simp [lenA] at h
  · subst h; exact ⟨_, _, _, rfl⟩
  · omega
/-- An element's address in a slice whose place is known. -/
theorem LS_is {T e : TypeId} {x ix : Operand} {b o n k : Nat} {c : Bool} {kk : IntKind} {j : Int} [i1 : Tsl P T e] [i2 : Tsz P e k] (h0' : 0 ≤ j) (h1 : j < n) (hx : ev a x = some (.sl b o n c)) (hi : ev a ix = some (.i kk j)) (H : LS P h0 L l Q (st a d (.p b (o + j.toNat * k)))) :
    LS P h0 L (⟨d, .indexAddr T x ix, none⟩ :: l) Q a := LS_v (OpV_indexAddr i1.e i2.e hx hi h0' h1) H
/-- An element is written. -/
theorem LO_ss {α : Type} {enc : α → List AV} {ll : List α} {T : TypeId} {x y : Operand} {b o n k o' : Nat} {c : Bool} {u : AV} [i1 : Tsz P T k] (z : α) (i j : Nat) (hi : L[i]? = some (.sl (.sl b o n c) k (ll.flatMap enc))) (hj : j < ll.length) (ho : o' = o + j * k) (hv : u.cells = enc z) (hke : ∀ x, (enc x).length = k) (hk0 : 0 < k)
    (hsc : u.cells.all AV.sc = true) (hx : ev a x = some (.p b o')) (hy : ev a y = some u) (H : X (st a d un) (L.set i (.sl (.sl b o n c) k ((ll.set j z).flatMap enc)))) : LO P h0 L (.store T x y) d X a :=
  fun h HL => OpR_storeS z HL i j hx hy hi i1.e hke hk0 hj ho hv hsc fun h' HL' => ⟨_, HL', H⟩
theorem LS_ss {α : Type} {enc : α → List AV} {ll : List α} {T : TypeId} {x y : Operand} {b o n k o' : Nat} {c : Bool} {u : AV} [i1 : Tsz P T k] (z : α) (i j : Nat) (hi : L[i]? = some (.sl (.sl b o n c) k (ll.flatMap enc))) (hj : j < ll.length) (ho : o' = o + j * k) (hv : u.cells = enc z) (hke : ∀ x, (enc x).length = k) (hk0 : 0 < k)
    (hsc : u.cells.all AV.sc = true) (hx : ev a x = some (.p b o')) (hy : ev a y = some u) (H : LS P h0 (L.set i (.sl (.sl b o n c) k ((ll.set j z).flatMap enc))) l Q (st a d un)) : LS P h0 L (⟨d, .store T x y, none⟩ :: l) Q a :=
  LS_o (LO_ss z i j hi hj ho hv hke hk0 hsc hx hy H)
/-- A cut of a slice. -/
theorem LS_sl {T e : TypeId} {x : Operand} {lo hi : Option Operand} {b off len k q u : Nat} {c : Bool} [i1 : Tsl P T e] [i2 : Tsz P e k] (hx : ev a x = some (.sl b off len c)) (hlo : SB a lo 0 q) (hhi : SB a hi len u) (h1 : q ≤ u) (h2 : u ≤ len) (hbk : ∀ h, Loq h0 h L → (h.mt[b]?).map (·.k) = some k)
    (H : LS P h0 L l Q (st a d (.sl b (off + q * k) (u - q) (c && hi.isNone)))) : LS P h0 L (⟨d, .slice T x lo hi none, none⟩ :: l) Q a := fun h HL => AS_op (OpR_slice i1.e i2.e hx hlo hhi h1 h2 (hbk h HL) (H h HL))
theorem flatMap_dt {α : Type} {k : Nat} {enc : α → List AV} (hke : ∀ x, (enc x).length = k) : ∀ (ll : List α) (q u : Nat), q ≤ u → u ≤ ll.length → ((ll.flatMap enc).drop (q * k)).take ((u - q) * k) = ((ll.take u).drop q).flatMap enc
  | [], q, u, h1, h2 => by simp
  | x :: ll, 0, 0, h1, h2 => by simp
  | x :: ll, 0, u + 1, h1, h2 => by
    have ih := flatMap_dt hke ll 0 u (by omega) (by simpa using h2)
    simp only [Nat.zero_mul, List.drop_zero, Nat.sub_zero] at ih ⊢
    rw [List.flatMap_cons, List.take_succ_cons, List.flatMap_cons, ← ih, Nat.succ_mul, Nat.add_comm, ← hke x, List.take_length_add_append]
  | x :: ll, q + 1, u + 1, h1, h2 => by
    have ih := flatMap_dt hke ll q u (by omega) (by simpa using h2)
    rw [List.flatMap_cons, List.take_succ_cons, List.drop_succ_cons, ← ih, Nat.succ_mul, Nat.add_comm (q * k), ← hke x, List.drop_length_add_append, Nat.add_sub_add_right]
theorem RdG.cut {α : Type} {k : Nat} {enc : α → List AV} {h : AH} {b off n q u : Nat} {c c' : Bool} {ll : List α} (H : RdG k enc h (.sl b off n c) ll) (hke : ∀ x, (enc x).length = k) (h1 : q ≤ u) (h2 : u ≤ n) : RdG k enc h (.sl b (off + q * k) (u - q) c') ((ll.take u).drop q) := by
  rcases H.rd with e | ⟨b', o', c1, e, h3, h4⟩
  · cases e
  · cases e
    have hlen : ((ll.take u).drop q).length = u - q := by simp; omega
    refine ⟨by simp [lenA, hlen], .inr ⟨b, off + q * k, c', by rw [hlen], ?_, h4⟩⟩
    rw [hlen]
    have hle : q * k + (u - q) * k ≤ ll.length * k := by rw [← Nat.add_mul]; exact Nat.mul_le_mul_right k (by omega)
    rw [row_sub h3 hle, flatMap_dt hke ll q u h1 h2]
/-- A cut of a slice, by what it reads. -/
theorem LS_sr {α : Type} {enc : α → List AV} {T e : TypeId} {x : Operand} {lo hi : Option Operand} {v : AV} {k q u : Nat} {ll : List α} [i1 : Tsl P T e] [i2 : Tsz P e k] (hR : ∀ h, Loq h0 h L → RdG k enc h v ll) (hke : ∀ x, (enc x).length = k) (hlo : SB a lo 0 q) (hhi : SB a hi ll.length u) (h1 : q ≤ u) (h2 : u ≤ ll.length) (h3 : 0 < ll.length)
    (hx : ev a x = some v) (H : ∀ w, lenA w = some (u - q) → w.sc = true → (∀ h, RdG k enc h v ll → RdG k enc h w ((ll.take u).drop q)) → LS P h0 L l Q (st a d w)) : LS P h0 L (⟨d, .slice T x lo hi none, none⟩ :: l) Q a := fun h HL => by
  have hR0 := hR h HL
  rcases hR0.rd with rfl | ⟨b, o, c, rfl, g1, g2⟩
  · have := hR0.len; simp [lenA] at this; omega
  · exact LS_sl hx hlo hhi h1 h2 (fun h HL => by
      rcases (hR h HL).rd with e | ⟨b', o', c', e, _, g⟩
      · cases e
      · cases e; exact g) (H _ rfl rfl fun h' hR' => hR'.cut hke h1 h2) h HL
/-- An append of a slice that may have no elements. -/
theorem LO_ap0 {α : Type} {k : Nat} {enc : α → List AV} {T e : TypeId} {x y : Operand} {v u : AV} {ll l' : List α} {bytes : Nat} {z : AV} [i1 : Tsl P T e] [i2 : Tsz P e k] [i4 : Tby P e bytes] [i3 : Tze P e z] (i : Nat) (hi : L[i]? = some (.sl v k (ll.flatMap enc))) (hR : ∀ h, Loq h0 h L → RdG k enc h u l')
    (hke : ∀ x, (enc x).length = k) (hk0 : 0 < k) (hbd : (ll.length + l'.length) * bytes ≤ 140737488355328) (hbd2 : ll.length + l'.length ≤ 4611686018427387904) (hzl : z.cells.length = k)
    (hx : ev a x = some v) (hy : ev a y = some u) (H : ∀ w, lenA w = some (ll ++ l').length → w.sc = true → X (st a d w) (L.set i (.sl w k ((ll ++ l').flatMap enc)))) :
    LO P h0 L (.call { callee := .builtin .append, args := #[x, y], argTypes := #[T, T] }) d X a := by
  intro h HL
  by_cases hne : l' = []
  · have hR' := hR h HL
    have hv := HL.rdI i hi hke hk0
    have hil : i < L.length := (List.getElem?_eq_some_iff.1 hi).1
    have hLi : L.set i (.sl v k (ll.flatMap enc)) = L := by
      apply List.ext_getElem?
      intro j
      by_cases e : i = j
      · subst e; rw [List.getElem?_set_self hil, hi]
      · rw [List.getElem?_set_ne e]
    have hk := H v (by rw [hne, List.append_nil]; exact hv.len) (by rcases hv.rd with rfl | ⟨b, o, c, rfl, _⟩ <;> rfl)
    rw [hne, List.append_nil, hLi] at hk
    refine OpR_append_none i1.e i2.e hx (hv.rd.imp id fun ⟨b, o, c, e, _⟩ => ⟨b, o, _, c, e⟩) hy ?_ ⟨L, HL, hk⟩
    rcases hR'.rd with e | ⟨b, o, c, e, _⟩
    · exact .inl e
    · exact .inr ⟨b, o, c, by rw [e, hne]; rfl⟩
  · exact LO_ap i hi hR hke hk0 hne hbd hbd2 hzl hx hy H h HL
theorem LS_ap0 {α : Type} {k : Nat} {enc : α → List AV} {T e : TypeId} {x y : Operand} {v u : AV} {ll l' : List α} {bytes : Nat} {z : AV} [i1 : Tsl P T e] [i2 : Tsz P e k] [i4 : Tby P e bytes] [i3 : Tze P e z] (i : Nat) (hi : L[i]? = some (.sl v k (ll.flatMap enc))) (hR : ∀ h, Loq h0 h L → RdG k enc h u l')
    (hke : ∀ x, (enc x).length = k) (hk0 : 0 < k) (hbd : (ll.length + l'.length) * bytes ≤ 140737488355328) (hbd2 : ll.length + l'.length ≤ 4611686018427387904) (hzl : z.cells.length = k)
    (hx : ev a x = some v) (hy : ev a y = some u) (H : ∀ w, lenA w = some (ll ++ l').length → w.sc = true → LS P h0 (L.set i (.sl w k ((ll ++ l').flatMap enc))) l Q (st a d w)) :
    LS P h0 L (⟨d, .call { callee := .builtin .append, args := #[x, y], argTypes := #[T, T] }, none⟩ :: l) Q a := LS_o (LO_ap0 i hi hR hke hk0 hbd hbd2 hzl hx hy H)
/-- 'var xs []T': a slice that is nil is owned. -/
theorem LI_nil {c : IC} {k : Nat} (H : LI P h0 (.sl .ns k [] :: L) c Q a) : LI P h0 L c Q a := fun h HL => H h (HL.cons (.inl ⟨rfl, rfl⟩) fun y hy b e => by cases e)
theorem LS_nl {k : Nat} (H : LS P h0 (.sl .ns k [] :: L) l Q a) : LS P h0 L l Q a := fun h HL => H h (HL.cons (.inl ⟨rfl, rfl⟩) fun y hy b e => by cases e)
theorem LIL_nl {c : IC} {k : Nat} (H : LIL P h0 (.sl .ns k [] :: L) c Q a) : LIL P h0 L c Q a := fun h HL => H h (HL.cons (.inl ⟨rfl, rfl⟩) fun y hy b e => by cases e)
/-- From here on what is there counts as having stood before. -/
theorem LI_base {c : IC} (H : ∀ h1, Loq h0 h1 L → LI P h1 [] c (fun e a M => Q e a (M ++ L)) a) : LI P h0 L c Q a := fun h HL =>
  ((H h HL) h (Loq.nil HL.wf)).mono fun _ _ _ ⟨M, G, q⟩ => ⟨M ++ L, HL.call G, q⟩
end
/-! ### In a region -/
section
variable {P : Program} {F : List Nat} {h0 : AH} {L0 L : List It} {l : List (IOp × Kd)} {Q : Exit → List AV → List It → Prop} {a : List AV} {d : Option Nat} {op : Op} {g : Option (Nat × Bool)}
theorem isG' {a : List AV} {q : Nat} {t u : Bool} (h : a[q]? = some (.b u)) (hu : u = t) : ∀ (gg : Nat) (want : Bool), some (q, t) = some (gg, want) → a[gg]? = some (.b want) := by subst hu; exact isG h
theorem LX_ix {α : Type} {k : Nat} {enc : α → List AV} {T e : TypeId} {x ix : Operand} {v : AV} {ll : List α} {kk : IntKind} {n : Int} {y : α} [i : Tsl P T e] [j : Tsz P e k] (hR : ∀ h, Loq h0 h L0 → RdG k enc h v ll) (hke : ∀ x, (enc x).length = k) (hj : ll[n.toNat]? = some y) (hn : 0 ≤ n)
    (hx : ev a x = some v) (hi : ev a ix = some (.i kk n)) (hg : ∀ gg want, g = some (gg, want) → a[gg]? = some (.b want)) (H : ∀ b o, (∀ h, Loq h0 h L0 → h.row b o k = some (enc y)) → LX P F h0 L0 L l Q (st a d (.p b o))) : LX P F h0 L0 L ((⟨d, .indexAddr T x ix, g⟩, .p) :: l) Q a := by
  intro hs h H0 HL
  have hR0 := hR hs H0
  have hlt := (List.getElem?_eq_some_iff.1 hj).1
  rcases hR0.rd with rfl | ⟨b, o, c, rfl, _, _⟩
  · have := hR0.len; simp [lenA] at this; omega
  · refine LX_v hg (OpV_indexAddr i.e j.e hx hi hn (by omega)) (H b (o + n.toNat * k) fun h' HL' => ?_) hs h H0 HL
    have hrow := ((hR h' HL').rowG rfl).2
    have hle : n.toNat * k + k ≤ ll.length * k := by rw [← Nat.succ_mul]; exact Nat.mul_le_mul_right k hlt
    rw [row_sub hrow hle, flatMap_get hke ll n.toNat y hj]
theorem LX_l1 {T : TypeId} {x : Operand} {b o : Nat} {v : AV} {cs : List AV} [i : Tag P T false] (j : Nat) (hg : ∀ gg want, g = some (gg, want) → a[gg]? = some (.b want)) (hx : ev a x = some (.p b o)) (hi : L0[j]? = some (.pt b cs)) (hv : cs[o]? = some v) (H : LX P F h0 L0 L l Q (st a d v)) : LX P F h0 L0 L ((⟨d, .load T x, g⟩, .l) :: l) Q a :=
  LX_ld hg hx (fun _ HL => loadA_1 i.e (HL.cellP j hi hv)) H
theorem LX_lw {T : TypeId} {x : Operand} {b n : Nat} {cs : List AV} [i : Tag P T true] [k : Tsz P T n] (j : Nat) (hg : ∀ gg want, g = some (gg, want) → a[gg]? = some (.b want)) (hx : ev a x = some (.p b 0)) (hi : L0[j]? = some (.pt b cs)) (hn : cs.length = n) (H : LX P F h0 L0 L l Q (st a d (.agg cs))) : LX P F h0 L0 L ((⟨d, .load T x, g⟩, .l) :: l) Q a :=
  LX_ld hg hx (fun _ HL => loadA_n i.e k.e (HL.rowsP j hi (by omega) (by rw [List.drop_zero, ← hn, List.take_length]))) H
theorem LX_lb {T : TypeId} {x : Operand} {b o : Nat} {v : AV} [i : Tag P T false] (hg : ∀ gg want, g = some (gg, want) → a[gg]? = some (.b want)) (hx : ev a x = some (.p b o)) (hc : h0.cell b o = some v) (H : LX P F h0 L0 L l Q (st a d v)) : LX P F h0 L0 L ((⟨d, .load T x, g⟩, .l) :: l) Q a :=
  LX_ld hg hx (fun _ HL => loadA_1 i.e (HL.le.cell hc)) H
theorem LX_lbn {T : TypeId} {x : Operand} {b o n : Nat} {r : List AV} [i : Tag P T true] [k : Tsz P T n] (hg : ∀ gg want, g = some (gg, want) → a[gg]? = some (.b want)) (hx : ev a x = some (.p b o)) (hc : h0.row b o n = some r) (H : LX P F h0 L0 L l Q (st a d (.agg r))) : LX P F h0 L0 L ((⟨d, .load T x, g⟩, .l) :: l) Q a :=
  LX_ld hg hx (fun _ HL => loadA_n i.e k.e (HL.le.row hc)) H
theorem LX_le {T : TypeId} {x : Operand} {b o n : Nat} {r : List AV} [i : Tag P T true] [k : Tsz P T n] (hg : ∀ gg want, g = some (gg, want) → a[gg]? = some (.b want)) (hx : ev a x = some (.p b o)) (hr : ∀ h, Loq h0 h L0 → h.row b o n = some r) (H : LX P F h0 L0 L l Q (st a d (.agg r))) : LX P F h0 L0 L ((⟨d, .load T x, g⟩, .l) :: l) Q a :=
  LX_ld hg hx (fun h HL => loadA_n i.e k.e (hr h HL)) H
theorem LX_le1 {T : TypeId} {x : Operand} {b o : Nat} {v : AV} [i : Tag P T false] (hg : ∀ gg want, g = some (gg, want) → a[gg]? = some (.b want)) (hx : ev a x = some (.p b o)) (hr : ∀ h, Loq h0 h L0 → h.row b o 1 = some [v]) (H : LX P F h0 L0 L l Q (st a d v)) : LX P F h0 L0 L ((⟨d, .load T x, g⟩, .l) :: l) Q a :=
  LX_ld hg hx (fun h HL => loadA_1 i.e (cell_row (hr h HL))) H
theorem LX_lec {T : TypeId} {x : Operand} {b o j n : Nat} {v : AV} {r : List AV} [i : Tag P T false] (hg : ∀ gg want, g = some (gg, want) → a[gg]? = some (.b want)) (hx : ev a x = some (.p b (o + j))) (hr : ∀ h, Loq h0 h L0 → h.row b o n = some r) (hj : (decide (j < n)) = true) (hv : r[j]? = some v) (H : LX P F h0 L0 L l Q (st a d v)) : LX P F h0 L0 L ((⟨d, .load T x, g⟩, .l) :: l) Q a :=
  LX_ld hg hx (fun h HL => loadA_1 i.e (by rw [row_cell (hr h HL) (of_decide_eq_true hj)]; exact hv)) H
theorem OpV_bnP {op : BinOp} {T T' : TypeId} {x y : Operand} {k : IntKind} {m n : Int} {v : AV} (hx : ev a x = some (.i k m)) (hy : ev a y = some (.i k n)) (hv : binI op k m n = some v) (_ : isAr op k = false) : OpV P (.binOp op T x y T') a v := OpV_bin hx hy hv
theorem OpV_faP {S : TypeId} {x : Operand} {f o n b o' : Nat} {t : Bool} [i : Tfl P S f o n t] (hn : (n == 0) = false) (hx : ev a x = some (.p b o')) : OpV P (.fieldAddr S x f) a (.p b (o' + o)) := OpV_fieldAddr i.e (by simpa using hn) hx
theorem OpV_fdP {S : TypeId} {x : Operand} {f o n : Nat} {t : Bool} {cs : List AV} {v : AV} [i : Tfl P S f o n t] (hx : ev a x = some (.agg cs)) (hv : prt t cs o n = some v) : OpV P (.field S x f) a v := OpV_field i.e hx hv
theorem OpV_cvP {S D : TypeId} {x : Operand} {k k' : IntKind} {n : Int} [i : Tik P S k] [j : Tik P D k'] (hx : ev a x = some (.i k n)) : OpV P (.convert S D x) a (.i k' (k'.wrap n)) := OpV_conv i.e j.e hx
theorem OpV_bqP {op : BinOp} {T T' : TypeId} {x y : Operand} {t u : Bool} [i : Tbo P T] (hx : ev a x = some (.b t)) (hy : ev a y = some (.b u)) (z : Bool) (hop : (op = .eql ∧ z = (t == u)) ∨ (op = .neq ∧ z = (t != u))) : OpV P (.binOp op T x y T') a (.b z) := OpV_beq i.e hx hy z hop
theorem OpV_lnP {T e : TypeId} {x : Operand} {v : AV} {n : Nat} [i : Tsl P T e] (hx : ev a x = some v) (hn : lenA v = some n) : OpV P (.call { callee := .builtin .len, args := #[x], argTypes := #[T] }) a (.i .i64 n) := by
  cases v <;> simp [lenA] at hn
  · subst hn; exact OpV_len i.e hx
  · subst hn; exact OpV_len0 i.e hx
theorem OpV_lsP {T : TypeId} {x : Operand} {s : ByteArray} [i : Tst P T] (hx : ev a x = some (.s s)) : OpV P (.call { callee := .builtin .len, args := #[x], argTypes := #[T] }) a (.i .i64 s.size) := OpV_lens i.e hx
theorem OpV_bdP {T : TypeId} {parts : Array (Nat × Operand)} {pls : List (Nat × Nat)} {z cs : List AV} {ps : List (Nat × AV)} [i : Tpl P T pls] [j : Tze P T (.agg z)] (he : evps a parts.toList = some ps) (hf : fillA (pls[·]?) z ps = some cs) : OpV P (.build T parts) a (.agg cs) :=
  fun ι ca hr o ho => by
    have hp := i.e
    obtain ⟨ii, zv0, hi1, hi2, hi3⟩ := zeroA_out j.e
    have hzr : ∀ w, (zeroValue T).run P w = .ok zv0 w := fun w => by simp [zeroValue, typeInfo, hi1, hi2]
    have hzv : VRel ι (.agg z) zv0 := absV_rel hi3
    obtain ⟨zc, rfl, hzc, hzs⟩ : ∃ zc : Array Value, zv0 = .agg zc ∧ VRels ι z zc.toList ∧ z.all AV.sc = true := by
      cases hzv with | agg _ vs hs h => exact ⟨vs, rfl, h, hs⟩
    obtain ⟨cc, e1, e2, e3⟩ := fill_rel hr he hf hzc hzs
    refine ⟨.agg cc, fun w => ?_, .agg cs cc e3 e2⟩
    unfold plA at hp
    split at hp
    · rename_i fs hu
      have hm := mapM_places (P := P) w hp
      have e1' : Instr.fill (fun x => pls[x]?) zc (parts.toList.map fun (x : Nat × Operand) => (x.1, ca.eval x.2)) = some cc := e1
      have hmm : (fs.mapM (m := Sem) fun f => do pure (f.offset, ← sizeOf f.type)).run P w = .ok pls.toArray w := by
        rw [← Array.toArray_toList (xs := fs), List.mapM_toArray, map_eq_pure_bind, Sem.run_bind, hm]
        rfl
      unfold execOp
      simp only [ho, Instr.build, Sem.run_bind, hzr, Result.andThen_ok, run_underlying hu, hmm, Value.cells, Array.toList_map, List.getElem?_toArray, e1', Sem.run_pure]
    · cases hp
/-- What makes or calls, in a region. -/
theorem LX_lt {α : Type} {enc : α → List AV} {T e : TypeId} {n k : Nat} {parts : Array (Nat × Operand)} {z : AV} {ps : List (Nat × AV)} {cs : List AV} (ll : List α) [i1 : Tsl P T e] [i2 : Tsz P e k] [i3 : Tze P e z] (hzk : z.cells.length = k) (hzs : z.cells.all AV.sc = true)
    (hk0 : 0 < k) (he : evps a parts.toList = some ps) (hl : litA k 0 ps = some cs) (hn : ps.length = n) (hb : (decide (n * k ≤ 16777216)) = true) (hke : ∀ x, (enc x).length = k) (hrow : cs = ll.flatMap enc) (hnl : n = ll.length) (hg : ∀ gg want, g = some (gg, want) → a[gg]? = some (.b want))
    (H : ∀ w, lenA w = some n → w.sc = true → LX P F h0 L0 (.sl w k (ll.flatMap enc) :: L) l Q (st a d w)) : LX P F h0 L0 L ((⟨d, .buildSlice T n parts, g⟩, .e) :: l) Q a :=
  LX_e hg (fun h HL => LO_lt (X := fun a' M => ∃ w, lenA w = some n ∧ w.sc = true ∧ a' = st a d w ∧ M = [.sl w k (ll.flatMap enc)]) ll hzk hzs hk0 he hl hn hb hke hrow hnl fun w h1 h2 => ⟨w, h1, h2, rfl, rfl⟩) fun a' M ⟨w, h1, h2, e1, e2⟩ => by subst e1; subst e2; exact H w h1 h2
theorem LX_c0 {f : Operand} {args : Array Operand} {ts : Array TypeId} {gf : FuncId} {caps vs : List AV} {v : AV} (hc : ∀ h, Loq h0 h L → h.wf → AC P gf (vs ++ caps) h.frz (fun r h' => r = v ∧ h.frz.le h')) (hf : ev a f = some (.f gf caps)) (ha : evs a args.toList = some vs) (hg : ∀ gg want, g = some (gg, want) → a[gg]? = some (.b want))
    (H : LX P F h0 L0 L l Q (st a d v)) : LX P F h0 L0 L ((⟨d, .call { callee := .value f, args := args, argTypes := ts }, g⟩, .e) :: l) Q a := fun hs h H0 HL =>
  AXz_e (X := fun a' M => a' = st a d v ∧ M = []) hg (OpR_call hf ha (hc h HL HL.wf) fun r h' wf ⟨e1, e2⟩ => ⟨[], Loq.nil' (frz_wf HL.wf) e2 wf, by rw [e1], rfl⟩) fun a' M h' ⟨e1, e2⟩ G => by subst e1; subst e2; exact H hs h' H0 (by simpa using HL.call G)
theorem LX_c0' {f : Operand} {args : Array Operand} {ts : Array TypeId} {gf : FuncId} {caps vs : List AV} {v : AV} (hc : ∀ h, Loq h0 h L → h.wf → AC P gf (vs ++ caps) h.frz (fun r h' => r = v ∧ h.frz = h')) (hf : ev a f = some (.f gf caps)) (ha : evs a args.toList = some vs) (hg : ∀ gg want, g = some (gg, want) → a[gg]? = some (.b want))
    (H : LX P F h0 L0 L l Q (st a d v)) : LX P F h0 L0 L ((⟨d, .call { callee := .value f, args := args, argTypes := ts }, g⟩, .e) :: l) Q a :=
  LX_c0 (fun h HL wf => (hc h HL wf).mono fun r h' ⟨e1, e2⟩ => ⟨e1, by rw [e2]; exact .refl _⟩) hf ha hg H
theorem LX_c1 {f : Operand} {args : Array Operand} {ts : Array TypeId} {gf : FuncId} {caps vs : List AV} {Y : AV → List It → Prop} (hc : ∀ h, Loq h0 h L → h.wf → AC P gf (vs ++ caps) h.frz (fun r h' => ∃ M, Y r M ∧ Loq h.frz h' M)) (hf : ev a f = some (.f gf caps)) (ha : evs a args.toList = some vs) (hg : ∀ gg want, g = some (gg, want) → a[gg]? = some (.b want))
    (H : ∀ r M, Y r M → LX P F h0 L0 (M ++ L) l Q (st a d r)) : LX P F h0 L0 L ((⟨d, .call { callee := .value f, args := args, argTypes := ts }, g⟩, .e) :: l) Q a := fun hs h H0 HL =>
  AXz_e (X := fun a' M => ∃ r, Y r M ∧ a' = st a d r) hg (OpR_call hf ha (hc h HL HL.wf) fun r h' wf ⟨M, hY, G⟩ => ⟨M, G, r, hY, rfl⟩) fun a' M h' ⟨r, hY, e1⟩ G => by subst e1; exact H r M hY hs h' H0 (HL.call G)
theorem LX_co {α : Type} {k : Nat} {enc : α → List AV} {ll : List α} {f : Operand} {args : Array Operand} {ts : Array TypeId} {gf : FuncId} {caps vs : List AV} (hc : ∀ h, Loq h0 h L → h.wf → AC P gf (vs ++ caps) h.frz (fun r h' => Own h.frz k enc h' r ll)) (hke : ∀ x, (enc x).length = k) (hf : ev a f = some (.f gf caps)) (ha : evs a args.toList = some vs) (hg : ∀ gg want, g = some (gg, want) → a[gg]? = some (.b want))
    (H : ∀ w, lenA w = some ll.length → w.sc = true → LX P F h0 L0 (.sl w k (ll.flatMap enc) :: L) l Q (st a d w)) : LX P F h0 L0 L ((⟨d, .call { callee := .value f, args := args, argTypes := ts }, g⟩, .e) :: l) Q a :=
  LX_c1 (Y := fun r M => lenA r = some ll.length ∧ r.sc = true ∧ M = [.sl r k (ll.flatMap enc)]) (fun h HL wf => (hc h HL wf).mono fun r h' hO => ⟨[.sl r k (ll.flatMap enc)], ⟨hO.rd.len, by rcases hO.rd.rd with rfl | ⟨b, o, c, rfl, _⟩ <;> rfl, rfl⟩, hO.loc hke⟩) hf ha hg fun r M ⟨h1, h2, e⟩ => by subst e; exact H r h1 h2
theorem isX {k : Kd} (H : LX P F h0 L0 L ((⟨d, op, g⟩, k) :: l) Q a) : LX P F h0 L0 L ((⟨d, op, g⟩, k) :: l) Q a := H
theorem isXl {T : TypeId} {x : Operand} (H : LX P F h0 L0 L ((⟨d, .load T x, g⟩, .l) :: l) Q a) : LX P F h0 L0 L ((⟨d, .load T x, g⟩, .l) :: l) Q a := H
theorem isXp (H : LX P F h0 L0 L ((⟨d, op, g⟩, .p) :: l) Q a) : LX P F h0 L0 L ((⟨d, op, g⟩, .p) :: l) Q a := H
theorem isXf (H : LX P F h0 L0 L ((⟨d, op, g⟩, .f) :: l) Q a) : LX P F h0 L0 L ((⟨d, op, g⟩, .f) :: l) Q a := H
end
/-- All that goes of itself in a region. -/
theorem WX {G G' : Prop} (hk : G') (H : Hold G' → G := by
    intro hk
    repeat (first | ((first | (refine isXp ?_; first | refine LX_v (by first | exact noG | exact isG rfl | exact isG' rfl (by first | assumption | with_reducible rfl | decide)) (OpV_move rfl) ?_ | refine LX_v (by first | exact noG | exact isG rfl | exact isG' rfl (by first | assumption | with_reducible rfl | decide)) (OpV_assign rfl) ?_ | refine LX_v (by first | exact noG | exact isG rfl | exact isG' rfl (by first | assumption | with_reducible rfl | decide)) (OpV_faP rfl rfl) ?_ | refine LX_v (by first | exact noG | exact isG rfl | exact isG' rfl (by first | assumption | with_reducible rfl | decide)) (OpV_arith _ rfl rfl rfl (by omega) (by omega)) ?_ | refine LX_v (by first | exact noG | exact isG rfl | exact isG' rfl (by first | assumption | with_reducible rfl | decide)) (OpV_bnP rfl rfl rfl rfl) ?_ | refine LX_v (by first | exact noG | exact isG rfl | exact isG' rfl (by first | assumption | with_reducible rfl | decide)) (OpV_not rfl) ?_ | refine LX_v (by first | exact noG | exact isG rfl | exact isG' rfl (by first | assumption | with_reducible rfl | decide)) (OpV_extract rfl rfl) ?_ | refine LX_v (by first | exact noG | exact isG rfl | exact isG' rfl (by first | assumption | with_reducible rfl | decide)) (OpV_pick_t rfl (by first | assumption | with_reducible rfl | decide) rfl) ?_ | refine LX_v (by first | exact noG | exact isG rfl | exact isG' rfl (by first | assumption | with_reducible rfl | decide)) (OpV_pick_f rfl (by first | assumption | with_reducible rfl | decide) rfl) ?_ | refine LX_v (by first | exact noG | exact isG rfl | exact isG' rfl (by first | assumption | with_reducible rfl | decide)) (OpV_pick_b rfl rfl rfl) ?_ | refine LX_v (by first | exact noG | exact isG rfl | exact isG' rfl (by first | assumption | with_reducible rfl | decide)) (OpV_makeFunc rfl) ?_ | refine LX_v (by first | exact noG | exact isG rfl | exact isG' rfl (by first | assumption | with_reducible rfl | decide)) (OpV_nilCheck rfl) ?_ | refine LX_v (by first | exact noG | exact isG rfl | exact isG' rfl (by first | assumption | with_reducible rfl | decide)) (OpV_nilCheckF rfl) ?_ | refine LX_v (by first | exact noG | exact isG rfl | exact isG' rfl (by first | assumption | with_reducible rfl | decide)) (OpV_bqP rfl rfl _ (.inr ⟨rfl, rfl⟩)) ?_ | refine LX_v (by first | exact noG | exact isG rfl | exact isG' rfl (by first | assumption | with_reducible rfl | decide)) (OpV_bqP rfl rfl _ (.inl ⟨rfl, rfl⟩)) ?_ | refine LX_v (by first | exact noG | exact isG rfl | exact isG' rfl (by first | assumption | with_reducible rfl | decide)) (OpV_cvP rfl) ?_ | refine LX_v (by first | exact noG | exact isG rfl | exact isG' rfl (by first | assumption | with_reducible rfl | decide)) (OpV_fdP rfl rfl) ?_ | refine LX_v (by first | exact noG | exact isG rfl | exact isG' rfl (by first | assumption | with_reducible rfl | decide)) (OpV_bdP rfl rfl) ?_ | refine LX_v (by first | exact noG | exact isG rfl | exact isG' rfl (by first | assumption | with_reducible rfl | decide)) (OpV_lnP rfl (by assumption)) ?_ | refine LX_v (by first | exact noG | exact isG rfl | exact isG' rfl (by first | assumption | with_reducible rfl | decide)) (OpV_lnP rfl (RdG.len (by assumption))) ?_ | refine LX_v (by first | exact noG | exact isG rfl | exact isG' rfl (by first | assumption | with_reducible rfl | decide)) (OpV_lnP rfl (by with_reducible rfl)) ?_ | refine LX_v (by first | exact noG | exact isG rfl | exact isG' rfl (by first | assumption | with_reducible rfl | decide)) (OpV_lsP rfl) ?_ | refine LX_v (by first | exact noG | exact isG rfl | exact isG' rfl (by first | assumption | with_reducible rfl | decide)) (OpV_max rfl rfl) ?_ | refine LX_v (by first | exact noG | exact isG rfl | exact isG' rfl (by first | assumption | with_reducible rfl | decide)) (OpV_min rfl rfl) ?_) | (refine isXl ?_; first | refine LX_lb (by first | exact noG | exact isG rfl | exact isG' rfl (by first | assumption | with_reducible rfl | decide)) rfl (by assumption) ?_ | refine LX_le1 (by first | exact noG | exact isG rfl | exact isG' rfl (by first | assumption | with_reducible rfl | decide)) rfl (by assumption) ?_ | refine LX_le (by first | exact noG | exact isG rfl | exact isG' rfl (by first | assumption | with_reducible rfl | decide)) rfl (by assumption) ?_ | refine LX_lec (by first | exact noG | exact isG rfl | exact isG' rfl (by first | assumption | with_reducible rfl | decide)) rfl (by assumption) rfl rfl ?_ | refine LX_l1 0 (by first | exact noG | exact isG rfl | exact isG' rfl (by first | assumption | with_reducible rfl | decide)) rfl rfl rfl ?_ | refine LX_l1 1 (by first | exact noG | exact isG rfl | exact isG' rfl (by first | assumption | with_reducible rfl | decide)) rfl rfl rfl ?_ | refine LX_l1 2 (by first | exact noG | exact isG rfl | exact isG' rfl (by first | assumption | with_reducible rfl | decide)) rfl rfl rfl ?_ | refine LX_l1 3 (by first | exact noG | exact isG rfl | exact isG' rfl (by first | assumption | with_reducible rfl | decide)) rfl rfl rfl ?_ | refine LX_l1 4 (by first | exact noG | exact isG rfl | exact isG' rfl (by first | assumption | with_reducible rfl | decide)) rfl rfl rfl ?_ | refine LX_l1 5 (by first | exact noG | exact isG rfl | exact isG' rfl (by first | assumption | with_reducible rfl | decide)) rfl rfl rfl ?_ | refine LX_l1 6 (by first | exact noG | exact isG rfl | exact isG' rfl (by first | assumption | with_reducible rfl | decide)) rfl rfl rfl ?_ | refine LX_lw 0 (by first | exact noG | exact isG rfl | exact isG' rfl (by first | assumption | with_reducible rfl | decide)) rfl rfl rfl ?_ | refine LX_lw 1 (by first | exact noG | exact isG rfl | exact isG' rfl (by first | assumption | with_reducible rfl | decide)) rfl rfl rfl ?_ | refine LX_lw 2 (by first | exact noG | exact isG rfl | exact isG' rfl (by first | assumption | with_reducible rfl | decide)) rfl rfl rfl ?_ | refine LX_lw 3 (by first | exact noG | exact isG rfl | exact isG' rfl (by first | assumption | with_reducible rfl | decide)) rfl rfl rfl ?_ | refine LX_lw 4 (by first | exact noG | exact isG rfl | exact isG' rfl (by first | assumption | with_reducible rfl | decide)) rfl rfl rfl ?_ | refine LX_lw 5 (by first | exact noG | exact isG rfl | exact isG' rfl (by first | assumption | with_reducible rfl | decide)) rfl rfl rfl ?_ | refine LX_lw 6 (by first | exact noG | exact isG rfl | exact isG' rfl (by first | assumption | with_reducible rfl | decide)) rfl rfl rfl ?_ | refine LX_lbn (by first | exact noG | exact isG rfl | exact isG' rfl (by first | assumption | with_reducible rfl | decide)) rfl (by assumption) ?_) | (refine isXf ?_; first | (refine LX_f (by first | exact noG | exact isG rfl | exact isG' rfl (by first | assumption | with_reducible rfl | decide)) (LO_s1 0 rfl rfl rfl (by first | rfl | assumption) rfl ?_)) | (refine LX_f (by first | exact noG | exact isG rfl | exact isG' rfl (by first | assumption | with_reducible rfl | decide)) (LO_s1 1 rfl rfl rfl (by first | rfl | assumption) rfl ?_)) | (refine LX_f (by first | exact noG | exact isG rfl | exact isG' rfl (by first | assumption | with_reducible rfl | decide)) (LO_s1 2 rfl rfl rfl (by first | rfl | assumption) rfl ?_)) | (refine LX_f (by first | exact noG | exact isG rfl | exact isG' rfl (by first | assumption | with_reducible rfl | decide)) (LO_s1 3 rfl rfl rfl (by first | rfl | assumption) rfl ?_)) | (refine LX_f (by first | exact noG | exact isG rfl | exact isG' rfl (by first | assumption | with_reducible rfl | decide)) (LO_s1 4 rfl rfl rfl (by first | rfl | assumption) rfl ?_)) | (refine LX_f (by first | exact noG | exact isG rfl | exact isG' rfl (by first | assumption | with_reducible rfl | decide)) (LO_s1 5 rfl rfl rfl (by first | rfl | assumption) rfl ?_)) | (refine LX_f (by first | exact noG | exact isG rfl | exact isG' rfl (by first | assumption | with_reducible rfl | decide)) (LO_s1 6 rfl rfl rfl (by first | rfl | assumption) rfl ?_)) | (refine LX_f (by first | exact noG | exact isG rfl | exact isG' rfl (by first | assumption | with_reducible rfl | decide)) (LO_sn 0 rfl rfl rfl (by first | rfl | assumption | (simp only [List.all_cons, List.all_nil, AV.sc, Bool.and_true, Bool.true_and, *]; done)) rfl rfl ?_)) | (refine LX_f (by first | exact noG | exact isG rfl | exact isG' rfl (by first | assumption | with_reducible rfl | decide)) (LO_sn 1 rfl rfl rfl (by first | rfl | assumption | (simp only [List.all_cons, List.all_nil, AV.sc, Bool.and_true, Bool.true_and, *]; done)) rfl rfl ?_)) | (refine LX_f (by first | exact noG | exact isG rfl | exact isG' rfl (by first | assumption | with_reducible rfl | decide)) (LO_sn 2 rfl rfl rfl (by first | rfl | assumption | (simp only [List.all_cons, List.all_nil, AV.sc, Bool.and_true, Bool.true_and, *]; done)) rfl rfl ?_)) | (refine LX_f (by first | exact noG | exact isG rfl | exact isG' rfl (by first | assumption | with_reducible rfl | decide)) (LO_sn 3 rfl rfl rfl (by first | rfl | assumption | (simp only [List.all_cons, List.all_nil, AV.sc, Bool.and_true, Bool.true_and, *]; done)) rfl rfl ?_)) | (refine LX_f (by first | exact noG | exact isG rfl | exact isG' rfl (by first | assumption | with_reducible rfl | decide)) (LO_sn 4 rfl rfl rfl (by first | rfl | assumption | (simp only [List.all_cons, List.all_nil, AV.sc, Bool.and_true, Bool.true_and, *]; done)) rfl rfl ?_)) | (refine LX_f (by first | exact noG | exact isG rfl | exact isG' rfl (by first | assumption | with_reducible rfl | decide)) (LO_sn 5 rfl rfl rfl (by first | rfl | assumption | (simp only [List.all_cons, List.all_nil, AV.sc, Bool.and_true, Bool.true_and, *]; done)) rfl rfl ?_)) | (refine LX_f (by first | exact noG | exact isG rfl | exact isG' rfl (by first | assumption | with_reducible rfl | decide)) (LO_sn 6 rfl rfl rfl (by first | rfl | assumption | (simp only [List.all_cons, List.all_nil, AV.sc, Bool.and_true, Bool.true_and, *]; done)) rfl rfl ?_))) | refine LX_un rfl (by first | assumption | with_reducible rfl | decide) ?_); try dsimp only [st, AV.cells, List.set_cons_zero, List.set_cons_succ, List.drop_zero, List.drop_succ_cons, List.take_zero, List.take_succ_cons, Nat.zero_add, Nat.add_zero, Nat.reduceAdd, List.cons_append, List.nil_append]) | refine LX_nil ?_ | refine LThen_n ?_ | refine LThen_e ?_ | refine LLoop_n ?_ | refine LBlk_n ?_)
    exact hk.out) : G := H ⟨hk⟩
end Go.AL
