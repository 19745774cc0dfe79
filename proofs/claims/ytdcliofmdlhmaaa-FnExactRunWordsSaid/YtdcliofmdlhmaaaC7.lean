/- The logic of what is owned, part 7: cuts in regions that draw their order; sums that may leave the bounds. -/
import Derived.Test.YtdcliofmdlhmaaaC6
namespace Go.AL
set_option linter.unusedVariables false
set_option linter.unusedSimpArgs false
open Go.RowKit
theorem slice_run {P : Program} {a : List AV} {ι : Pl} {ca : Act} {o : Oper} {T e : TypeId} {x : Operand} {lo hi : Option Operand} {b off len k l u : Nat} {c : Bool} (hT : P.underlying T = some (.slice e)) (hs : szT P e = some k)
    (hr : VRels ι a ca.tmps.toList) (ho : o.op = .slice T x lo hi none) (hx : ev a x = some (.sl b off len c)) (hlo : SB a lo 0 l) (hhi : SB a hi len u) (h1 : l ≤ u) (h2 : u ≤ len) (hpk : ∀ pl, ι.bl[b]? = some pl → pl.k = k) :
    ∃ cv, (∀ w, (execOp ca.eval o).run P w = .ok (.value cv) w) ∧ VRel ι (.sl b (off + l * k) (u - l) (c && hi.isNone)) cv := by
  obtain ⟨pl, y, cap, hpl, hq, hle, hcl, hxx⟩ := rel_sl (ev_rel hr hx)
  have hpk' := hpk pl hpl
  have hrun : ∀ w, (Instr.sliceBounds true len cap (lo.map ca.eval) (hi.map ca.eval) none).run P w = .ok (l, u, cap) w := fun w => by
    rcases hlo with ⟨rfl, rfl⟩ | ⟨z, kk, n, rfl, hz, hn0, rfl⟩ <;> rcases hhi with ⟨rfl, rfl⟩ | ⟨z', kk', n', rfl, hz', hn0', rfl⟩
    · simp [Instr.sliceBounds]
    · have e := rel_i (ev_rel hr hz')
      simp [Instr.sliceBounds, e, run_sliceBound hn0' (show n'.toNat ≤ cap by omega)]
    · have e := rel_i (ev_rel hr hz)
      simp [Instr.sliceBounds, e, run_sliceBound hn0 h1]
    · have e := rel_i (ev_rel hr hz)
      have e' := rel_i (ev_rel hr hz')
      simp [Instr.sliceBounds, e, e', run_sliceBound hn0' (show n'.toNat ≤ cap by omega), run_sliceBound hn0 h1]
  refine ⟨.slice (some (if cap = l then y else y.add (l * k))) (u - l) (cap - l), fun w => ?_, ?_⟩
  · unfold execOp
    simp only [ho, hq, Instr.sliceAt, Sem.run_bind, run_underlying hT, Result.andThen_ok, Option.map_none, Instr.slice, hrun, run_sizeOf_sz hs, Sem.run_pure, Option.map_some]
    by_cases e : cap = l <;> simp [e]
  · by_cases e : cap = l
    · rw [if_pos e]
      exact .sl b _ _ _ pl y (cap - l) hpl (by omega) (by intro hc; simp only [Bool.and_eq_true] at hc; have := hcl hc.1; omega) (.inl (by omega))
    · rw [if_neg e]
      have hc0 : ¬ cap = 0 := by omega
      rw [(hxx.resolve_left hc0).1, add_none]
      refine .sl b _ _ _ pl ⟨pl.c, pl.o + off + l * k, none⟩ (cap - l) hpl (by omega) ?_ ?_
      · intro hc
        simp only [Bool.and_eq_true] at hc
        have h3 := hcl hc.1
        rcases hhi with ⟨rfl, rfl⟩ | ⟨z, kk, n, rfl, _⟩
        · omega
        · simp at hc
      · rcases hxx with e' | ⟨e1, e2⟩
        · exact .inl (by omega)
        · refine .inr ⟨by rw [Nat.add_assoc], ?_⟩
          rw [hpk'] at *
          have : pl.o + (off + l * k) + (cap - l) * k = pl.o + off + cap * k := by
            rw [← Nat.add_assoc, Nat.add_assoc (pl.o + off), ← Nat.add_mul]; congr 2; omega
          omega
theorem slice_nil_run {P : Program} {a : List AV} {ι : Pl} {ca : Act} {o : Oper} {T e : TypeId} {x : Operand} {lo hi : Option Operand} {k : Nat} (hT : P.underlying T = some (.slice e)) (hs : szT P e = some k)
    (hr : VRels ι a ca.tmps.toList) (ho : o.op = .slice T x lo hi none) (hx : ev a x = some .ns) (hlo : SB a lo 0 0) (hhi : SB a hi 0 0) :
    ∃ cv, (∀ w, (execOp ca.eval o).run P w = .ok (.value cv) w) ∧ VRel ι .ns cv := by
  have hq : ca.eval x = .slice none 0 0 := by
    have := ev_rel hr hx
    generalize ca.eval x = q at this
    cases this; rfl
  have hrun : ∀ w, (Instr.sliceBounds true 0 0 (lo.map ca.eval) (hi.map ca.eval) none).run P w = .ok (0, 0, 0) w := fun w => by
    rcases hlo with ⟨rfl, _⟩ | ⟨z, kk, n, rfl, hz, hn0, e0⟩ <;> rcases hhi with ⟨rfl, _⟩ | ⟨z', kk', n', rfl, hz', hn0', e1⟩
    · simp [Instr.sliceBounds]
    · have e := rel_i (ev_rel hr hz')
      simp [Instr.sliceBounds, e, run_sliceBound hn0' (show n'.toNat ≤ 0 by omega), e1]
    · have e := rel_i (ev_rel hr hz)
      simp [Instr.sliceBounds, e, run_sliceBound hn0 (show n.toNat ≤ 0 by omega), e0]
    · have e := rel_i (ev_rel hr hz)
      have e' := rel_i (ev_rel hr hz')
      simp [Instr.sliceBounds, e, e', run_sliceBound hn0' (show n'.toNat ≤ 0 by omega), e1, run_sliceBound hn0 (show n.toNat ≤ 0 by omega), e0]
  refine ⟨.slice none 0 0, fun w => ?_, .ns⟩
  unfold execOp
  simp only [ho, hq, Instr.sliceAt, Sem.run_bind, run_underlying hT, Result.andThen_ok, Option.map_none, Instr.slice, hrun, run_sizeOf_sz hs, Sem.run_pure, Option.map_some]
  simp
section
variable {P : Program} {F : FK} {h0 : AH} {L0 L : List It} {l : Tr (IOp × Kd)} {Q : Exit → List AV → List It → Prop} {a : List AV} {d : Option Nat} {g : Option (Nat × Bool)}
/-- A cut in a region, of what was there at the region's start. -/
theorem LX_sz {α : Type} {enc : α → List AV} {T e : TypeId} {x : Operand} {lo hi : Option Operand} {v : AV} {k q u : Nat} {ll : List α} [i1 : Tsl P T e] [i2 : Tsz P e k] (hR : ∀ h, Loq h0 h L0 → RdG k enc h v ll) (hke : ∀ x, (enc x).length = k) (hlo : SB a lo 0 q) (hhi : SB a hi ll.length u) (h1 : q ≤ u) (h2 : u ≤ ll.length)
    (hx : ev a x = some v) (hg : ∀ gg want, g = some (gg, want) → a[gg]? = some (.b want)) (H : ∀ w, lenA w = some (u - q) → w.sc = true → (∀ h, RdG k enc h v ll → RdG k enc h w ((ll.take u).drop q)) → LX P F h0 L0 L l Q (st a d w)) : LX P F h0 L0 L (.c (⟨d, .slice T x lo hi none, g⟩, .p) l) Q a := fun hs h H0 HL => by
  have hR0 := hR hs H0
  rcases hR0.rd with rfl | ⟨b, o, c, rfl, g1, g2⟩
  · have hl0 : ll.length = 0 := by have := hR0.len; simp [lenA] at this; omega
    have hu : u = 0 := by omega
    have hq : q = 0 := by omega
    subst hu; subst hq
    rw [hl0] at hhi
    have hll : ll = [] := List.length_eq_zero_iff.1 hl0
    subst hll
    exact AXz_take (.inl rfl) hg (fun base w0 ι1 w1 ι ca hrep hKs hle hr o ho => let ⟨cv, e1, e2⟩ := slice_nil_run i1.e i2.e hr ho hx hlo hhi; ⟨cv, fun w _ => e1 w, e2⟩) (H .ns rfl rfl (fun h' hR' => by simpa using hR') hs h H0 HL)
  · exact AXz_take (.inl rfl) hg (fun base w0 ι1 w1 ι ca hrep hKs hle hr o ho => by
      have hb : b < hs.cs.length := by
        cases hm : hs.cs[b]? with
        | none => simp [AH.row, hm] at g1
        | some r => exact (List.getElem?_eq_some_iff.1 hm).1
      obtain ⟨pl1, hpl1⟩ := hrep.pl_of hb
      obtain ⟨cv, e1, e2⟩ := slice_run (P := P) i1.e i2.e hr ho hx hlo hhi h1 h2 (fun pl hpl => by
        have e3 := pre_get hle.1 hpl1
        rw [hpl] at e3
        rw [Option.some.inj e3]
        cases hm : hs.mt[b]? with
        | none => rw [hm] at g2; simp at g2
        | some m => rw [hm] at g2; simp at g2; rw [hrep.kk b pl1 _ hpl1 hm, g2])
      exact ⟨cv, fun w _ => e1 w, e2⟩) (H _ rfl rfl (fun h' hR' => hR'.cut hke h1 h2) hs h H0 HL)
end
section
variable {P : Program} {h0 : AH} {L : List It} {Q : Exit → List AV → List It → Prop} {a : List AV} {l : List IOp} {d : Option Nat}
/-- Sums of any kind, as they wrap. -/
theorem LS_arw {op : BinOp} {T T' : TypeId} {x y : Operand} {k : IntKind} {m n : Int} {v : AV} (hx : ev a x = some (.i k m)) (hy : ev a y = some (.i k n)) (hv : binI op k m n = some v) (H : LS P h0 L l Q (st a d v)) :
    LS P h0 L (⟨d, .binOp op T x y T', none⟩ :: l) Q a := LS_v (OpV_bin hx hy hv) H
theorem LS_snl {op : BinOp} {T T' e : TypeId} {x y : Operand} {v : AV} [i : Tsl P T e] (hx : ev a x = some v) (hy : ev a y = some .ns) (z t : Bool)
    (hv : (v = .ns ∧ t = true) ∨ (∃ b o n c, v = .sl b o n c ∧ t = false)) (hop : (op = .eql ∧ z = t) ∨ (op = .neq ∧ z = !t)) (H : LS P h0 L l Q (st a d (.b z))) : LS P h0 L (⟨d, .binOp op T x y T', none⟩ :: l) Q a :=
  LS_v (OpV_slnil i.e hx hy z t hv hop) H
end
section
variable {P : Program} {F : FK} {h0 : AH} {L0 L : List It} {l : Tr (IOp × Kd)} {Q : Exit → List AV → List It → Prop} {a : List AV} {d : Option Nat} {g : Option (Nat × Bool)}
theorem LX_mk {α : Type} {enc : α → List AV} {T e : TypeId} {x y : Operand} {n m : Int} {z : AV} {bytes : Nat} (zz : α) [i1 : Tsl P T e] [i2 : Tsz P e 1] [i4 : Tby P e bytes] [i3 : Tze P e z] (hz1 : z.cells = [z]) (hzs : z.sc = true)
    (hx : ev a x = some (.i .i64 n)) (hy : ev a y = some (.i .i64 m)) (hnm : m = n) (h0' : 0 ≤ n) (h1 : n * bytes ≤ 140737488355328) (h2 : n ≤ 9223372036854775807) (hke : ∀ x, (enc x).length = 1) (hzz : enc zz = [z]) (hg : ∀ gg want, g = some (gg, want) → a[gg]? = some (.b want))
    (H : ∀ b, LX P F h0 L0 (.sl (.sl b 0 n.toNat true) 1 ((List.replicate n.toNat zz).flatMap enc) :: L) l Q (st a d (.sl b 0 n.toNat true))) : LX P F h0 L0 L (.c (⟨d, .makeSlice T x y, g⟩, .e) l) Q a :=
  LX_e hg (fun h HL => LO_mk (X := fun a' M => ∃ b, a' = st a d (.sl b 0 n.toNat true) ∧ M = [.sl (.sl b 0 n.toNat true) 1 ((List.replicate n.toNat zz).flatMap enc)]) zz hz1 hzs hx hy hnm h0' h1 h2 hke hzz fun b => ⟨b, rfl, rfl⟩) fun a' M ⟨b, e1, e2⟩ => by subst e1; subst e2; exact H b
theorem LX_al {T : TypeId} {z : AV} [i : Tze P T z] (hs : z.cells.all AV.sc = true) (hg : ∀ gg want, g = some (gg, want) → a[gg]? = some (.b want)) (H : ∀ b, LX P F h0 L0 (.pt b z.cells :: L) l Q (st a d (.p b 0))) : LX P F h0 L0 L (.c (⟨d, .alloc T, g⟩, .e) l) Q a :=
  LX_e hg (fun h HL => LO_al (X := fun a' M => ∃ b, a' = st a d (.p b 0) ∧ M = [.pt b z.cells]) hs fun b => ⟨b, rfl, rfl⟩) fun a' M ⟨b, e1, e2⟩ => by subst e1; subst e2; exact H b
theorem LX_bx1 {T : TypeId} {x : Operand} {v : AV} (hx : ev a x = some v) (hs : v.sc = true) (hg : ∀ gg want, g = some (gg, want) → a[gg]? = some (.b want)) (H : ∀ b, LX P F h0 L0 (.pt b [v] :: L) l Q (st a d (.p b 0))) : LX P F h0 L0 L (.c (⟨d, .box T x, g⟩, .e) l) Q a :=
  LX_e hg (fun h HL => LO_bx1 (X := fun a' M => ∃ b, a' = st a d (.p b 0) ∧ M = [.pt b [v]]) hx hs fun b => ⟨b, rfl, rfl⟩) fun a' M ⟨b, e1, e2⟩ => by subst e1; subst e2; exact H b
theorem LX_bxn {T : TypeId} {x : Operand} {cs : List AV} (hx : ev a x = some (.agg cs)) (hs : cs.all AV.sc = true) (hg : ∀ gg want, g = some (gg, want) → a[gg]? = some (.b want)) (H : ∀ b, LX P F h0 L0 (.pt b cs :: L) l Q (st a d (.p b 0))) : LX P F h0 L0 L (.c (⟨d, .box T x, g⟩, .e) l) Q a :=
  LX_e hg (fun h HL => LO_bxn (X := fun a' M => ∃ b, a' = st a d (.p b 0) ∧ M = [.pt b cs]) hx hs fun b => ⟨b, rfl, rfl⟩) fun a' M ⟨b, e1, e2⟩ => by subst e1; subst e2; exact H b
/-- A load that is carried out where it comes up. -/
theorem LX_lde {T : TypeId} {x : Operand} {b o : Nat} {v : AV} (hg : ∀ gg want, g = some (gg, want) → a[gg]? = some (.b want)) (hx : ev a x = some (.p b o)) (hv : ∀ h, Loq h0 h L → loadA P T h b o = some v) (H : LX P F h0 L0 L l Q (st a d v)) : LX P F h0 L0 L (.c (⟨d, .load T x, g⟩, .e) l) Q a :=
  fun hs h H0 HL => AXz_e (X := fun a' M => a' = st a d v ∧ M = []) hg (OpR_load hx (show loadA P T h.frz b o = some v from hv h HL) ⟨[], Loq.nil (frz_wf HL.wf), rfl, rfl⟩) fun a' M h' ⟨e1, e2⟩ G => by subst e1; subst e2; exact H hs h' H0 (by simpa using HL.call G)
theorem LX_l1e {T : TypeId} {x : Operand} {b o : Nat} {v : AV} {cs : List AV} [i : Tag P T false] (j : Nat) (hg : ∀ gg want, g = some (gg, want) → a[gg]? = some (.b want)) (hx : ev a x = some (.p b o)) (hi : L[j]? = some (.pt b cs)) (hv : cs[o]? = some v) (H : LX P F h0 L0 L l Q (st a d v)) : LX P F h0 L0 L (.c (⟨d, .load T x, g⟩, .e) l) Q a :=
  LX_lde hg hx (fun h HL => loadA_1 i.e (HL.cellP j hi hv)) H
theorem LX_lwe {T : TypeId} {x : Operand} {b n : Nat} {cs : List AV} [i : Tag P T true] [k : Tsz P T n] (j : Nat) (hg : ∀ gg want, g = some (gg, want) → a[gg]? = some (.b want)) (hx : ev a x = some (.p b 0)) (hi : L[j]? = some (.pt b cs)) (hn : cs.length = n) (H : LX P F h0 L0 L l Q (st a d (.agg cs))) : LX P F h0 L0 L (.c (⟨d, .load T x, g⟩, .e) l) Q a :=
  LX_lde hg hx (fun h HL => loadA_n i.e k.e (HL.rowsP j hi (by omega) (by rw [List.drop_zero, ← hn, List.take_length]))) H
theorem LX_lbe {T : TypeId} {x : Operand} {b o : Nat} {v : AV} [i : Tag P T false] (hg : ∀ gg want, g = some (gg, want) → a[gg]? = some (.b want)) (hx : ev a x = some (.p b o)) (hc : h0.cell b o = some v) (H : LX P F h0 L0 L l Q (st a d v)) : LX P F h0 L0 L (.c (⟨d, .load T x, g⟩, .e) l) Q a :=
  LX_lde hg hx (fun h HL => loadA_1 i.e (HL.le.cell hc)) H
/-- What a part leaves, told once for all the ways through it. -/
theorem LI_post {c : IC} (Y : List AV → List It → Prop) (H : LI P h0 L c (fun e a L => e = .normal ∧ Y a L) a) (K : ∀ a L, Y a L → Q .normal a L) : LI P h0 L c Q a := fun h HL =>
  (H h HL).mono fun e a' h' ⟨L', HL', e1, q⟩ => by subst e1; exact ⟨L', HL', K a' L' q⟩
end
theorem Loq.sel {h0 h : AH} {L : List It} (H : Loq h0 h L) (js : List Nat) (hn : js.Nodup) : Loq h0 h (js.filterMap (L[·]?)) :=
  ⟨H.wf0, H.le, H.wf, fun x hx => by obtain ⟨j, _, hj⟩ := List.mem_filterMap.1 hx; exact H.it' hj, List.pairwise_filterMap.2 (List.Pairwise.imp (fun {i j} hne x hx y hy => by
    obtain ⟨hi, rfl⟩ := List.getElem?_eq_some_iff.1 hx
    obtain ⟨hj, rfl⟩ := List.getElem?_eq_some_iff.1 hy
    have hap := List.pairwise_iff_getElem.1 H.ap
    rcases Nat.lt_or_gt_of_ne hne with hlt | hlt
    · exact hap i j hi hj hlt
    · exact (hap j i hj hi hlt).symm) hn)⟩
section
variable {P : Program} {a : List AV}
theorem OpV_b3 {T : TypeId} {x0 x1 x2 : Operand} {v0 v1 v2 z0 z1 z2 : AV} [i : Tpl P T [(0, 1), (1, 1), (2, 1)]] [j : Tze P T (.agg [z0, z1, z2])] (h0 : ev a x0 = some v0) (h1 : ev a x1 = some v1) (h2 : ev a x2 = some v2) (s0 : v0.sc = true) (s1 : v1.sc = true) (s2 : v2.sc = true) :
    OpV P (.build T #[(0, x0), (1, x1), (2, x2)]) a (.agg [v0, v1, v2]) := OpV_bdP (ps := [(0, v0), (1, v1), (2, v2)]) (by simp [evps, h0, h1, h2]) (by simp [fillA, cells1 s0, cells1 s1, cells1 s2, s0, s1, s2, setL])
theorem OpV_b2 {T : TypeId} {x0 x1 : Operand} {v0 v1 z0 z1 z2 : AV} [i : Tpl P T [(0, 1), (1, 1), (2, 1)]] [j : Tze P T (.agg [z0, z1, z2])] (h0 : ev a x0 = some v0) (h1 : ev a x1 = some v1) (s0 : v0.sc = true) (s1 : v1.sc = true) :
    OpV P (.build T #[(0, x0), (1, x1)]) a (.agg [v0, v1, z2]) := OpV_bdP (ps := [(0, v0), (1, v1)]) (by simp [evps, h0, h1]) (by simp [fillA, cells1 s0, cells1 s1, s0, s1, setL])
theorem OpV_b1 {T : TypeId} {x0 : Operand} {v0 z0 z1 z2 : AV} [i : Tpl P T [(0, 1), (1, 1), (2, 1)]] [j : Tze P T (.agg [z0, z1, z2])] (h0 : ev a x0 = some v0) (s0 : v0.sc = true) :
    OpV P (.build T #[(0, x0)]) a (.agg [v0, z1, z2]) := OpV_bdP (ps := [(0, v0)]) (by simp [evps, h0]) (by simp [fillA, cells1 s0, s0, setL])
theorem OpV_bA {T : TypeId} {x0 : Operand} {v0 v1 v2 z0 z1 z2 : AV} [i : Tpl P T [(0, 3)]] [j : Tze P T (.agg [z0, z1, z2])] (h0 : ev a x0 = some (.agg [v0, v1, v2])) (s0 : v0.sc = true) (s1 : v1.sc = true) (s2 : v2.sc = true) :
    OpV P (.build T #[(0, x0)]) a (.agg [v0, v1, v2]) := OpV_bdP (ps := [(0, .agg [v0, v1, v2])]) (by simp [evps, h0]) (by simp [fillA, AV.cells, s0, s1, s2, setL])
end
/-- What holds of a heap and of all that grow out of it, frozen or not. -/
structure Kept (C : AH → Prop) : Prop where
  le : ∀ h h', C h → h.le h' → C h'
  frz : ∀ h, C h → C h.frz
theorem Kept.tt : Kept (fun _ => True) := ⟨fun _ _ _ _ => trivial, fun _ _ => trivial⟩
theorem Kept.cell (b o : Nat) (v : AV) : Kept (fun h => h.cell b o = some v) := ⟨fun _ _ H hle => hle.cell H, fun _ H => H⟩
theorem Kept.rd {α : Type} (k : Nat) (enc : α → List AV) (v : AV) (l : List α) : Kept (fun h => RdG k enc h v l) := ⟨fun _ _ H hle => H.le hle, fun _ H => H.frz⟩
theorem Kept.and {C D : AH → Prop} (H : Kept C) (K : Kept D) : Kept (fun h => C h ∧ D h) := ⟨fun _ _ ⟨a, b⟩ hle => ⟨H.le _ _ a hle, K.le _ _ b hle⟩, fun _ ⟨a, b⟩ => ⟨H.frz _ a, K.frz _ b⟩⟩
end Go.AL
