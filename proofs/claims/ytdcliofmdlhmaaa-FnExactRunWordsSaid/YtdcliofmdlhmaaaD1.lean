/- The logic of what is owned, part 8: room that is laid ahead. -/
import Derived.Test.YtdcliofmdlhmaaaC7
import Derived.Lib.AppendZerosOnto
namespace Go.AL
set_option linter.unusedVariables false
set_option linter.unusedSimpArgs false
open Go.RowKit
section
variable {P : Program} {a : List AV} {h : AH} {K : List AV → AH → Prop} {d : Option Nat}
/-- 'append([]T(nil), make([]T, n)...)': room for n. -/
theorem OpR_growN {T TI e : TypeId} {x y : Operand} {k n bytes : Nat} {kn kq : IntKind} {z : AV}
    (hT : P.underlying T = some (.slice e)) (hTI : P.underlying TI = some (.int kn)) (hs : szT P e = some k) (hby : byT P e = some bytes) (hz : zeroA P e = some z) (hzl : z.cells.length = k) (hk0 : 0 < k)
    (hx : ev a x = some .ns) (hy : ev a y = some (.i kq n)) (hn : 0 < n) (hbd : n * bytes ≤ 140737488355328) (hbd2 : n ≤ 4611686018427387904) (hk : K (st a d (.sl h.cs.length 0 n false)) (h.new k [])) :
    OpR P (.call { callee := .builtin .append, args := #[x, y], argTypes := #[T, TI] }) d a h K := by
  intro o hop hd base w0 ι0 ι w ca hok N R hN
  have hrep := hok.rep
  have hq1 : ca.eval x = .slice none 0 0 := by have := ev_rel hok.rel hx; generalize ca.eval x = q at this; cases this; rfl
  have hq2 : ca.eval y = .int kq n := rel_i (ev_rel hok.rel hy)
  obtain ⟨i, zv, hi, hiz, habs⟩ := zeroA_out hz
  have his : i.size = k := by unfold szT at hs; rw [hi] at hs; simpa using hs
  have hib : i.bytes = bytes := by unfold byT at hby; rw [hi] at hby; simpa using hby
  have hzv : VRel ι z zv := absV_rel habs
  have hexec : ∀ v w', (Builtin.append_ #[T, TI] o.type #[ca.eval x, ca.eval y]).run P w = .ok v w' → (execOp ca.eval o).run P w = .ok (.value v) w' := by
    intro v w' e
    unfold execOp
    simp [hop, resolve, invoke, builtin, e]
  have hrun := Lib.run_append_grow_zeros (P := P) w T TI o.type e i zv kq kn hT hTI hi hiz none 0 0 [] (run_firstCells_none w.drew _ _ _ _) n hn (by omega) (by omega) (by omega) (by rw [hib]; omega) (growslice_fits (by omega) (by rw [hib, Nat.zero_add]; exact hbd))
  simp only [Nat.zero_add] at hrun
  rw [← hq1, ← hq2] at hrun
  unfold Oper.wp
  rw [hexec _ _ hrun]
  have hge := grownCap_ge w n 0 e
  have hzcl := hzv.cells.length
  simp only [Array.length_toList] at hzcl
  have hsize : (([] : List Value).toArray ++ Builtin.zeroCells zv.cells n ++ Builtin.zeroCells zv.cells (grownCap w n 0 e - n)).size = grownCap w n 0 e * k := by
    simp only [Array.size_append, List.size_toArray, size_zeroCells, ← hzcl, hzl, ← Nat.add_mul, List.length_nil, Nat.zero_add]
    congr 1
    omega
  have hnew := hrep.drew.alloc k [] [] (([] : List Value).toArray ++ Builtin.zeroCells zv.cells n ++ Builtin.zeroCells zv.cells (grownCap w n 0 e - n)) e (by simpa using VRels.nil) (by simp) rfl (by simp) (by simp)
  have hmono := Pl.le_add ι ⟨w.drew.heap.size, 0, (([] : List Value).toArray ++ Builtin.zeroCells zv.cells n ++ Builtin.zeroCells zv.cells (grownCap w n 0 e - n)).size, k⟩
  refine hN _ _ _ _ _ ⟨hok.le.trans hmono, hnew, ?_, ?_⟩ hk
  · rw [put_defers]; exact hok.def_
  · rw [hd]
    refine put_rel (hok.rel.mono hmono) d (.sl _ 0 _ false _ _ _ (new_pl hrep _) hge (by simp) (.inr ⟨rfl, ?_⟩))
    simp only [hsize, Nat.zero_add]
    exact Nat.le_refl _
theorem OpV_cap0 {T e : TypeId} {x : Operand} (hT : P.underlying T = some (.slice e)) (hx : ev a x = some .ns) : OpV P (.call { callee := .builtin .cap, args := #[x], argTypes := #[T] }) a (.i .i64 0) := by
  intro ι ca hr o hop
  have hq := ev_rel hr hx
  have hq1 : ca.eval x = .slice none 0 0 := by generalize ca.eval x = q at hq; cases hq; rfl
  refine ⟨.int .i64 0, fun w => ?_, .i _ _⟩
  unfold execOp
  simp [hop, resolve, invoke, builtin, Builtin.cap_, run_underlying hT, hq1, goInt]
end
section
variable {P : Program} {h0 : AH} {L : List It} {Q : Exit → List AV → List It → Prop} {a : List AV} {l : List IOp} {d : Option Nat}
theorem LS_gw {T TI e : TypeId} {x y : Operand} {k n bytes : Nat} {kn kq : IntKind} {z : AV} [i1 : Tsl P T e] [i5 : Tik P TI kn] [i2 : Tsz P e k] [i4 : Tby P e bytes] [i3 : Tze P e z] (hzl : z.cells.length = k) (hk0 : 0 < k)
    (hx : ev a x = some .ns) (hy : ev a y = some (.i kq n)) (hn : 0 < n) (hbd : n * bytes ≤ 140737488355328) (hbd2 : n ≤ 4611686018427387904) (H : ∀ b, LS P h0 (.sl (.sl b 0 0 false) k [] :: L) l Q (st a d (.sl b 0 n false))) :
    LS P h0 L (⟨d, .call { callee := .builtin .append, args := #[x, y], argTypes := #[T, TI] }, none⟩ :: l) Q a :=
  fun h HL => AS_op (OpR_growN i1.e i5.e i2.e i4.e i3.e hzl hk0 hx hy hn hbd hbd2 (H _ _ (HL.newS (α := List AV) (enc := fun _ => List.replicate k .np) (fun _ => by simp) [] false rfl rfl)))
theorem LS_s0 {T e : TypeId} {x y : Operand} {b n k : Nat} {kk : IntKind} {cs : List AV} [i1 : Tsl P T e] [i2 : Tsz P e k] (i : Nat) (hi : L[i]? = some (.sl (.sl b 0 0 false) k cs)) (hx : ev a x = some (.sl b 0 n false)) (hy : ev a y = some (.i kk 0))
    (H : LS P h0 L l Q (st a d (.sl b 0 0 false))) : LS P h0 L (⟨d, .slice T x none (some y) none, none⟩ :: l) Q a := fun h HL => by
  have hb : (h.mt[b]?).map (·.k) = some k := by
    rcases HL.it' hi with ⟨e, _⟩ | ⟨b', o', n', c', row, e, _, hB, _⟩
    · cases e
    · cases e
      obtain ⟨_, m, hm, _, hmk, _⟩ := hB
      rw [hm]; simp [hmk]
  refine AS_op (OpR_slice i1.e i2.e hx (.inl ⟨rfl, rfl⟩) (.inr ⟨y, kk, 0, rfl, hy, by omega, rfl⟩) (Nat.le_refl 0) (Nat.zero_le _) hb ?_)
  simpa using H h HL
/-- A cut of nil. -/
theorem LS_snn {T e : TypeId} {x : Operand} {lo hi : Option Operand} {k : Nat} [i1 : Tsl P T e] [i2 : Tsz P e k] (hlo : SB a lo 0 0) (hhi : SB a hi 0 0) (hx : ev a x = some .ns) (H : LS P h0 L l Q (st a d .ns)) : LS P h0 L (⟨d, .slice T x lo hi none, none⟩ :: l) Q a :=
  LS_v (fun ι ca hr o ho => slice_nil_run i1.e i2.e hr ho hx hlo hhi) H
theorem LS_cp0 {T e : TypeId} {x : Operand} [i1 : Tsl P T e] (hx : ev a x = some .ns) (H : LS P h0 L l Q (st a d (.i .i64 0))) : LS P h0 L (⟨d, .call { callee := .builtin .cap, args := #[x], argTypes := #[T] }, none⟩ :: l) Q a := LS_v (OpV_cap0 i1.e hx) H
end
end Go.AL
