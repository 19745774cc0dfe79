/- The logic of what is owned, part 15: strings put together and compared; bytes as a string. -/
import Derived.Test.YtdcliofmdlhmaaaD7
import Derived.Laws.BytesString
import Derived.Laws.Strings
import Derived.Shelf.Strings.OnBuilder
namespace Go.AL
set_option linter.unusedVariables false
set_option linter.unusedSimpArgs false
open Go.RowKit
section
variable {P : Program} {h0 h : AH} {L : List It} {Q : Exit → List AV → List It → Prop} {a : List AV} {l : List IOp} {d : Option Nat} {K : List AV → AH → Prop}
theorem OpV_cat {T T' : TypeId} {x y : Operand} {s t : ByteArray} (hx : ev a x = some (.s s)) (hy : ev a y = some (.s t)) (hl : s.size + t.size ≤ 9223372036854775807) : OpV P (.binOp .add T x y T') a (.s (s ++ t)) :=
  fun ι ca hr o ho => by
    have h1 := rel_s (ev_rel hr hx); have h2 := rel_s (ev_rel hr hy)
    refine ⟨.string (s ++ t), fun w => ?_, .s _⟩
    have hm : ¬ (((s.size + t.size : Nat) : Int) > IntKind.i64.max) := by
      have e : IntKind.i64.max = 9223372036854775807 := by decide
      rw [e]; omega
    unfold execOp
    simp only [ho, h1, h2, eqGuard, binOp, Op.stringOp, if_neg hm, Sem.run_bind, Sem.run_pure, Result.andThen_ok]
    rfl
theorem OpV_sne {T T' : TypeId} {x y : Operand} {s t : ByteArray} (hx : ev a x = some (.s s)) (hy : ev a y = some (.s t)) : OpV P (.binOp .neq T x y T') a (.b (!(s.toList == t.toList))) :=
  fun ι ca hr o ho => by
    have h1 := rel_s (ev_rel hr hx); have h2 := rel_s (ev_rel hr hy)
    refine ⟨.bool (!(s.toList == t.toList)), fun w => ?_, .b _⟩
    unfold execOp
    simp only [ho, h1, h2, eqGuard, binOp, Op.stringOp, Sem.run_bind, Sem.run_pure, Result.andThen_ok]
    rfl
theorem LS_cat {T T' : TypeId} {x y : Operand} {s t : ByteArray} (hx : ev a x = some (.s s)) (hy : ev a y = some (.s t)) (hl : s.size + t.size ≤ 9223372036854775807) (H : LS P h0 L l Q (st a d (.s (s ++ t)))) : LS P h0 L (⟨d, .binOp .add T x y T', none⟩ :: l) Q a := LS_v (OpV_cat hx hy hl) H
theorem LS_sne {T T' : TypeId} {x y : Operand} {s t : ByteArray} (hx : ev a x = some (.s s)) (hy : ev a y = some (.s t)) (H : LS P h0 L l Q (st a d (.b (!(s.toList == t.toList))))) : LS P h0 L (⟨d, .binOp .neq T x y T', none⟩ :: l) Q a := LS_v (OpV_sne hx hy) H
/-- The bytes of a list as a string. -/
def strOf (ns : List Int) : ByteArray := ns.foldl (fun r n => r.push (UInt8.ofNat n.toNat)) ByteArray.empty
theorem flat_u8 : ∀ ll : List Int, ll.flatMap (fun n => [AV.i .u8 n]) = ll.map fun n => AV.i .u8 n
  | [] => rfl
  | n :: ll => by rw [List.flatMap_cons, flat_u8 ll]; rfl
theorem vrels_u8 {ι : Pl} : ∀ (ll : List Int) (cl : List Value), VRels ι (ll.map fun n => AV.i .u8 n) cl → cl = ll.map (Value.int .u8)
  | [], cl, h => by cases h; rfl
  | n :: ll, cl, h => by
    cases h with
    | cons e1 e2 => cases e1; rw [List.map_cons, vrels_u8 ll _ e2]
theorem OpR_cbs {S D e : TypeId} {x : Operand} {v : AV} {ll : List Int} (hS : P.underlying S = some (.slice e)) (he : P.underlying e = some (.int .u8)) (hD : P.underlying D = some .string) (hx : ev a x = some v) (hR : RdG 1 (fun n => [AV.i .u8 n]) h v ll) (hne : 0 < ll.length) (hk : K (st a d (.s (strOf ll))) h) :
    OpR P (.convert S D x) d a h K := by
  refine OpR_pure (fun base w0 ι w ca hrep hr o ho => ?_) hk
  have hv := ev_rel hr hx
  have hln := hR.len
  rcases hR.rd with rfl | ⟨b, off, c, rfl, hrow, _⟩
  · simp [lenA] at hln; omega
  · generalize hq : ca.eval x = q at hv
    cases hv with
    | sl _ _ _ _ pl y cap hp hcap hcl hy =>
      rcases hy with hy | ⟨rfl, _⟩
      · omega
      · obtain ⟨cl, h1, h2, _, h4⟩ := rep_row hrep hp hrow
        rw [flat_u8] at h1
        have hcl2 := vrels_u8 ll cl h1
        refine ⟨.string (strOf ll), ?_, .s _⟩
        have hrun := run_loadCells_list (P := P) (w := w) ⟨pl.c, pl.o + off, none⟩ cl h4
        rw [hcl2, List.length_map] at hrun
        unfold execOp
        simp only [ho, hq, Sem.run_bind, run_convert_bytes_string w S D e _ _ _ hS he hD, run_bytesToString w _ _ _ _ hrun, Result.andThen_ok]
        rfl
theorem LS_cbs {S D e : TypeId} {x : Operand} {v : AV} {ll : List Int} [i1 : Tsl P S e] [i2 : Tik P e .u8] [i3 : Tst P D] (hR : ∀ h, Loq h0 h L → RdG 1 (fun n => [AV.i .u8 n]) h v ll) (hne : 0 < ll.length) (hx : ev a x = some v) (H : LS P h0 L l Q (st a d (.s (strOf ll)))) :
    LS P h0 L (⟨d, .convert S D x, none⟩ :: l) Q a := fun h HL => AS_op (OpR_cbs i1.e i2.e i3.e hx (hR h HL) hne (H h HL))
end
end Go.AL
