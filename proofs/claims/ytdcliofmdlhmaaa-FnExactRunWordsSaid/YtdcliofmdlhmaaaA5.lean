/- The abstract logic, part 5: rules for operations that only compute or read. -/
import Derived.Test.YtdcliofmdlhmaaaA4
import Derived.Laws.Tables
import Derived.IntWalk
namespace Go.AL
open Go.RowKit

section
variable {P : Program} {a : List AV} {h : AH} {K : List AV → AH → Prop} {d : Option Nat}

/-- An operation whose value hangs on the registers alone. -/
def OpV (P : Program) (op : Op) (a : List AV) (v : AV) : Prop :=
  ∀ (ι : Pl) (ca : Act), VRels ι a ca.tmps.toList → ∀ o : Oper, o.op = op → ∃ cv, (∀ w, (execOp ca.eval o).run P w = .ok (.value cv) w) ∧ VRel ι v cv
theorem OpR_V {op : Op} {v : AV} (H : OpV P op a v) (hk : K (st a d v) h) : OpR P op d a h K :=
  OpR_pure (fun _ _ ι w ca _ hr o ho => let ⟨cv, h1, h2⟩ := H ι ca hr o ho; ⟨cv, h1 w, h2⟩) hk
theorem rel_i {ι : Pl} {k : IntKind} {n : Int} {c : Value} (H : VRel ι (.i k n) c) : c = .int k n := by cases H; rfl
theorem rel_b {ι : Pl} {t : Bool} {c : Value} (H : VRel ι (.b t) c) : c = .bool t := by cases H; rfl
theorem rel_s {ι : Pl} {t : ByteArray} {c : Value} (H : VRel ι (.s t) c) : c = .string t := by cases H; rfl

theorem OpV_move {x : Operand} {v : AV} (hx : ev a x = some v) : OpV P (.move x) a v :=
  fun ι ca hr o ho => ⟨ca.eval x, fun w => by unfold execOp; simp [ho], ev_rel hr hx⟩
theorem OpR_move {x : Operand} {v : AV} (hx : ev a x = some v) (hk : K (st a d v) h) : OpR P (.move x) d a h K :=
  OpR_V (OpV_move hx) hk
theorem OpV_assign {x : Operand} {v : AV} (hx : ev a x = some v) : OpV P (.assign x) a v :=
  fun ι ca hr o ho => ⟨ca.eval x, fun w => by unfold execOp; simp [ho], ev_rel hr hx⟩
theorem OpR_assign {x : Operand} {v : AV} (hx : ev a x = some v) (hk : K (st a d v) h) : OpR P (.assign x) d a h K :=
  OpR_V (OpV_assign hx) hk
theorem OpV_pick_b {c x y : Operand} {t u v : Bool} (hc : ev a c = some (.b t)) (hx : ev a x = some (.b u)) (hy : ev a y = some (.b v)) : OpV P (.pick c x y) a (.b (if t then u else v)) :=
  fun ι ca hr o ho => ⟨.bool (if t then u else v), fun w => by
    have h1 := rel_b (ev_rel hr hc); have h2 := rel_b (ev_rel hr hx); have h3 := rel_b (ev_rel hr hy)
    unfold execOp; cases t <;> simp [ho, h1, h2, h3, asBool], .b _⟩
theorem OpR_pick_b {c x y : Operand} {t u v : Bool} (hc : ev a c = some (.b t)) (hx : ev a x = some (.b u)) (hy : ev a y = some (.b v)) (hk : K (st a d (.b (if t then u else v))) h) :
    OpR P (.pick c x y) d a h K :=
  OpR_V (OpV_pick_b hc hx hy) hk
theorem OpV_pick_t {c x y : Operand} {t : Bool} {v : AV} (hc : ev a c = some (.b t)) (ht : t = true) (hx : ev a x = some v) : OpV P (.pick c x y) a v :=
  fun ι ca hr o ho => ⟨ca.eval x, fun w => by
    have h1 := rel_b (ev_rel hr hc)
    unfold execOp; simp [ho, h1, asBool, ht], ev_rel hr hx⟩
theorem OpR_pick_t {c x y : Operand} {t : Bool} {v : AV} (hc : ev a c = some (.b t)) (ht : t = true) (hx : ev a x = some v) (hk : K (st a d v) h) : OpR P (.pick c x y) d a h K :=
  OpR_V (OpV_pick_t hc ht hx) hk
theorem OpV_pick_f {c x y : Operand} {t : Bool} {v : AV} (hc : ev a c = some (.b t)) (ht : t = false) (hy : ev a y = some v) : OpV P (.pick c x y) a v :=
  fun ι ca hr o ho => ⟨ca.eval y, fun w => by
    have h1 := rel_b (ev_rel hr hc)
    unfold execOp; simp [ho, h1, asBool, ht], ev_rel hr hy⟩
theorem OpR_pick_f {c x y : Operand} {t : Bool} {v : AV} (hc : ev a c = some (.b t)) (ht : t = false) (hy : ev a y = some v) (hk : K (st a d v) h) : OpR P (.pick c x y) d a h K :=
  OpR_V (OpV_pick_f hc ht hy) hk
theorem OpR_pick {c x y : Operand} {t : Bool} {v : AV} (hc : ev a c = some (.b t)) (hx : t = true → ev a x = some v) (hy : t = false → ev a y = some v) (hk : K (st a d v) h) : OpR P (.pick c x y) d a h K := by
  cases ht : t with
  | true => exact OpR_pick_t hc ht (hx ht) hk
  | false => exact OpR_pick_f hc ht (hy ht) hk

def binI : BinOp → IntKind → Int → Int → Option AV
  | .add, k, x, y => some (.i k (k.wrap (x + y)))
  | .sub, k, x, y => some (.i k (k.wrap (x - y)))
  | .mul, k, x, y => some (.i k (k.wrap (x * y)))
  | .and, k, x, y => some (.i k (k.wrap (BitVec.ofInt k.bits x &&& BitVec.ofInt k.bits y).toNat))
  | .or, k, x, y => some (.i k (k.wrap (BitVec.ofInt k.bits x ||| BitVec.ofInt k.bits y).toNat))
  | .xor, k, x, y => some (.i k (k.wrap (BitVec.ofInt k.bits x ^^^ BitVec.ofInt k.bits y).toNat))
  | .eql, _, x, y => some (.b (x == y))
  | .neq, _, x, y => some (.b (x != y))
  | .lss, _, x, y => some (.b (decide (x < y)))
  | .leq, _, x, y => some (.b (decide (x ≤ y)))
  | .gtr, _, x, y => some (.b (decide (x > y)))
  | .geq, _, x, y => some (.b (decide (x ≥ y)))
  | _, _, _, _ => none
theorem run_binI {op : BinOp} {k : IntKind} {x y : Int} {v : AV} (H : binI op k x y = some v) (T : TypeId) (X Y : Operand) (ι : Pl) :
    ∃ cv, (∀ w, (do eqGuard op T X Y (.int k x) (.int k y); binOp op T (.int k x) (.int k y) : Sem Value).run P w = .ok cv w) ∧ VRel ι v cv := by
  cases op <;> simp only [binI, reduceCtorEq, Option.some.injEq] at H <;> subst H
  all_goals first
    | (refine ⟨_, fun w => ?_, .i _ _⟩; simp [eqGuard, binOp, Op.intArith]; done)
    | (refine ⟨_, fun w => ?_, .i _ _⟩; simp [eqGuard, binOp, Op.intBits]; done)
    | (refine ⟨_, fun w => ?_, .b _⟩; simp [eqGuard, binOp, Op.intCmp]; done)
theorem OpV_bin {op : BinOp} {T T' : TypeId} {x y : Operand} {k : IntKind} {m n : Int} {v : AV} (hx : ev a x = some (.i k m)) (hy : ev a y = some (.i k n)) (hv : binI op k m n = some v)
    : OpV P (.binOp op T x y T') a v :=
  fun ι ca hr o ho => by
    have h1 := rel_i (ev_rel hr hx); have h2 := rel_i (ev_rel hr hy)
    obtain ⟨cv, e1, e2⟩ := run_binI (P := P) hv T x y ι
    refine ⟨cv, fun w => ?_, e2⟩
    unfold execOp
    simp only [ho, h1, h2]
    rw [Sem.run_bind, e1 w]
    rfl
theorem OpR_bin {op : BinOp} {T T' : TypeId} {x y : Operand} {k : IntKind} {m n : Int} {v : AV} (hx : ev a x = some (.i k m)) (hy : ev a y = some (.i k n)) (hv : binI op k m n = some v)
    (hk : K (st a d v) h) : OpR P (.binOp op T x y T') d a h K :=
  OpR_V (OpV_bin hx hy hv) hk
theorem OpR_arith {op : BinOp} {T T' : TypeId} {x y : Operand} {m n : Int} (z : Int) (hx : ev a x = some (.i .i64 m)) (hy : ev a y = some (.i .i64 n))
    (hz : binI op .i64 m n = some (.i .i64 (IntKind.i64.wrap z))) (h1 : -9223372036854775808 ≤ z) (h2 : z ≤ 9223372036854775807)
    (hk : K (st a d (.i .i64 z)) h) : OpR P (.binOp op T x y T') d a h K := by
  have e : IntKind.i64.wrap z = z := IntWalk.i64_in z ⟨h1, h2⟩
  rw [e] at hz
  exact OpR_bin hx hy hz hk
theorem OpV_rem {T T' : TypeId} {x y : Operand} {k : IntKind} {m n : Int} (hx : ev a x = some (.i k m)) (hy : ev a y = some (.i k n)) (hn : n ≠ 0)
    : OpV P (.binOp .rem T x y T') a (.i k (m.tmod n)) :=
  fun ι ca hr o ho => by
    have h1 := rel_i (ev_rel hr hx); have h2 := rel_i (ev_rel hr hy)
    refine ⟨_, fun w => ?_, .i _ _⟩
    unfold execOp
    simp [ho, h1, h2, eqGuard, binOp, Op.intDiv, hn]
theorem OpR_rem {T T' : TypeId} {x y : Operand} {k : IntKind} {m n : Int} (hx : ev a x = some (.i k m)) (hy : ev a y = some (.i k n)) (hn : n ≠ 0)
    (hk : K (st a d (.i k (m.tmod n))) h) : OpR P (.binOp .rem T x y T') d a h K :=
  OpR_V (OpV_rem hx hy hn) hk
theorem OpV_quo {T T' : TypeId} {x y : Operand} {k : IntKind} {m n : Int} (hx : ev a x = some (.i k m)) (hy : ev a y = some (.i k n)) (hn : n ≠ 0)
    : OpV P (.binOp .quo T x y T') a (.i k (k.wrap (m.tdiv n))) :=
  fun ι ca hr o ho => by
    have h1 := rel_i (ev_rel hr hx); have h2 := rel_i (ev_rel hr hy)
    refine ⟨_, fun w => ?_, .i _ _⟩
    unfold execOp
    simp [ho, h1, h2, eqGuard, binOp, Op.intDiv, hn]
theorem OpR_quo {T T' : TypeId} {x y : Operand} {k : IntKind} {m n : Int} (hx : ev a x = some (.i k m)) (hy : ev a y = some (.i k n)) (hn : n ≠ 0)
    (hk : K (st a d (.i k (k.wrap (m.tdiv n)))) h) : OpR P (.binOp .quo T x y T') d a h K :=
  OpR_V (OpV_quo hx hy hn) hk
theorem OpV_shl {T T' : TypeId} {x y : Operand} {k k' : IntKind} {m n : Int} (hx : ev a x = some (.i k m)) (hy : ev a y = some (.i k' n)) (hn : 0 ≤ n)
    : OpV P (.binOp .shl T x y T') a (.i k (k.wrap (m * 2 ^ min n.toNat k.bits))) :=
  fun ι ca hr o ho => by
    have h1 := rel_i (ev_rel hr hx); have h2 := rel_i (ev_rel hr hy)
    refine ⟨_, fun w => ?_, .i _ _⟩
    unfold execOp
    simp [ho, h1, h2, eqGuard, binOp, Op.shift, show ¬ n < 0 by omega]
theorem OpR_shl {T T' : TypeId} {x y : Operand} {k k' : IntKind} {m n : Int} (hx : ev a x = some (.i k m)) (hy : ev a y = some (.i k' n)) (hn : 0 ≤ n)
    (hk : K (st a d (.i k (k.wrap (m * 2 ^ min n.toNat k.bits)))) h) : OpR P (.binOp .shl T x y T') d a h K :=
  OpR_V (OpV_shl hx hy hn) hk
theorem OpV_shr {T T' : TypeId} {x y : Operand} {k k' : IntKind} {m n : Int} (hx : ev a x = some (.i k m)) (hy : ev a y = some (.i k' n)) (hn : 0 ≤ n)
    : OpV P (.binOp .shr T x y T') a (.i k (m.fdiv (2 ^ min n.toNat k.bits))) :=
  fun ι ca hr o ho => by
    have h1 := rel_i (ev_rel hr hx); have h2 := rel_i (ev_rel hr hy)
    refine ⟨_, fun w => ?_, .i _ _⟩
    unfold execOp
    simp [ho, h1, h2, eqGuard, binOp, Op.shift, show ¬ n < 0 by omega]
theorem OpR_shr {T T' : TypeId} {x y : Operand} {k k' : IntKind} {m n : Int} (hx : ev a x = some (.i k m)) (hy : ev a y = some (.i k' n)) (hn : 0 ≤ n)
    (hk : K (st a d (.i k (m.fdiv (2 ^ min n.toNat k.bits)))) h) : OpR P (.binOp .shr T x y T') d a h K :=
  OpR_V (OpV_shr hx hy hn) hk
theorem run_equalIn_bool {T : TypeId} (hT : P.underlying T = some .bool) (x y : Bool) (w : World) (d : Nat) : (Op.equalIn (d + 1) T (.bool x) (.bool y)).run P w = .ok (x == y) w := by
  simp only [Op.equalIn, Sem.run_bind, run_underlying hT, Result.andThen_ok, Sem.run_pure]
theorem run_equalIn_slnil {T e : TypeId} (hT : P.underlying T = some (.slice e)) (p : Option Addr) (n c : Nat) (w : World) (d : Nat) : (Op.equalIn (d + 1) T (.slice p n c) (.slice none 0 0)).run P w = .ok p.isNone w := by
  cases p <;> simp only [Op.equalIn, Sem.run_bind, run_underlying hT, Result.andThen_ok, Sem.run_pure] <;> rfl
theorem run_equal_bool {T : TypeId} (hT : P.underlying T = some .bool) (x y : Bool) (w : World) : (Op.equal T (.bool x) (.bool y)).run P w = .ok (x == y) w := run_equalIn_bool hT x y w 9999
theorem run_equal_slnil {T e : TypeId} (hT : P.underlying T = some (.slice e)) (p : Option Addr) (n c : Nat) (w : World) : (Op.equal T (.slice p n c) (.slice none 0 0)).run P w = .ok p.isNone w := run_equalIn_slnil hT p n c w 9999
/-- Bools: equal or not. -/
theorem OpV_beq {op : BinOp} {T T' : TypeId} {x y : Operand} {t u : Bool} (hT : P.underlying T = some .bool) (hx : ev a x = some (.b t)) (hy : ev a y = some (.b u)) (z : Bool)
    (hop : (op = .eql ∧ z = (t == u)) ∨ (op = .neq ∧ z = (t != u))) : OpV P (.binOp op T x y T') a (.b z) :=
  fun ι ca hr o ho => by
    have h1 := rel_b (ev_rel hr hx); have h2 := rel_b (ev_rel hr hy)
    refine ⟨.bool z, fun w => ?_, .b _⟩
    unfold execOp
    rcases hop with ⟨rfl, rfl⟩ | ⟨rfl, rfl⟩ <;> simp only [ho, h1, h2, eqGuard, binOp, Sem.run_bind, Sem.run_pure, Result.andThen_ok, run_equal_bool hT] <;> rfl
theorem OpR_beq {op : BinOp} {T T' : TypeId} {x y : Operand} {t u : Bool} (hT : P.underlying T = some .bool) (hx : ev a x = some (.b t)) (hy : ev a y = some (.b u)) (z : Bool)
    (hop : (op = .eql ∧ z = (t == u)) ∨ (op = .neq ∧ z = (t != u))) (hk : K (st a d (.b z)) h) : OpR P (.binOp op T x y T') d a h K :=
  OpR_V (OpV_beq hT hx hy z hop) hk
/-- A slice held against nil. -/
theorem OpV_slnil {op : BinOp} {T T' e : TypeId} {x y : Operand} {v : AV} (hT : P.underlying T = some (.slice e)) (hx : ev a x = some v) (hy : ev a y = some .ns) (z t : Bool)
    (hv : (v = .ns ∧ t = true) ∨ (∃ b o n c, v = .sl b o n c ∧ t = false)) (hop : (op = .eql ∧ z = t) ∨ (op = .neq ∧ z = !t)) : OpV P (.binOp op T x y T') a (.b z) :=
  fun ι ca hr o ho => by
    have h1 := ev_rel hr hx
    have h2 : ca.eval y = .slice none 0 0 := by have := ev_rel hr hy; generalize ca.eval y = q at this; cases this; rfl
    obtain ⟨p, n, c, h3, hp⟩ : ∃ p n c, ca.eval x = .slice p n c ∧ p.isNone = t := by
      generalize ca.eval x = q at h1
      rcases hv with ⟨rfl, ht⟩ | ⟨b, o, n, c, rfl, ht⟩
      · cases h1; exact ⟨_, _, _, rfl, by rw [ht]; rfl⟩
      · cases h1; exact ⟨_, _, _, rfl, by rw [ht]; rfl⟩
    refine ⟨.bool z, fun w => ?_, .b _⟩
    unfold execOp
    rcases hop with ⟨rfl, rfl⟩ | ⟨rfl, rfl⟩ <;> simp only [ho, h2, h3, eqGuard, binOp, Sem.run_bind, Sem.run_pure, Result.andThen_ok, run_equal_slnil hT, hp] <;> rfl
theorem OpR_slnil {op : BinOp} {T T' e : TypeId} {x y : Operand} {v : AV} (hT : P.underlying T = some (.slice e)) (hx : ev a x = some v) (hy : ev a y = some .ns) (z t : Bool)
    (hv : (v = .ns ∧ t = true) ∨ (∃ b o n c, v = .sl b o n c ∧ t = false)) (hop : (op = .eql ∧ z = t) ∨ (op = .neq ∧ z = !t)) (hk : K (st a d (.b z)) h) : OpR P (.binOp op T x y T') d a h K :=
  OpR_V (OpV_slnil hT hx hy z t hv hop) hk
theorem OpV_not {T : TypeId} {x : Operand} {t : Bool} (hx : ev a x = some (.b t)) : OpV P (.unOp .not T x) a (.b !t) :=
  fun ι ca hr o ho => by
    have h1 := rel_b (ev_rel hr hx)
    refine ⟨_, fun w => ?_, .b _⟩
    unfold execOp
    simp [ho, h1, Op.unary]
theorem OpR_not {T : TypeId} {x : Operand} {t : Bool} (hx : ev a x = some (.b t)) (hk : K (st a d (.b !t)) h) : OpR P (.unOp .not T x) d a h K :=
  OpR_V (OpV_not hx) hk
theorem OpV_neg {T : TypeId} {x : Operand} {k : IntKind} {n : Int} (hx : ev a x = some (.i k n)) : OpV P (.unOp .neg T x) a (.i k (k.wrap (0 - n))) :=
  fun ι ca hr o ho => by
    have h1 := rel_i (ev_rel hr hx)
    refine ⟨.int k (k.wrap (0 - n)), fun w => ?_, .i _ _⟩
    unfold execOp
    simp [ho, h1, Op.unary, Op.intArith]
theorem OpR_neg {T : TypeId} {x : Operand} {k : IntKind} {n : Int} (hx : ev a x = some (.i k n)) (hk : K (st a d (.i k (k.wrap (0 - n)))) h) : OpR P (.unOp .neg T x) d a h K :=
  OpR_V (OpV_neg hx) hk
theorem OpV_conv {S D : TypeId} {x : Operand} {k k' : IntKind} {n : Int} {ds : TypeDesc} (hs : P.underlying S = some ds) (hD : P.underlying D = some (.int k')) (hx : ev a x = some (.i k n)) : OpV P (.convert S D x) a (.i k' (k'.wrap n)) :=
  fun ι ca hr o ho => by
    have h1 := rel_i (ev_rel hr hx)
    refine ⟨.int k' (k'.wrap n), fun w => ?_, .i _ _⟩
    unfold execOp
    simp [ho, h1, convert, run_underlying hs, run_underlying hD, Conv.intToInt]
theorem OpR_conv {S D : TypeId} {x : Operand} {k k' : IntKind} {n : Int} {ds : TypeDesc} (hs : P.underlying S = some ds) (hD : P.underlying D = some (.int k')) (hx : ev a x = some (.i k n)) (hk : K (st a d (.i k' (k'.wrap n))) h) :
    OpR P (.convert S D x) d a h K :=
  OpR_V (OpV_conv hs hD hx) hk
theorem OpV_extract {x : Operand} {j : Nat} {vs : List AV} {v : AV} (hx : ev a x = some (.tup vs)) (hj : vs[j]? = some v) : OpV P (.extract x j) a v :=
  fun ι ca hr o ho => by
    have h1 := ev_rel hr hx
    obtain ⟨cs, hc, hcs⟩ : ∃ cs : Array Value, ca.eval x = .tuple cs ∧ VRels ι vs cs.toList := by
      generalize ca.eval x = q at h1
      cases h1 with | tup _ cs h => exact ⟨cs, rfl, h⟩
    obtain ⟨c, e, hv⟩ := hcs.get hj
    refine ⟨c, fun w => ?_, hv⟩
    have e' : cs[j]? = some c := by simpa using e
    unfold execOp
    simp [ho, hc, Instr.extract, e']
theorem OpR_extract {x : Operand} {j : Nat} {vs : List AV} {v : AV} (hx : ev a x = some (.tup vs)) (hj : vs[j]? = some v) (hk : K (st a d v) h) : OpR P (.extract x j) d a h K :=
  OpR_V (OpV_extract hx hj) hk
def fldA (P : Program) (S : TypeId) (f : Nat) : Option (Nat × Nat × Bool) := match P.underlying S with
  | some (.struct fs) => (fs[f]?).bind fun x => (szT P x.type).bind fun n => (aggT P x.type).map fun t => (x.offset, n, t)
  | _ => none
theorem fldA_out {S : TypeId} {f off n : Nat} {t : Bool} (H : fldA P S f = some (off, n, t)) :
    ∃ fs x, P.underlying S = some (.struct fs) ∧ fs[f]? = some x ∧ x.offset = off ∧ szT P x.type = some n ∧ aggT P x.type = some t := by
  unfold fldA at H
  split at H
  · rename_i fs hu
    cases hx : fs[f]? with
    | none => rw [hx] at H; simp at H
    | some x =>
      rw [hx] at H
      simp only [Option.bind_some] at H
      cases hn : szT P x.type with
      | none => rw [hn] at H; simp at H
      | some n' =>
        rw [hn] at H
        simp only [Option.bind_some, Option.map_eq_some_iff] at H
        obtain ⟨t', ht, e⟩ := H
        simp only [Prod.mk.injEq] at e
        obtain ⟨rfl, rfl, rfl⟩ := e
        exact ⟨fs, x, hu, hx, rfl, hn, ht⟩
  · cases H
def prt (t : Bool) (cs : List AV) (off n : Nat) : Option AV := if t then some (.agg ((cs.drop off).take n)) else cs[off]?
theorem OpV_field {S : TypeId} {x : Operand} {f off n : Nat} {t : Bool} {cs : List AV} {v : AV} (hf : fldA P S f = some (off, n, t)) (hx : ev a x = some (.agg cs)) (hv : prt t cs off n = some v)
    : OpV P (.field S x f) a v :=
  fun ι ca hr o ho => by
    obtain ⟨fs, y, hu, hy, rfl, hn, ht⟩ := fldA_out hf
    have h1 := ev_rel hr hx
    obtain ⟨cl, hc, hcs, hsc⟩ : ∃ cl : Array Value, ca.eval x = .agg cl ∧ VRels ι cs cl.toList ∧ cs.all AV.sc = true := by
      generalize ca.eval x = q at h1
      cases h1 with | agg _ cl hs h => exact ⟨cl, rfl, h, hs⟩
    have hrun : ∀ cv w, (part y.type cl y.offset).run P w = .ok cv w → (execOp ca.eval o).run P w = .ok (.value cv) w := by
      intro cv w e
      unfold execOp
      simp [ho, hc, Instr.field, run_underlying hu, hy, asAgg, e]
    cases t with
    | true =>
      simp only [prt, if_true, Option.some.injEq] at hv
      subst hv
      refine ⟨.agg (cl.extract y.offset (y.offset + n)), fun w => hrun _ w ?_, .agg _ _ ?_ ?_⟩
      · simp [part, run_isAgg_of ht, run_sizeOf_sz hn]
      · simp only [List.all_eq_true] at hsc ⊢
        intro z hz
        exact hsc z (List.mem_of_mem_drop (List.mem_of_mem_take hz))
      · have := (hcs.drop y.offset).take n
        simpa [Array.toList_extract, List.extract_eq_take_drop] using this
    | false =>
      simp only [prt, Bool.false_eq_true, if_false] at hv
      obtain ⟨c, e, hvr⟩ := hcs.get hv
      have e' : cl[y.offset]? = some c := by simpa using e
      exact ⟨c, fun w => hrun _ w (by simp [part, run_isAgg_of ht, e']), hvr⟩
theorem OpR_field {S : TypeId} {x : Operand} {f off n : Nat} {t : Bool} {cs : List AV} {v : AV} (hf : fldA P S f = some (off, n, t)) (hx : ev a x = some (.agg cs)) (hv : prt t cs off n = some v)
    (hk : K (st a d v) h) : OpR P (.field S x f) d a h K :=
  OpR_V (OpV_field hf hx hv) hk
theorem OpV_fieldAddr {S : TypeId} {x : Operand} {f off n b o' : Nat} {t : Bool} (hf : fldA P S f = some (off, n, t)) (hn0 : n ≠ 0) (hx : ev a x = some (.p b o')) : OpV P (.fieldAddr S x f) a (.p b (o' + off)) :=
  fun ι ca hr o ho => by
    obtain ⟨fs, y, hu, hy, rfl, hn, ht⟩ := fldA_out hf
    have h1 := ev_rel hr hx
    obtain ⟨pl, hpl, hc⟩ : ∃ pl : Place, ι.bl[b]? = some pl ∧ ca.eval x = .pointer (some ⟨pl.c, pl.o + o', none⟩) := by
      generalize ca.eval x = q at h1
      cases h1 with | p _ _ pl h => exact ⟨pl, h, rfl⟩
    refine ⟨.pointer (some ⟨pl.c, pl.o + (o' + y.offset), none⟩), fun w => ?_, .p _ _ _ hpl⟩
    unfold execOp
    simp [ho, hc, Instr.fieldAt, run_underlying hu, hy, Instr.sureAddr, fieldPlace, run_sizeOf_sz hn, hn0, add_none, Nat.add_assoc]
theorem OpR_fieldAddr {S : TypeId} {x : Operand} {f off n b o' : Nat} {t : Bool} (hf : fldA P S f = some (off, n, t)) (hn0 : n ≠ 0) (hx : ev a x = some (.p b o')) (hk : K (st a d (.p b (o' + off))) h) :
    OpR P (.fieldAddr S x f) d a h K :=
  OpR_V (OpV_fieldAddr hf hn0 hx) hk
theorem OpV_nilCheck {x : Operand} {b o' : Nat} (hx : ev a x = some (.p b o')) : OpV P (.nilCheck x) a (.p b o') :=
  fun ι ca hr o ho => by
    have h1 := ev_rel hr hx
    refine ⟨ca.eval x, fun w => ?_, h1⟩
    generalize hq : ca.eval x = q at h1
    cases h1
    unfold execOp
    simp [ho, hq]
theorem OpR_nilCheck {x : Operand} {b o' : Nat} (hx : ev a x = some (.p b o')) (hk : K (st a d (.p b o')) h) : OpR P (.nilCheck x) d a h K :=
  OpR_V (OpV_nilCheck hx) hk
theorem OpV_nilCheckF {x : Operand} {g : FuncId} {cs : List AV} (hx : ev a x = some (.f g cs)) : OpV P (.nilCheck x) a (.f g cs) :=
  fun ι ca hr o ho => by
    have h1 := ev_rel hr hx
    refine ⟨ca.eval x, fun w => ?_, h1⟩
    generalize hq : ca.eval x = q at h1
    cases h1
    unfold execOp
    simp [ho, hq]
theorem OpR_nilCheckF {x : Operand} {g : FuncId} {cs : List AV} (hx : ev a x = some (.f g cs)) (hk : K (st a d (.f g cs)) h) : OpR P (.nilCheck x) d a h K :=
  OpR_V (OpV_nilCheckF hx) hk
theorem OpV_makeFunc {g : FuncId} {cap : Array Operand} {vs : List AV} (hc : evs a cap.toList = some vs) : OpV P (.makeFunc (.func g) #[] cap) a (.f g vs) :=
  fun ι ca hr o ho => by
    refine ⟨.func (.func g) #[] (cap.map ca.eval), fun w => ?_, .f g vs _ (by simpa using evs_rel hr hc)⟩
    unfold execOp
    simp [ho, Instr.makeFunc]
theorem OpR_makeFunc {g : FuncId} {cap : Array Operand} {vs : List AV} (hc : evs a cap.toList = some vs) (hk : K (st a d (.f g vs)) h) : OpR P (.makeFunc (.func g) #[] cap) d a h K :=
  OpR_V (OpV_makeFunc hc) hk
theorem rel_sl {ι : Pl} {b off len : Nat} {c : Bool} {q : Value} (H : VRel ι (.sl b off len c) q) : ∃ (pl : Place) (x : Addr) (cap : Nat), ι.bl[b]? = some pl ∧ q = .slice (some x) len cap ∧ len ≤ cap ∧ (c = true → cap = len) ∧
    (cap = 0 ∨ (x = ⟨pl.c, pl.o + off, none⟩ ∧ pl.o + off + cap * pl.k ≤ pl.n)) := by
  cases H with | sl _ _ _ _ pl x cap h hc hcl hx => exact ⟨pl, x, cap, h, rfl, hc, hcl, hx⟩
theorem OpV_indexAddr {T e : TypeId} {x ix : Operand} {b off len k : Nat} {c : Bool} {kk : IntKind} {n : Int} (hT : P.underlying T = some (.slice e)) (hs : szT P e = some k)
    (hx : ev a x = some (.sl b off len c)) (hi : ev a ix = some (.i kk n)) (h0 : 0 ≤ n) (h1 : n < len) : OpV P (.indexAddr T x ix) a (.p b (off + n.toNat * k)) :=
  fun ι ca hr o ho => by
    obtain ⟨pl, y, cap, hpl, hq, hle, _, hxx⟩ := rel_sl (ev_rel hr hx)
    have hn := rel_i (ev_rel hr hi)
    have hy : y = ⟨pl.c, pl.o + off, none⟩ := by rcases hxx with e | e; omega; exact e.1
    subst hy
    refine ⟨.pointer (some ⟨pl.c, pl.o + (off + n.toNat * k), none⟩), fun w => ?_, .p _ _ _ hpl⟩
    unfold execOp
    simp [ho, hq, hn, Instr.indexAt, asIntOf, run_underlying hT, h0, h1, run_sizeOf_sz hs, add_none, Nat.add_assoc]
theorem OpR_indexAddr {T e : TypeId} {x ix : Operand} {b off len k : Nat} {c : Bool} {kk : IntKind} {n : Int} (hT : P.underlying T = some (.slice e)) (hs : szT P e = some k)
    (hx : ev a x = some (.sl b off len c)) (hi : ev a ix = some (.i kk n)) (h0 : 0 ≤ n) (h1 : n < len) (hk : K (st a d (.p b (off + n.toNat * k))) h) : OpR P (.indexAddr T x ix) d a h K :=
  OpR_V (OpV_indexAddr hT hs hx hi h0 h1) hk
theorem OpV_len {T e : TypeId} {x : Operand} {b off len : Nat} {c : Bool} (hT : P.underlying T = some (.slice e)) (hx : ev a x = some (.sl b off len c)) : OpV P (.call { callee := .builtin .len, args := #[x], argTypes := #[T] }) a (.i .i64 len) :=
  fun ι ca hr o ho => by
    obtain ⟨pl, y, cap, hpl, hq, hle, _, hxx⟩ := rel_sl (ev_rel hr hx)
    refine ⟨.int .i64 len, fun w => ?_, .i _ _⟩
    unfold execOp
    simp [ho, resolve, invoke, builtin, hq, Builtin.len_, run_underlying hT, goInt]
theorem OpR_len {T e : TypeId} {x : Operand} {b off len : Nat} {c : Bool} (hT : P.underlying T = some (.slice e)) (hx : ev a x = some (.sl b off len c)) (hk : K (st a d (.i .i64 len)) h) :
    OpR P (.call { callee := .builtin .len, args := #[x], argTypes := #[T] }) d a h K :=
  OpR_V (OpV_len hT hx) hk
theorem OpV_len0 {T e : TypeId} {x : Operand} (hT : P.underlying T = some (.slice e)) (hx : ev a x = some .ns) : OpV P (.call { callee := .builtin .len, args := #[x], argTypes := #[T] }) a (.i .i64 0) :=
  fun ι ca hr o ho => by
    have hq : ca.eval x = .slice none 0 0 := by have := ev_rel hr hx; generalize ca.eval x = q at this; cases this; rfl
    refine ⟨.int .i64 0, fun w => ?_, .i _ _⟩
    unfold execOp
    simp [ho, resolve, invoke, builtin, hq, Builtin.len_, run_underlying hT, goInt]
theorem OpR_len0 {T e : TypeId} {x : Operand} (hT : P.underlying T = some (.slice e)) (hx : ev a x = some .ns) (hk : K (st a d (.i .i64 0)) h) :
    OpR P (.call { callee := .builtin .len, args := #[x], argTypes := #[T] }) d a h K :=
  OpR_V (OpV_len0 hT hx) hk
theorem OpV_lens {T : TypeId} {x : Operand} {s : ByteArray} (hT : P.underlying T = some .string) (hx : ev a x = some (.s s)) : OpV P (.call { callee := .builtin .len, args := #[x], argTypes := #[T] }) a (.i .i64 s.size) :=
  fun ι ca hr o ho => by
    have hq := rel_s (ev_rel hr hx)
    refine ⟨.int .i64 s.size, fun w => ?_, .i _ _⟩
    unfold execOp
    simp [ho, resolve, invoke, builtin, hq, Builtin.len_, run_underlying hT, goInt]
theorem OpR_lens {T : TypeId} {x : Operand} {s : ByteArray} (hT : P.underlying T = some .string) (hx : ev a x = some (.s s)) (hk : K (st a d (.i .i64 s.size)) h) :
    OpR P (.call { callee := .builtin .len, args := #[x], argTypes := #[T] }) d a h K :=
  OpR_V (OpV_lens hT hx) hk
theorem OpV_index {T : TypeId} {x ix : Operand} {s : ByteArray} {kk : IntKind} {n : Int} {u : UInt8} (hT : P.underlying T = some .string) (hx : ev a x = some (.s s)) (hi : ev a ix = some (.i kk n)) (h0 : 0 ≤ n)
    (hu : s[n.toNat]? = some u) : OpV P (.index T x ix) a (.i .u8 u.toNat) :=
  fun ι ca hr o ho => by
    have hq := rel_s (ev_rel hr hx)
    have hn := rel_i (ev_rel hr hi)
    refine ⟨.int .u8 u.toNat, fun w => ?_, .i _ _⟩
    unfold execOp
    simp [ho, hq, hn, Instr.index, asIntOf, run_underlying hT, h0, hu]
theorem OpR_index {T : TypeId} {x ix : Operand} {s : ByteArray} {kk : IntKind} {n : Int} {u : UInt8} (hT : P.underlying T = some .string) (hx : ev a x = some (.s s)) (hi : ev a ix = some (.i kk n)) (h0 : 0 ≤ n)
    (hu : s[n.toNat]? = some u) (hk : K (st a d (.i .u8 u.toNat)) h) : OpR P (.index T x ix) d a h K :=
  OpR_V (OpV_index hT hx hi h0 hu) hk
theorem OpV_min {x y : Operand} {Ts : Array TypeId} {k : IntKind} {m n : Int} (hx : ev a x = some (.i k m)) (hy : ev a y = some (.i k n)) : OpV P (.call { callee := .builtin .min, args := #[x, y], argTypes := Ts }) a (.i k (if n < m then n else m)) :=
  fun ι ca hr o ho => by
    have h1 := rel_i (ev_rel hr hx); have h2 := rel_i (ev_rel hr hy)
    refine ⟨.int k (if n < m then n else m), fun w => ?_, .i _ _⟩
    unfold execOp
    simp [ho, resolve, invoke, builtin, h1, h2, Builtin.min_, Builtin.min2, List.foldlM]
theorem OpR_min {x y : Operand} {Ts : Array TypeId} {k : IntKind} {m n : Int} (hx : ev a x = some (.i k m)) (hy : ev a y = some (.i k n)) (hk : K (st a d (.i k (if n < m then n else m))) h) :
    OpR P (.call { callee := .builtin .min, args := #[x, y], argTypes := Ts }) d a h K :=
  OpR_V (OpV_min hx hy) hk
theorem OpV_max {x y : Operand} {Ts : Array TypeId} {k : IntKind} {m n : Int} (hx : ev a x = some (.i k m)) (hy : ev a y = some (.i k n)) : OpV P (.call { callee := .builtin .max, args := #[x, y], argTypes := Ts }) a (.i k (if n > m then n else m)) :=
  fun ι ca hr o ho => by
    have h1 := rel_i (ev_rel hr hx); have h2 := rel_i (ev_rel hr hy)
    refine ⟨.int k (if n > m then n else m), fun w => ?_, .i _ _⟩
    unfold execOp
    simp [ho, resolve, invoke, builtin, h1, h2, Builtin.max_, Builtin.max2, List.foldlM]
theorem OpR_max {x y : Operand} {Ts : Array TypeId} {k : IntKind} {m n : Int} (hx : ev a x = some (.i k m)) (hy : ev a y = some (.i k n)) (hk : K (st a d (.i k (if n > m then n else m))) h) :
    OpR P (.call { callee := .builtin .max, args := #[x, y], argTypes := Ts }) d a h K :=
  OpR_V (OpV_max hx hy) hk
theorem OpR_load {T : TypeId} {x : Operand} {b o' : Nat} {v : AV} (hx : ev a x = some (.p b o')) (hv : loadA P T h b o' = some v) (hk : K (st a d v) h) : OpR P (.load T x) d a h K :=
  OpR_pure (fun base w0 ι w ca hrep hr o ho => by
    have h1 := ev_rel hr hx
    obtain ⟨pl, hpl, hc⟩ : ∃ pl : Place, ι.bl[b]? = some pl ∧ ca.eval x = .pointer (some ⟨pl.c, pl.o + o', none⟩) := by
      generalize ca.eval x = q at h1
      cases h1 with | p _ _ pl h => exact ⟨pl, h, rfl⟩
    obtain ⟨cv, e1, e2⟩ := run_loadVar_abs (P := P) hrep hpl hv
    refine ⟨cv, ?_, e2⟩
    unfold execOp
    simp [ho, hc, Instr.loadAt, Instr.sureAddr, e1]) hk
/-- A bound of a cut. -/
def SB (a : List AV) (o : Option Operand) (dflt n : Nat) : Prop := (o = none ∧ n = dflt) ∨ ∃ x k z, o = some x ∧ ev a x = some (.i k z) ∧ 0 ≤ z ∧ z.toNat = n
theorem run_sliceBound {k : IntKind} {z : Int} {y : Nat} {c : BoundsCode} (h0 : 0 ≤ z) (h1 : z.toNat ≤ y) (w : World) : (Instr.sliceBound (.int k z) y c).run P w = .ok z.toNat w := by
  simp [Instr.sliceBound, asIntOf, h0, show z ≤ (y : Int) by omega]
theorem OpR_slice {T e : TypeId} {x : Operand} {lo hi : Option Operand} {b off len k l u : Nat} {c : Bool} (hT : P.underlying T = some (.slice e)) (hs : szT P e = some k)
    (hx : ev a x = some (.sl b off len c)) (hlo : SB a lo 0 l) (hhi : SB a hi len u) (h1 : l ≤ u) (h2 : u ≤ len) (hbk : (h.mt[b]?).map (·.k) = some k)
    (hk : K (st a d (.sl b (off + l * k) (u - l) (c && hi.isNone))) h) : OpR P (.slice T x lo hi none) d a h K :=
  OpR_pure (fun base w0 ι w ca hrep hr o ho => by
    obtain ⟨pl, y, cap, hpl, hq, hle, hcl, hxx⟩ := rel_sl (ev_rel hr hx)
    have hpk' : pl.k = k := by
      cases hm : h.mt[b]? with
      | none => rw [hm] at hbk; simp at hbk
      | some m => rw [hm] at hbk; simp at hbk; rw [hrep.kk b pl m hpl hm, hbk]
    have hrun : (Instr.sliceBounds true len cap (lo.map ca.eval) (hi.map ca.eval) none).run P w = .ok (l, u, cap) w := by
      rcases hlo with ⟨rfl, rfl⟩ | ⟨z, kk, n, rfl, hz, hn0, rfl⟩ <;> rcases hhi with ⟨rfl, rfl⟩ | ⟨z', kk', n', rfl, hz', hn0', rfl⟩
      · simp [Instr.sliceBounds]
      · have e := rel_i (ev_rel hr hz')
        simp [Instr.sliceBounds, e, run_sliceBound hn0' (show n'.toNat ≤ cap by omega)]
      · have e := rel_i (ev_rel hr hz)
        simp [Instr.sliceBounds, e, run_sliceBound hn0 h1]
      · have e := rel_i (ev_rel hr hz)
        have e' := rel_i (ev_rel hr hz')
        simp [Instr.sliceBounds, e, e', run_sliceBound hn0' (show n'.toNat ≤ cap by omega), run_sliceBound hn0 h1]
    refine ⟨.slice (some (if cap = l then y else y.add (l * k))) (u - l) (cap - l), ?_, ?_⟩
    · unfold execOp
      simp only [ho, hq, Instr.sliceAt, Sem.run_bind, run_underlying hT, Result.andThen_ok, Option.map_none, Instr.slice, hrun, run_sizeOf_sz hs, Sem.run_pure, Option.map_some]
      by_cases e : cap = l <;> simp [e]
    · by_cases e : cap = l
      · rw [if_pos e]
        exact .sl b _ _ _ pl y (cap - l) hpl (by omega) (by intro hc; simp only [Bool.and_eq_true] at hc; have := hcl hc.1; omega) (.inl (by omega))
      · rw [if_neg e]
        have hc0 : ¬ cap = 0 := by omega
        rw [(hxx.resolve_left hc0).1, add_none]
        refine .sl b _ _ _ pl ⟨pl.c, pl.o + off + l * k, none⟩ (cap - l) hpl (by omega) ?_ ?_
        · intro hc
          simp only [Bool.and_eq_true] at hc
          have h3 := hcl hc.1
          rcases hhi with ⟨rfl, rfl⟩ | ⟨z, kk, n, rfl, _⟩
          · omega
          · simp at hc
        · rcases hxx with e' | ⟨e1, e2⟩
          · exact .inl (by omega)
          · refine .inr ⟨by rw [Nat.add_assoc], ?_⟩
            rw [hpk'] at *
            have : pl.o + (off + l * k) + (cap - l) * k = pl.o + off + cap * k := by
              rw [← Nat.add_assoc, Nat.add_assoc (pl.o + off), ← Nat.add_mul]; congr 2; omega
            omega) hk
end
end Go.AL
