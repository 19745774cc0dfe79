/- The logic of what is owned, part 1: the judgements, their rules, and one tactic text that is kept in a theorem. -/
import Derived.Test.YtdcliofmdlhmaaaB9
namespace Go.AL
set_option linter.unusedVariables false
set_option linter.unusedSimpArgs false
open Go.RowKit

theorem AI.mono {P : Program} {c : IC} {Q Q' : Exit → List AV → AH → Prop} {a : List AV} {h : AH} (H : AI P c Q a h) (hq : ∀ e a h, Q e a h → Q' e a h) : AI P c Q' a h :=
  fun code hd base w0 ι0 ι w ca hok => Code.wp_mono (fun e _ _ ⟨ι', a', h', hok', q⟩ => ⟨ι', a', h', hok', hq e a' h' q⟩) (H code hd base w0 ι0 ι w ca hok)

theorem sc_cons {v : AV} {l : List AV} (h1 : v.sc = true) (h2 : l.all AV.sc = true) : (v :: l).all AV.sc = true := by rw [List.all_cons, h1, h2]; rfl
theorem rd_sc {α : Type} {k : Nat} {enc : α → List AV} {h : AH} {v : AV} {l : List α} (H : RdG k enc h v l) : v.sc = true := by rcases H.rd with rfl | ⟨b, o, c, rfl, _⟩ <;> rfl
/-! ### Judgements -/
/-- What holds behind, told by what is owned. -/
def Lh (h0 : AH) (Q : Exit → List AV → List It → Prop) : Exit → List AV → AH → Prop := fun e a h => ∃ L, Loq h0 h L ∧ Q e a L
def LI (P : Program) (h0 : AH) (L : List It) (c : IC) (Q : Exit → List AV → List It → Prop) (a : List AV) : Prop := ∀ h, Loq h0 h L → AI P c (Lh h0 Q) a h
def LIL (P : Program) (h0 : AH) (L : List It) (c : IC) (Q : Exit → List AV → List It → Prop) (a : List AV) : Prop := ∀ h, Loq h0 h L → AIL P c (Lh h0 Q) a h
def LS (P : Program) (h0 : AH) (L : List It) (l : List IOp) (Q : Exit → List AV → List It → Prop) (a : List AV) : Prop := ∀ h, Loq h0 h L → AS P l (Lh h0 Q) a h
def LThen (P : Program) (h0 : AH) (y : IC) (Q : Exit → List AV → List It → Prop) : Exit → List AV → List It → Prop
  | .normal, a, L => LI P h0 L y Q a
  | e, a, L => Q e a L
def LLoop (P : Program) (h0 : AH) (x : IC) (Q : Exit → List AV → List It → Prop) : Exit → List AV → List It → Prop
  | .normal, a, L => LIL P h0 L x Q a
  | e, a, L => Q e a L
def LBlk (id : Nat) (Q : Exit → List AV → List It → Prop) : Exit → List AV → List It → Prop
  | .exit id', a, L => if id' = id then Q .normal a L else Q (.exit id') a L
  | e, a, L => Q e a L
/-- What a function's end has to show. -/
def LRet (P : Program) (h0 : AH) (rs : List ResultVar) (R : AV → AH → Prop) : Exit → List AV → List It → Prop
  | .ret, a, L | .normal, a, L => ∀ h, Loq h0 h L → ∃ vs, ress P a h rs = some vs ∧ R (oneA vs) h
  | _, _, _ => False
section
variable {P : Program} {h0 h : AH} {L : List It} {Q : Exit → List AV → List It → Prop} {a : List AV} {l : List IOp} {d : Option Nat} {x y : IC}

theorem LI_startL {rs : List ResultVar} {R : AV → AH → Prop} {c : IC} (HL : Loq h0 h L) (H : LI P h0 L c (LRet P h0 rs R) a) : AI P c (RetQ P rs R) a h :=
  (H h HL).mono fun e a' h' ⟨L', HL', q⟩ => by
    cases e <;> first | exact q h' HL' | exact q
theorem LI_start {rs : List ResultVar} {R : AV → AH → Prop} {c : IC} (wf : h.wf) (H : LI P h [] c (LRet P h rs R) a) : AI P c (RetQ P rs R) a h := LI_startL (Loq.nil wf) H
theorem LI_seq (H : LI P h0 L x (LThen P h0 y Q) a) : LI P h0 L (.seq x y) Q a := fun h HL =>
  AI_seq ((H h HL).mono fun e a' h' ⟨L', HL', q⟩ => by
    cases e <;> first | exact q h' HL' | exact ⟨L', HL', q⟩)
theorem LI_skip (H : Q .normal a L) : LI P h0 L .skip Q a := fun h HL => AI_skip ⟨L, HL, H⟩
theorem LI_exit {id : Nat} (H : Q (.exit id) a L) : LI P h0 L (.exit id) Q a := fun h HL => AI_exit ⟨L, HL, H⟩
theorem LI_ret (H : Q .ret a L) : LI P h0 L .ret Q a := fun h HL => AI_ret ⟨L, HL, H⟩
theorem LI_block {id : Nat} (H : LI P h0 L x (LBlk id Q) a) : LI P h0 L (.block id x) Q a := fun h HL =>
  AI_block ((H h HL).mono fun e a' h' ⟨L', HL', q⟩ => by
    cases e with
    | exit i => simp only [LBlk] at q; simp only [ABlk]; split <;> rename_i e <;> simp only [e, if_true, if_false] at q <;> exact ⟨L', HL', q⟩
    | _ => exact ⟨L', HL', q⟩)
theorem LI_loop (H : LIL P h0 L x Q a) : LI P h0 L (.loop x) Q a := fun h HL => AI_loop (H h HL)
theorem LLoop_elim {h : AH} (H : LI P h0 L x (LLoop P h0 x Q) a) (HL : Loq h0 h L) : AI P x (AThen (fun a h => AIL P x (Lh h0 Q) a h) (Lh h0 Q)) a h :=
  (H h HL).mono fun e a' h' ⟨L', HL', q⟩ => by
    cases e <;> first | exact q h' HL' | exact ⟨L', HL', q⟩
theorem LIL_ind (I : Nat → List AV → List It → Prop) (n : Nat) (HI : I n a L) (H : ∀ n a L, I n a L → (∀ m a L, m < n → I m a L → LIL P h0 L x Q a) → LI P h0 L x (LLoop P h0 x Q) a) : LIL P h0 L x Q a := fun h HL =>
  AIL_ind (fun n a h => ∃ L, Loq h0 h L ∧ I n a L) (fun n a h ⟨L, HL, hi⟩ IH => LLoop_elim (H n a L hi fun m a L hm hI h HL => IH m a h hm ⟨L, HL, hI⟩) HL) n a h ⟨L, HL, HI⟩
theorem LI_reg (H : LS P h0 L l Q a) : LI P h0 L (.reg l) Q a := fun h HL => AI_reg (H h HL)
theorem LI_cond_t {c : Operand} {t : Bool} (hc : ev a c = some (.b t)) (ht : t = true) (H : LI P h0 L x Q a) : LI P h0 L (.cond c x y) Q a := fun h HL => AI_cond_t hc ht (H h HL)
theorem LI_cond_f {c : Operand} {t : Bool} (hc : ev a c = some (.b t)) (ht : t = false) (H : LI P h0 L y Q a) : LI P h0 L (.cond c x y) Q a := fun h HL => AI_cond_f hc ht (H h HL)
theorem LI_cond {c : Operand} {t : Bool} (hc : ev a c = some (.b t)) (ht : t = true → LI P h0 L x Q a) (hf : t = false → LI P h0 L y Q a) : LI P h0 L (.cond c x y) Q a := fun h HL => AI_cond hc (fun e => ht e h HL) (fun e => hf e h HL)
/-- The end of a part. -/
theorem LThen_n (H : LI P h0 L y Q a) : LThen P h0 y Q .normal a L := H
theorem LThen_r (H : Q .ret a L) : LThen P h0 y Q .ret a L := H
theorem LThen_e {i : Nat} (H : Q (.exit i) a L) : LThen P h0 y Q (.exit i) a L := H
theorem LLoop_n (H : LIL P h0 L x Q a) : LLoop P h0 x Q .normal a L := H
theorem LLoop_r (H : Q .ret a L) : LLoop P h0 x Q .ret a L := H
theorem LLoop_e {i : Nat} (H : Q (.exit i) a L) : LLoop P h0 x Q (.exit i) a L := H
theorem LBlk_n {i : Nat} (H : Q .normal a L) : LBlk i Q .normal a L := H
theorem LBlk_r {i : Nat} (H : Q .ret a L) : LBlk i Q .ret a L := H
theorem LBlk_e {i : Nat} (H : Q .normal a L) : LBlk i Q (.exit i) a L := by simp only [LBlk, if_true]; exact H
theorem LBlk_o {i j : Nat} (hij : (i == j) = false) (H : Q (.exit i) a L) : LBlk j Q (.exit i) a L := by simp only [LBlk]; rw [if_neg (by simpa using hij)]; exact H
theorem LRet_r {rs : List ResultVar} {R : AV → AH → Prop} (H : ∀ h, Loq h0 h L → ∃ vs, ress P a h rs = some vs ∧ R (oneA vs) h) : LRet P h0 rs R .ret a L := H
theorem LRet_n {rs : List ResultVar} {R : AV → AH → Prop} (H : ∀ h, Loq h0 h L → ∃ vs, ress P a h rs = some vs ∧ R (oneA vs) h) : LRet P h0 rs R .normal a L := H
/-! ### Operations -/
theorem LS_nil (H : Q .normal a L) : LS P h0 L [] Q a := fun h HL => AS_nil ⟨L, HL, H⟩
theorem LS_v {op : Op} {v : AV} (hv : OpV P op a v) (H : LS P h0 L l Q (st a d v)) : LS P h0 L (⟨d, op, none⟩ :: l) Q a := fun h HL => AS_op (OpR_V hv (H h HL))
theorem LS_mv {x : Operand} {v : AV} (hx : ev a x = some v) (H : LS P h0 L l Q (st a d v)) : LS P h0 L (⟨d, .move x, none⟩ :: l) Q a := LS_v (OpV_move hx) H
theorem LS_ag {x : Operand} {v : AV} (hx : ev a x = some v) (H : LS P h0 L l Q (st a d v)) : LS P h0 L (⟨d, .assign x, none⟩ :: l) Q a := LS_v (OpV_assign hx) H
theorem LS_ar {op : BinOp} {T T' : TypeId} {x y : Operand} {m n : Int} (z : Int) (hx : ev a x = some (.i .i64 m)) (hy : ev a y = some (.i .i64 n)) (hz : binI op .i64 m n = some (.i .i64 (IntKind.i64.wrap z))) (h1 : -9223372036854775808 ≤ z) (h2 : z ≤ 9223372036854775807)
    (H : LS P h0 L l Q (st a d (.i .i64 z))) : LS P h0 L (⟨d, .binOp op T x y T', none⟩ :: l) Q a := LS_v (OpV_arith z hx hy hz h1 h2) H
/-- Whether an operation may leave the bounds. -/
def isAr : BinOp → IntKind → Bool
  | .add, .i64 | .sub, .i64 | .mul, .i64 => true
  | _, _ => false
theorem LS_bn {op : BinOp} {T T' : TypeId} {x y : Operand} {k : IntKind} {m n : Int} {v : AV} (hx : ev a x = some (.i k m)) (hy : ev a y = some (.i k n)) (hv : binI op k m n = some v) (_ : isAr op k = false) (H : LS P h0 L l Q (st a d v)) :
    LS P h0 L (⟨d, .binOp op T x y T', none⟩ :: l) Q a := LS_v (OpV_bin hx hy hv) H
theorem LS_nt {T : TypeId} {x : Operand} {t : Bool} (hx : ev a x = some (.b t)) (H : LS P h0 L l Q (st a d (.b !t))) : LS P h0 L (⟨d, .unOp .not T x, none⟩ :: l) Q a := LS_v (OpV_not hx) H
theorem LS_ex {x : Operand} {j : Nat} {vs : List AV} {v : AV} (hx : ev a x = some (.tup vs)) (hj : vs[j]? = some v) (H : LS P h0 L l Q (st a d v)) : LS P h0 L (⟨d, .extract x j, none⟩ :: l) Q a := LS_v (OpV_extract hx hj) H
theorem LS_pt {c x y : Operand} {t : Bool} {v : AV} (hc : ev a c = some (.b t)) (ht : t = true) (hx : ev a x = some v) (H : LS P h0 L l Q (st a d v)) : LS P h0 L (⟨d, .pick c x y, none⟩ :: l) Q a := LS_v (OpV_pick_t hc ht hx) H
theorem LS_pf {c x y : Operand} {t : Bool} {v : AV} (hc : ev a c = some (.b t)) (ht : t = false) (hy : ev a y = some v) (H : LS P h0 L l Q (st a d v)) : LS P h0 L (⟨d, .pick c x y, none⟩ :: l) Q a := LS_v (OpV_pick_f hc ht hy) H
theorem LS_pb {c x y : Operand} {t u v : Bool} (hc : ev a c = some (.b t)) (hx : ev a x = some (.b u)) (hy : ev a y = some (.b v)) (H : LS P h0 L l Q (st a d (.b (if t then u else v)))) : LS P h0 L (⟨d, .pick c x y, none⟩ :: l) Q a := LS_v (OpV_pick_b hc hx hy) H
theorem LS_mf {g : FuncId} {cap : Array Operand} {vs : List AV} (hc : evs a cap.toList = some vs) (H : LS P h0 L l Q (st a d (.f g vs))) : LS P h0 L (⟨d, .makeFunc (.func g) #[] cap, none⟩ :: l) Q a := LS_v (OpV_makeFunc hc) H
theorem LS_nc {x : Operand} {b o' : Nat} (hx : ev a x = some (.p b o')) (H : LS P h0 L l Q (st a d (.p b o'))) : LS P h0 L (⟨d, .nilCheck x, none⟩ :: l) Q a := LS_v (OpV_nilCheck hx) H
theorem LS_ncf {x : Operand} {g : FuncId} {cs : List AV} (hx : ev a x = some (.f g cs)) (H : LS P h0 L l Q (st a d (.f g cs))) : LS P h0 L (⟨d, .nilCheck x, none⟩ :: l) Q a := LS_v (OpV_nilCheckF hx) H
theorem LS_gy {op : Op} {g : Nat} {t want : Bool} (hv : a[g]? = some (.b t)) (ht : t = want) (H : LS P h0 L (⟨d, op, none⟩ :: l) Q a) : LS P h0 L (⟨d, op, some (g, want)⟩ :: l) Q a := fun h HL => AS_gy hv ht (H h HL)
theorem LS_gtn {op : Op} {g : Nat} {t : Bool} (hv : a[g]? = some (.b t)) (ht : t = false) (H : LS P h0 L l Q (st a d un)) : LS P h0 L (⟨d, op, some (g, true)⟩ :: l) Q a := fun h HL => AS_gtn hv ht (H h HL)
theorem LS_gfn {op : Op} {g : Nat} {t : Bool} (hv : a[g]? = some (.b t)) (ht : t = true) (H : LS P h0 L l Q (st a d un)) : LS P h0 L (⟨d, op, some (g, false)⟩ :: l) Q a := fun h HL => AS_gfn hv ht (H h HL)
theorem LS_gu {op : Op} {g : Nat} {want : Bool} (hv : a[g]? = some un) (H : LS P h0 L l Q (st a d un)) : LS P h0 L (⟨d, op, some (g, want)⟩ :: l) Q a := fun h HL => AS_gu hv (H h HL)
theorem LS_gt {op : Op} {g : Nat} {t : Bool} (hv : a[g]? = some (.b t)) (hy : t = true → LS P h0 L (⟨d, op, none⟩ :: l) Q a) (hn : t = false → LS P h0 L l Q (st a d un)) : LS P h0 L (⟨d, op, some (g, true)⟩ :: l) Q a :=
  fun h HL => AS_gt hv (fun e => hy e h HL) (fun e => hn e h HL)
theorem LS_gf {op : Op} {g : Nat} {t : Bool} (hv : a[g]? = some (.b t)) (hy : t = false → LS P h0 L (⟨d, op, none⟩ :: l) Q a) (hn : t = true → LS P h0 L l Q (st a d un)) : LS P h0 L (⟨d, op, some (g, false)⟩ :: l) Q a :=
  fun h HL => AS_gf hv (fun e => hy e h HL) (fun e => hn e h HL)
end
/-! ### Facts on types, found by their numbers -/
class Tsz (P : Program) (T : TypeId) (n : outParam Nat) : Prop where e : szT P T = some n
class Tag (P : Program) (T : TypeId) (t : outParam Bool) : Prop where e : aggT P T = some t
class Tze (P : Program) (T : TypeId) (z : outParam AV) : Prop where e : zeroA P T = some z
class Tby (P : Program) (T : TypeId) (n : outParam Nat) : Prop where e : byT P T = some n
class Tpl (P : Program) (T : TypeId) (l : outParam (List (Nat × Nat))) : Prop where e : plA P T = some l
class Tfl (P : Program) (T : TypeId) (f : Nat) (o n : outParam Nat) (t : outParam Bool) : Prop where e : fldA P T f = some (o, n, t)
class Tsl (P : Program) (T : TypeId) (u : outParam TypeId) : Prop where e : P.underlying T = some (.slice u)
class Tik (P : Program) (T : TypeId) (k : outParam IntKind) : Prop where e : P.underlying T = some (.int k)
class Tbo (P : Program) (T : TypeId) : Prop where e : P.underlying T = some .bool
class Tst (P : Program) (T : TypeId) : Prop where e : P.underlying T = some .string
section
variable {P : Program} {h0 h : AH} {L : List It} {Q : Exit → List AV → List It → Prop} {a : List AV} {l : List IOp} {d : Option Nat}
theorem LS_bq {op : BinOp} {T T' : TypeId} {x y : Operand} {t u : Bool} [i : Tbo P T] (hx : ev a x = some (.b t)) (hy : ev a y = some (.b u)) (z : Bool) (hop : (op = .eql ∧ z = (t == u)) ∨ (op = .neq ∧ z = (t != u))) (H : LS P h0 L l Q (st a d (.b z))) :
    LS P h0 L (⟨d, .binOp op T x y T', none⟩ :: l) Q a := LS_v (OpV_beq i.e hx hy z hop) H
theorem LS_cv {S D : TypeId} {x : Operand} {k k' : IntKind} {n : Int} [i : Tik P S k] [j : Tik P D k'] (hx : ev a x = some (.i k n)) (H : LS P h0 L l Q (st a d (.i k' (k'.wrap n)))) : LS P h0 L (⟨d, .convert S D x, none⟩ :: l) Q a := LS_v (OpV_conv i.e j.e hx) H
theorem LS_fa {S : TypeId} {x : Operand} {f o n b o' : Nat} {t : Bool} [i : Tfl P S f o n t] (hn : (n == 0) = false) (hx : ev a x = some (.p b o')) (H : LS P h0 L l Q (st a d (.p b (o' + o)))) : LS P h0 L (⟨d, .fieldAddr S x f, none⟩ :: l) Q a :=
  LS_v (OpV_fieldAddr i.e (by simpa using hn) hx) H
theorem LS_fd {S : TypeId} {x : Operand} {f o n : Nat} {t : Bool} {cs : List AV} {v : AV} [i : Tfl P S f o n t] (hx : ev a x = some (.agg cs)) (hv : prt t cs o n = some v) (H : LS P h0 L l Q (st a d v)) : LS P h0 L (⟨d, .field S x f, none⟩ :: l) Q a :=
  LS_v (OpV_field i.e hx hv) H
theorem LS_ln {T e : TypeId} {x : Operand} {v : AV} {n : Nat} [i : Tsl P T e] (hx : ev a x = some v) (hn : lenA v = some n) (H : LS P h0 L l Q (st a d (.i .i64 n))) : LS P h0 L (⟨d, .call { callee := .builtin .len, args := #[x], argTypes := #[T] }, none⟩ :: l) Q a :=
  fun h HL => AS_op (OpR_lenA i.e hx hn (H h HL))
theorem LS_ls {T : TypeId} {x : Operand} {s : ByteArray} [i : Tst P T] (hx : ev a x = some (.s s)) (H : LS P h0 L l Q (st a d (.i .i64 s.size))) : LS P h0 L (⟨d, .call { callee := .builtin .len, args := #[x], argTypes := #[T] }, none⟩ :: l) Q a :=
  LS_v (OpV_lens i.e hx) H
theorem LS_mx {x y : Operand} {Ts : Array TypeId} {k : IntKind} {m n : Int} (hx : ev a x = some (.i k m)) (hy : ev a y = some (.i k n)) (H : LS P h0 L l Q (st a d (.i k (if n > m then n else m)))) : LS P h0 L (⟨d, .call { callee := .builtin .max, args := #[x, y], argTypes := Ts }, none⟩ :: l) Q a := LS_v (OpV_max hx hy) H
theorem LS_mn {x y : Operand} {Ts : Array TypeId} {k : IntKind} {m n : Int} (hx : ev a x = some (.i k m)) (hy : ev a y = some (.i k n)) (H : LS P h0 L l Q (st a d (.i k (if n < m then n else m)))) : LS P h0 L (⟨d, .call { callee := .builtin .min, args := #[x, y], argTypes := Ts }, none⟩ :: l) Q a := LS_v (OpV_min hx hy) H
theorem LS_rm {T T' : TypeId} {x y : Operand} {k : IntKind} {m n : Int} (hx : ev a x = some (.i k m)) (hy : ev a y = some (.i k n)) (hn : n ≠ 0) (H : LS P h0 L l Q (st a d (.i k (m.tmod n)))) : LS P h0 L (⟨d, .binOp .rem T x y T', none⟩ :: l) Q a := LS_v (OpV_rem hx hy hn) H
theorem LS_qu {T T' : TypeId} {x y : Operand} {k : IntKind} {m n : Int} (hx : ev a x = some (.i k m)) (hy : ev a y = some (.i k n)) (hn : n ≠ 0) (H : LS P h0 L l Q (st a d (.i k (k.wrap (m.tdiv n))))) : LS P h0 L (⟨d, .binOp .quo T x y T', none⟩ :: l) Q a := LS_v (OpV_quo hx hy hn) H
/-- A struct that is made. -/
theorem LS_bd {T : TypeId} {parts : Array (Nat × Operand)} {pls : List (Nat × Nat)} {z cs : List AV} {ps : List (Nat × AV)} [i : Tpl P T pls] [j : Tze P T (.agg z)] (he : evps a parts.toList = some ps) (hf : fillA (pls[·]?) z ps = some cs) (H : LS P h0 L l Q (st a d (.agg cs))) :
    LS P h0 L (⟨d, .build T parts, none⟩ :: l) Q a := fun h HL => AS_op (OpR_build i.e j.e he hf (H h HL))
/-! Reading. -/
theorem LS_ld {T : TypeId} {x : Operand} {b o : Nat} {v : AV} (hx : ev a x = some (.p b o)) (hv : ∀ h, Loq h0 h L → loadA P T h b o = some v) (H : LS P h0 L l Q (st a d v)) : LS P h0 L (⟨d, .load T x, none⟩ :: l) Q a :=
  fun h HL => AS_op (OpR_load hx (hv h HL) (H h HL))
/-- Of a variable that is owned. -/
theorem LS_l1 {T : TypeId} {x : Operand} {b o : Nat} {v : AV} {cs : List AV} [i : Tag P T false] (j : Nat) (hx : ev a x = some (.p b o)) (hi : L[j]? = some (.pt b cs)) (hv : cs[o]? = some v) (H : LS P h0 L l Q (st a d v)) : LS P h0 L (⟨d, .load T x, none⟩ :: l) Q a :=
  LS_ld hx (fun _ HL => loadA_1 i.e (HL.cellP j hi hv)) H
theorem LS_ln' {T : TypeId} {x : Operand} {b o n : Nat} {cs r : List AV} [i : Tag P T true] [k : Tsz P T n] (j : Nat) (hx : ev a x = some (.p b o)) (hi : L[j]? = some (.pt b cs)) (hn : (decide (o + n ≤ cs.length)) = true) (hr : (cs.drop o).take n = r) (H : LS P h0 L l Q (st a d (.agg r))) :
    LS P h0 L (⟨d, .load T x, none⟩ :: l) Q a := LS_ld hx (fun _ HL => loadA_n i.e k.e (HL.rowsP j hi (by simpa using hn) hr)) H
/-- A struct that is owned, whole. -/
theorem LS_lw {T : TypeId} {x : Operand} {b n : Nat} {cs : List AV} [i : Tag P T true] [k : Tsz P T n] (j : Nat) (hx : ev a x = some (.p b 0)) (hi : L[j]? = some (.pt b cs)) (hn : cs.length = n) (H : LS P h0 L l Q (st a d (.agg cs))) :
    LS P h0 L (⟨d, .load T x, none⟩ :: l) Q a := LS_ld hx (fun _ HL => loadA_n i.e k.e (HL.rowsP j hi (by omega) (by rw [List.drop_zero, ← hn, List.take_length]))) H
/-- Of a variable that stood before. -/
theorem LS_lb {T : TypeId} {x : Operand} {b o : Nat} {v : AV} [i : Tag P T false] (hx : ev a x = some (.p b o)) (hc : h0.cell b o = some v) (H : LS P h0 L l Q (st a d v)) : LS P h0 L (⟨d, .load T x, none⟩ :: l) Q a :=
  LS_ld hx (fun _ HL => loadA_1 i.e (HL.le.cell hc)) H
theorem LS_lbn {T : TypeId} {x : Operand} {b o n : Nat} {r : List AV} [i : Tag P T true] [k : Tsz P T n] (hx : ev a x = some (.p b o)) (hc : h0.row b o n = some r) (H : LS P h0 L l Q (st a d (.agg r))) : LS P h0 L (⟨d, .load T x, none⟩ :: l) Q a :=
  LS_ld hx (fun _ HL => loadA_n i.e k.e (HL.le.row hc)) H
/-- An element's address, and the element read there: an element of what stood before; of what is owned. -/
theorem LS_ix {α : Type} {k : Nat} {enc : α → List AV} {T e : TypeId} {x ix : Operand} {v : AV} {ll : List α} {kk : IntKind} {n : Int} {y : α} [i : Tsl P T e] [j : Tsz P e k] (hR : ∀ h, Loq h0 h L → RdG k enc h v ll) (hke : ∀ x, (enc x).length = k) (hj : ll[n.toNat]? = some y) (hn : 0 ≤ n)
    (hx : ev a x = some v) (hi : ev a ix = some (.i kk n)) (H : ∀ b o, (∀ h, Loq h0 h L → h.row b o k = some (enc y)) → LS P h0 L l Q (st a d (.p b o))) : LS P h0 L (⟨d, .indexAddr T x ix, none⟩ :: l) Q a :=
  fun h HL => AS_op (OpR_idxP i.e j.e hx hi (hR h HL) hke hn hj fun b o hrow => H b o (fun h' HL' => hrow h' (hR h' HL')) h HL)
where
  OpR_idxP {α : Type} {P : Program} {a : List AV} {h : AH} {K : List AV → AH → Prop} {d : Option Nat} {k : Nat} {enc : α → List AV} {T e : TypeId} {x ix : Operand} {v : AV} {l : List α} {kk : IntKind} {n : Int} {y : α} (hT : P.underlying T = some (.slice e)) (hs : szT P e = some k)
    (hx : ev a x = some v) (hi : ev a ix = some (.i kk n)) (hR : RdG k enc h v l) (hke : ∀ x, (enc x).length = k) (h0 : 0 ≤ n) (hj : l[n.toNat]? = some y)
    (hk : ∀ b o, (∀ h', RdG k enc h' v l → h'.row b o k = some (enc y)) → K (st a d (.p b o)) h) : OpR P (.indexAddr T x ix) d a h K := by
    have hlt := (List.getElem?_eq_some_iff.1 hj).1
    rcases hR.rd with rfl | ⟨b, o, c, rfl, _, _⟩
    · have := hR.len; simp [lenA] at this; omega
    · refine OpR_indexAddr hT hs hx hi h0 (by omega) (hk b (o + n.toNat * k) fun h' hR' => ?_)
      have hrow := (hR'.rowG rfl).2
      have hle : n.toNat * k + k ≤ l.length * k := by rw [← Nat.succ_mul]; exact Nat.mul_le_mul_right k hlt
      rw [row_sub hrow hle, flatMap_get hke l n.toNat y hj]
/-- The element's cells. -/
theorem LS_le {T : TypeId} {x : Operand} {b o n : Nat} {r : List AV} [i : Tag P T true] [k : Tsz P T n] (hx : ev a x = some (.p b o)) (hr : ∀ h, Loq h0 h L → h.row b o n = some r) (H : LS P h0 L l Q (st a d (.agg r))) : LS P h0 L (⟨d, .load T x, none⟩ :: l) Q a :=
  LS_ld hx (fun h HL => loadA_n i.e k.e (hr h HL)) H
theorem LS_le1 {T : TypeId} {x : Operand} {b o : Nat} {v : AV} [i : Tag P T false] (hx : ev a x = some (.p b o)) (hr : ∀ h, Loq h0 h L → h.row b o 1 = some [v]) (H : LS P h0 L l Q (st a d v)) : LS P h0 L (⟨d, .load T x, none⟩ :: l) Q a :=
  LS_ld hx (fun h HL => loadA_1 i.e (cell_row (hr h HL))) H
/-- One cell of an element. -/
theorem LS_lec {T : TypeId} {x : Operand} {b o j n : Nat} {v : AV} {r : List AV} [i : Tag P T false] (hx : ev a x = some (.p b (o + j))) (hr : ∀ h, Loq h0 h L → h.row b o n = some r) (hj : (decide (j < n)) = true) (hv : r[j]? = some v) (H : LS P h0 L l Q (st a d v)) : LS P h0 L (⟨d, .load T x, none⟩ :: l) Q a :=
  LS_ld hx (fun h HL => loadA_1 i.e (by rw [row_cell (hr h HL) (of_decide_eq_true hj)]; exact hv)) H
/-! One operation by itself. -/
def LO (P : Program) (h0 : AH) (L : List It) (op : Op) (d : Option Nat) (X : List AV → List It → Prop) (a : List AV) : Prop := ∀ h, Loq h0 h L → OpR P op d a h (fun a' h' => ∃ L', Loq h0 h' L' ∧ X a' L')
theorem LS_o {op : Op} (H : LO P h0 L op d (fun a' L' => LS P h0 L' l Q a') a) : LS P h0 L (⟨d, op, none⟩ :: l) Q a := fun h HL => AS_op fun o h1 h2 base w0 ι0 ι w ca hok N R hN =>
  H h HL o h1 h2 base w0 ι0 ι w ca hok N R fun ι' a' h' ca' w' hok' ⟨L', HL', q⟩ => hN ι' a' h' ca' w' hok' (q h' HL')
/-! Writing, making. -/
theorem LO_sp {X : List AV → List It → Prop} {T : TypeId} {x y : Operand} {b o : Nat} {v : AV} {cs : List AV} [k : Tsz P T v.cells.length] (i : Nat) (hx : ev a x = some (.p b o)) (hy : ev a y = some v) (hi : L[i]? = some (.pt b cs)) (hsc : v.cells.all AV.sc = true) (hle : (decide (o + v.cells.length ≤ cs.length)) = true)
    (H : X (st a d un) (L.set i (.pt b (setL cs o v.cells)))) : LO P h0 L (.store T x y) d X a := fun h HL => (OpR_storeP HL i hx hy hi k.e hsc (of_decide_eq_true hle) fun h' HL' => ⟨_, HL', H⟩)
theorem LS_sp {T : TypeId} {x y : Operand} {b o : Nat} {v : AV} {cs : List AV} [k : Tsz P T v.cells.length] (i : Nat) (hx : ev a x = some (.p b o)) (hy : ev a y = some v) (hi : L[i]? = some (.pt b cs)) (hsc : v.cells.all AV.sc = true) (hle : (decide (o + v.cells.length ≤ cs.length)) = true)
    (H : LS P h0 (L.set i (.pt b (setL cs o v.cells))) l Q (st a d un)) : LS P h0 L (⟨d, .store T x y, none⟩ :: l) Q a := fun h HL => AS_op (OpR_storeP HL i hx hy hi k.e hsc (of_decide_eq_true hle) fun h' HL' => H h' HL')
theorem cells1 {v : AV} (hs : v.sc = true) : v.cells = [v] := by cases v <;> first | rfl | simp [AV.sc] at hs
/-- One cell is written. -/
theorem LO_s1 {X : List AV → List It → Prop} {T : TypeId} {x y : Operand} {b o : Nat} {v : AV} {cs : List AV} [k : Tsz P T 1] (i : Nat) (hx : ev a x = some (.p b o)) (hy : ev a y = some v) (hi : L[i]? = some (.pt b cs)) (hsc : v.sc = true) (hle : (decide (o < cs.length)) = true)
    (H : X (st a d un) (L.set i (.pt b (cs.set o v)))) : LO P h0 L (.store T x y) d X a := fun h HL => (OpR_storeP HL i hx hy hi (by rw [cells1 hsc]; exact k.e) (by rw [cells1 hsc]; simp [hsc]) (by rw [cells1 hsc]; exact of_decide_eq_true hle) fun h' HL' => ⟨_, (by rw [cells1 hsc] at HL'; exact HL'), H⟩)
theorem LS_s1 {T : TypeId} {x y : Operand} {b o : Nat} {v : AV} {cs : List AV} [k : Tsz P T 1] (i : Nat) (hx : ev a x = some (.p b o)) (hy : ev a y = some v) (hi : L[i]? = some (.pt b cs)) (hsc : v.sc = true) (hle : (decide (o < cs.length)) = true)
    (H : LS P h0 (L.set i (.pt b (cs.set o v))) l Q (st a d un)) : LS P h0 L (⟨d, .store T x y, none⟩ :: l) Q a := fun h HL => AS_op (OpR_storeP HL i hx hy hi (by rw [cells1 hsc]; exact k.e) (by rw [cells1 hsc]; simp [hsc]) (by rw [cells1 hsc]; exact of_decide_eq_true hle) fun h' HL' => H h' (by rw [cells1 hsc] at HL'; exact HL'))
/-- A struct is written whole. -/
theorem LO_sn {X : List AV → List It → Prop} {T : TypeId} {x y : Operand} {b n : Nat} {r cs : List AV} [k : Tsz P T n] (i : Nat) (hx : ev a x = some (.p b 0)) (hy : ev a y = some (.agg r)) (hi : L[i]? = some (.pt b cs)) (hsc : r.all AV.sc = true) (hn : r.length = n) (hle : cs.length = n)
    (H : X (st a d un) (L.set i (.pt b r))) : LO P h0 L (.store T x y) d X a := fun h HL => (OpR_storeP HL i hx hy hi (by rw [← hn] at k; exact k.e) hsc (by show 0 + r.length ≤ _; omega) fun h' HL' => ⟨_, (by
    have e : setL cs 0 (AV.agg r).cells = r := by
      show setL cs 0 r = r
      apply List.ext_getElem?
      intro j
      rw [setL_get _ _ _ _ (by omega)]
      split
      · rfl
      · rw [List.getElem?_eq_none (by omega), List.getElem?_eq_none (by omega)]
    rw [e] at HL'; exact HL'), H⟩)
theorem LS_sn {T : TypeId} {x y : Operand} {b n : Nat} {r cs : List AV} [k : Tsz P T n] (i : Nat) (hx : ev a x = some (.p b 0)) (hy : ev a y = some (.agg r)) (hi : L[i]? = some (.pt b cs)) (hsc : r.all AV.sc = true) (hn : r.length = n) (hle : cs.length = n)
    (H : LS P h0 (L.set i (.pt b r)) l Q (st a d un)) : LS P h0 L (⟨d, .store T x y, none⟩ :: l) Q a := fun h HL => AS_op (OpR_storeP HL i hx hy hi (by rw [← hn] at k; exact k.e) hsc (by show 0 + r.length ≤ _; omega) fun h' HL' => H h' (by
    have e : setL cs 0 (AV.agg r).cells = r := by
      show setL cs 0 r = r
      apply List.ext_getElem?
      intro j
      rw [setL_get _ _ _ _ (by omega)]
      split
      · rfl
      · rw [List.getElem?_eq_none (by omega), List.getElem?_eq_none (by omega)]
    rw [e] at HL'; exact HL'))
theorem LO_al {X : List AV → List It → Prop} {T : TypeId} {z : AV} [i : Tze P T z] (hs : z.cells.all AV.sc = true) (H : ∀ b, X (st a d (.p b 0)) (.pt b z.cells :: L)) : LO P h0 L (.alloc T) d X a := fun h HL => (OpR_allocL HL i.e hs fun b h' HL' _ => ⟨_, HL', H b⟩)
theorem LS_al {T : TypeId} {z : AV} [i : Tze P T z] (hs : z.cells.all AV.sc = true) (H : ∀ b, LS P h0 (.pt b z.cells :: L) l Q (st a d (.p b 0))) : LS P h0 L (⟨d, .alloc T, none⟩ :: l) Q a := fun h HL => AS_op (OpR_allocL HL i.e hs fun b h' HL' _ => H b h' HL')
theorem LO_bx1 {X : List AV → List It → Prop} {T : TypeId} {x : Operand} {v : AV} (hx : ev a x = some v) (hs : v.sc = true) (H : ∀ b, X (st a d (.p b 0)) (.pt b [v] :: L)) : LO P h0 L (.box T x) d X a := fun h HL => (OpR_boxL HL hx (by rw [cells1 hs]; simp [hs]) fun b h' HL' _ => ⟨_, (by rw [cells1 hs] at HL'; exact HL'), H b⟩)
theorem LS_bx1 {T : TypeId} {x : Operand} {v : AV} (hx : ev a x = some v) (hs : v.sc = true) (H : ∀ b, LS P h0 (.pt b [v] :: L) l Q (st a d (.p b 0))) : LS P h0 L (⟨d, .box T x, none⟩ :: l) Q a := fun h HL => AS_op (OpR_boxL HL hx (by rw [cells1 hs]; simp [hs]) fun b h' HL' _ => H b h' (by rw [cells1 hs] at HL'; exact HL'))
theorem LO_bxn {X : List AV → List It → Prop} {T : TypeId} {x : Operand} {cs : List AV} (hx : ev a x = some (.agg cs)) (hs : cs.all AV.sc = true) (H : ∀ b, X (st a d (.p b 0)) (.pt b cs :: L)) : LO P h0 L (.box T x) d X a := fun h HL => (OpR_boxL HL hx hs fun b h' HL' _ => ⟨_, HL', H b⟩)
theorem LS_bxn {T : TypeId} {x : Operand} {cs : List AV} (hx : ev a x = some (.agg cs)) (hs : cs.all AV.sc = true) (H : ∀ b, LS P h0 (.pt b cs :: L) l Q (st a d (.p b 0))) : LS P h0 L (⟨d, .box T x, none⟩ :: l) Q a := fun h HL => AS_op (OpR_boxL HL hx hs fun b h' HL' _ => H b h' HL')
theorem LO_lt {X : List AV → List It → Prop} {α : Type} {enc : α → List AV} {T e : TypeId} {n k : Nat} {parts : Array (Nat × Operand)} {z : AV} {ps : List (Nat × AV)} {cs : List AV} (ll : List α) [i1 : Tsl P T e] [i2 : Tsz P e k] [i3 : Tze P e z] (hzk : z.cells.length = k) (hzs : z.cells.all AV.sc = true)
    (hk0 : 0 < k) (he : evps a parts.toList = some ps) (hl : litA k 0 ps = some cs) (hn : ps.length = n) (hb : (decide (n * k ≤ 16777216)) = true) (hke : ∀ x, (enc x).length = k) (hrow : cs = ll.flatMap enc) (hnl : n = ll.length)
    (H : ∀ w, lenA w = some n → w.sc = true → X (st a d w) (.sl w k (ll.flatMap enc) :: L)) : LO P h0 L (.buildSlice T n parts) d X a :=
  fun h HL => (OpR_litL ll HL i1.e i2.e i3.e hzk hzs hk0 he hl hn (of_decide_eq_true hb) hke hrow hnl fun w h' HL' _ hR hlen => ⟨_, HL', H w hlen (by rcases hR.rd with rfl | ⟨b, o, c, rfl, _⟩ <;> rfl)⟩)
theorem LS_lt {α : Type} {enc : α → List AV} {T e : TypeId} {n k : Nat} {parts : Array (Nat × Operand)} {z : AV} {ps : List (Nat × AV)} {cs : List AV} (ll : List α) [i1 : Tsl P T e] [i2 : Tsz P e k] [i3 : Tze P e z] (hzk : z.cells.length = k) (hzs : z.cells.all AV.sc = true)
    (hk0 : 0 < k) (he : evps a parts.toList = some ps) (hl : litA k 0 ps = some cs) (hn : ps.length = n) (hb : (decide (n * k ≤ 16777216)) = true) (hke : ∀ x, (enc x).length = k) (hrow : cs = ll.flatMap enc) (hnl : n = ll.length)
    (H : ∀ w, lenA w = some n → w.sc = true → LS P h0 (.sl w k (ll.flatMap enc) :: L) l Q (st a d w)) : LS P h0 L (⟨d, .buildSlice T n parts, none⟩ :: l) Q a :=
  fun h HL => AS_op (OpR_litL ll HL i1.e i2.e i3.e hzk hzs hk0 he hl hn (of_decide_eq_true hb) hke hrow hnl fun w h' HL' _ hR hlen => H w hlen (by rcases hR.rd with rfl | ⟨b, o, c, rfl, _⟩ <;> rfl) h' HL')
theorem LO_mk {X : List AV → List It → Prop} {α : Type} {enc : α → List AV} {T e : TypeId} {x y : Operand} {n m : Int} {z : AV} {bytes : Nat} (zz : α) [i1 : Tsl P T e] [i2 : Tsz P e 1] [i4 : Tby P e bytes] [i3 : Tze P e z] (hz1 : z.cells = [z]) (hzs : z.sc = true)
    (hx : ev a x = some (.i .i64 n)) (hy : ev a y = some (.i .i64 m)) (hnm : m = n) (h0' : 0 ≤ n) (h1 : n * bytes ≤ 140737488355328) (h2 : n ≤ 9223372036854775807) (hke : ∀ x, (enc x).length = 1) (hzz : enc zz = [z])
    (H : ∀ b, X (st a d (.sl b 0 n.toNat true)) (.sl (.sl b 0 n.toNat true) 1 ((List.replicate n.toNat zz).flatMap enc) :: L)) : LO P h0 L (.makeSlice T x y) d X a :=
  fun h HL => (OpR_makeL zz HL i1.e i2.e i4.e i3.e hz1 hzs hx hy hnm h0' h1 h2 hke hzz fun b h' HL' _ => ⟨_, HL', H b⟩)
theorem LS_mk {α : Type} {enc : α → List AV} {T e : TypeId} {x y : Operand} {n m : Int} {z : AV} {bytes : Nat} (zz : α) [i1 : Tsl P T e] [i2 : Tsz P e 1] [i4 : Tby P e bytes] [i3 : Tze P e z] (hz1 : z.cells = [z]) (hzs : z.sc = true)
    (hx : ev a x = some (.i .i64 n)) (hy : ev a y = some (.i .i64 m)) (hnm : m = n) (h0' : 0 ≤ n) (h1 : n * bytes ≤ 140737488355328) (h2 : n ≤ 9223372036854775807) (hke : ∀ x, (enc x).length = 1) (hzz : enc zz = [z])
    (H : ∀ b, LS P h0 (.sl (.sl b 0 n.toNat true) 1 ((List.replicate n.toNat zz).flatMap enc) :: L) l Q (st a d (.sl b 0 n.toNat true))) : LS P h0 L (⟨d, .makeSlice T x y, none⟩ :: l) Q a :=
  fun h HL => AS_op (OpR_makeL zz HL i1.e i2.e i4.e i3.e hz1 hzs hx hy hnm h0' h1 h2 hke hzz fun b h' HL' _ => H b h' HL')
theorem LO_ap {X : List AV → List It → Prop} {α : Type} {k : Nat} {enc : α → List AV} {T e : TypeId} {x y : Operand} {v u : AV} {ll l' : List α} {bytes : Nat} {z : AV} [i1 : Tsl P T e] [i2 : Tsz P e k] [i4 : Tby P e bytes] [i3 : Tze P e z] (i : Nat) (hi : L[i]? = some (.sl v k (ll.flatMap enc))) (hR : ∀ h, Loq h0 h L → RdG k enc h u l')
    (hke : ∀ x, (enc x).length = k) (hk0 : 0 < k) (hne : l' ≠ []) (hbd : (ll.length + l'.length) * bytes ≤ 140737488355328) (hbd2 : ll.length + l'.length ≤ 4611686018427387904) (hzl : z.cells.length = k)
    (hx : ev a x = some v) (hy : ev a y = some u) (H : ∀ w, lenA w = some (ll ++ l').length → w.sc = true → X (st a d w) (L.set i (.sl w k ((ll ++ l').flatMap enc)))) :
    LO P h0 L (.call { callee := .builtin .append, args := #[x, y], argTypes := #[T, T] }) d X a :=
  fun h HL => (OpR_appendL HL i i1.e i2.e i4.e i3.e hzl hke hk0 hx hy hi (hR h HL) hne hbd hbd2 fun w h' HL' => by
    have hil : i < L.length := (List.getElem?_eq_some_iff.1 hi).1
    have hR' := HL'.rdI i (List.getElem?_set_self hil) hke hk0
    exact ⟨_, HL', H w hR'.len (by rcases hR'.rd with rfl | ⟨b, o, c, rfl, _⟩ <;> rfl)⟩)
theorem LS_ap {α : Type} {k : Nat} {enc : α → List AV} {T e : TypeId} {x y : Operand} {v u : AV} {ll l' : List α} {bytes : Nat} {z : AV} [i1 : Tsl P T e] [i2 : Tsz P e k] [i4 : Tby P e bytes] [i3 : Tze P e z] (i : Nat) (hi : L[i]? = some (.sl v k (ll.flatMap enc))) (hR : ∀ h, Loq h0 h L → RdG k enc h u l')
    (hke : ∀ x, (enc x).length = k) (hk0 : 0 < k) (hne : l' ≠ []) (hbd : (ll.length + l'.length) * bytes ≤ 140737488355328) (hbd2 : ll.length + l'.length ≤ 4611686018427387904) (hzl : z.cells.length = k)
    (hx : ev a x = some v) (hy : ev a y = some u) (H : ∀ w, lenA w = some (ll ++ l').length → w.sc = true → LS P h0 (L.set i (.sl w k ((ll ++ l').flatMap enc))) l Q (st a d w)) :
    LS P h0 L (⟨d, .call { callee := .builtin .append, args := #[x, y], argTypes := #[T, T] }, none⟩ :: l) Q a :=
  fun h HL => AS_op (OpR_appendL HL i i1.e i2.e i4.e i3.e hzl hke hk0 hx hy hi (hR h HL) hne hbd hbd2 fun w h' HL' => by
    have hil : i < L.length := (List.getElem?_eq_some_iff.1 hi).1
    have hR' := HL'.rdI i (List.getElem?_set_self hil) hke hk0
    exact H w hR'.len (by rcases hR'.rd with rfl | ⟨b, o, c, rfl, _⟩ <;> rfl) h' HL')
/-! Calls. -/
theorem LO_cl {X : List AV → List It → Prop} {f : Operand} {args : Array Operand} {ts : Array TypeId} {g : FuncId} {caps vs : List AV} {R : AV → AH → Prop} (hc : ∀ h, Loq h0 h L → h.wf → AC P g (vs ++ caps) h R) (hf : ev a f = some (.f g caps)) (ha : evs a args.toList = some vs)
    (H : ∀ h v h', Loq h0 h L → h'.wf → R v h' → ∃ L', Loq h0 h' L' ∧ X (st a d v) L') : LO P h0 L (.call { callee := .value f, args := args, argTypes := ts }) d X a :=
  fun h HL => (OpR_call hf ha (hc h HL HL.wf) fun v h' wf hR => by
    obtain ⟨L', HL', q⟩ := H h v h' HL wf hR
    exact ⟨L', HL', q⟩)
theorem LS_cl {f : Operand} {args : Array Operand} {ts : Array TypeId} {g : FuncId} {caps vs : List AV} {R : AV → AH → Prop} (hc : ∀ h, Loq h0 h L → h.wf → AC P g (vs ++ caps) h R) (hf : ev a f = some (.f g caps)) (ha : evs a args.toList = some vs)
    (H : ∀ h v h', Loq h0 h L → h'.wf → R v h' → ∃ L', Loq h0 h' L' ∧ LS P h0 L' l Q (st a d v)) : LS P h0 L (⟨d, .call { callee := .value f, args := args, argTypes := ts }, none⟩ :: l) Q a :=
  fun h HL => AS_op (OpR_call hf ha (hc h HL HL.wf) fun v h' wf hR => by
    obtain ⟨L', HL', q⟩ := H h v h' HL wf hR
    exact q h' HL')
/-- A call that leaves all as it was, with a plain result. -/
theorem LO_c0 {X : List AV → List It → Prop} {f : Operand} {args : Array Operand} {ts : Array TypeId} {g : FuncId} {caps vs : List AV} {v : AV} (hc : ∀ h, Loq h0 h L → h.wf → AC P g (vs ++ caps) h (fun r h' => r = v ∧ h.le h')) (hf : ev a f = some (.f g caps)) (ha : evs a args.toList = some vs)
    (H : X (st a d v) L) : LO P h0 L (.call { callee := .value f, args := args, argTypes := ts }) d X a :=
  fun h HL => (OpR_call hf ha (hc h HL HL.wf) fun v' h' wf hR => by rw [hR.1]; exact ⟨_, HL.le' wf hR.2, H⟩)
theorem LS_c0 {f : Operand} {args : Array Operand} {ts : Array TypeId} {g : FuncId} {caps vs : List AV} {v : AV} (hc : ∀ h, Loq h0 h L → h.wf → AC P g (vs ++ caps) h (fun r h' => r = v ∧ h.le h')) (hf : ev a f = some (.f g caps)) (ha : evs a args.toList = some vs)
    (H : LS P h0 L l Q (st a d v)) : LS P h0 L (⟨d, .call { callee := .value f, args := args, argTypes := ts }, none⟩ :: l) Q a :=
  fun h HL => AS_op (OpR_call hf ha (hc h HL HL.wf) fun v' h' wf hR => by rw [hR.1]; exact H h' (HL.le' wf hR.2))
theorem LO_c0' {X : List AV → List It → Prop} {f : Operand} {args : Array Operand} {ts : Array TypeId} {g : FuncId} {caps vs : List AV} {v : AV} (hc : ∀ h, Loq h0 h L → h.wf → AC P g (vs ++ caps) h (fun r h' => r = v ∧ h = h')) (hf : ev a f = some (.f g caps)) (ha : evs a args.toList = some vs)
    (H : X (st a d v) L) : LO P h0 L (.call { callee := .value f, args := args, argTypes := ts }) d X a :=
  LO_c0 (fun h HL wf => (hc h HL wf).mono fun r h' ⟨e1, e2⟩ => ⟨e1, by rw [e2]; exact .refl _⟩) hf ha H
theorem LS_c0' {f : Operand} {args : Array Operand} {ts : Array TypeId} {g : FuncId} {caps vs : List AV} {v : AV} (hc : ∀ h, Loq h0 h L → h.wf → AC P g (vs ++ caps) h (fun r h' => r = v ∧ h = h')) (hf : ev a f = some (.f g caps)) (ha : evs a args.toList = some vs)
    (H : LS P h0 L l Q (st a d v)) : LS P h0 L (⟨d, .call { callee := .value f, args := args, argTypes := ts }, none⟩ :: l) Q a :=
  LS_c0 (fun h HL wf => (hc h HL wf).mono fun r h' ⟨e1, e2⟩ => ⟨e1, by rw [e2]; exact .refl _⟩) hf ha H
/-- A call that makes: what it has made is owned from then on. -/
theorem LO_c1 {X : List AV → List It → Prop} {f : Operand} {args : Array Operand} {ts : Array TypeId} {g : FuncId} {caps vs : List AV} {Y : AV → List It → Prop} (hc : ∀ h, Loq h0 h L → h.wf → AC P g (vs ++ caps) h (fun r h' => ∃ M, Y r M ∧ Loq h h' M)) (hf : ev a f = some (.f g caps)) (ha : evs a args.toList = some vs)
    (H : ∀ r M, Y r M → X (st a d r) (M ++ L)) : LO P h0 L (.call { callee := .value f, args := args, argTypes := ts }) d X a :=
  fun h HL => (OpR_call hf ha (hc h HL HL.wf) fun v h' wf ⟨M, hX, G⟩ => ⟨_, HL.call G, H v M hX⟩)
theorem LS_c1 {f : Operand} {args : Array Operand} {ts : Array TypeId} {g : FuncId} {caps vs : List AV} {X : AV → List It → Prop} (hc : ∀ h, Loq h0 h L → h.wf → AC P g (vs ++ caps) h (fun r h' => ∃ M, X r M ∧ Loq h h' M)) (hf : ev a f = some (.f g caps)) (ha : evs a args.toList = some vs)
    (H : ∀ r M, X r M → LS P h0 (M ++ L) l Q (st a d r)) : LS P h0 L (⟨d, .call { callee := .value f, args := args, argTypes := ts }, none⟩ :: l) Q a :=
  fun h HL => AS_op (OpR_call hf ha (hc h HL HL.wf) fun v h' wf ⟨M, hX, G⟩ => H v M hX h' (HL.call G))
/-- A call that hands back a list that it has made. -/
theorem LO_co {X : List AV → List It → Prop} {α : Type} {k : Nat} {enc : α → List AV} {ll : List α} {f : Operand} {args : Array Operand} {ts : Array TypeId} {g : FuncId} {caps vs : List AV} (hc : ∀ h, Loq h0 h L → h.wf → AC P g (vs ++ caps) h (fun r h' => Own h k enc h' r ll)) (hke : ∀ x, (enc x).length = k) (hf : ev a f = some (.f g caps)) (ha : evs a args.toList = some vs)
    (H : ∀ w, lenA w = some ll.length → w.sc = true → X (st a d w) (.sl w k (ll.flatMap enc) :: L)) : LO P h0 L (.call { callee := .value f, args := args, argTypes := ts }) d X a :=
  fun h HL => (OpR_call hf ha (hc h HL HL.wf) fun v h' wf hO => ⟨_, HL.call (hO.loc hke), H v hO.rd.len (by rcases hO.rd.rd with rfl | ⟨b, o, c, rfl, _⟩ <;> rfl)⟩)
theorem LS_co {α : Type} {k : Nat} {enc : α → List AV} {ll : List α} {f : Operand} {args : Array Operand} {ts : Array TypeId} {g : FuncId} {caps vs : List AV} (hc : ∀ h, Loq h0 h L → h.wf → AC P g (vs ++ caps) h (fun r h' => Own h k enc h' r ll)) (hke : ∀ x, (enc x).length = k) (hf : ev a f = some (.f g caps)) (ha : evs a args.toList = some vs)
    (H : ∀ w, lenA w = some ll.length → w.sc = true → LS P h0 (.sl w k (ll.flatMap enc) :: L) l Q (st a d w)) : LS P h0 L (⟨d, .call { callee := .value f, args := args, argTypes := ts }, none⟩ :: l) Q a :=
  fun h HL => AS_op (OpR_call hf ha (hc h HL HL.wf) fun v h' wf hO => H v hO.rd.len (by rcases hO.rd.rd with rfl | ⟨b, o, c, rfl, _⟩ <;> rfl) h' (HL.call (hO.loc hke)))
/-- A call that changes what it is handed: the rest stays. -/
theorem LO_cm {X : List AV → List It → Prop} {L' : List It} {f : Operand} {args : Array Operand} {ts : Array TypeId} {g : FuncId} {caps vs : List AV} {Y : AV → List It → Prop} (hp : L.Perm L') (hc : ∀ h, Loq h0 h L' → h.wf → AC P g (vs ++ caps) h (fun r h' => ∃ M, Y r M ∧ Loq h0 h' M)) (hf : ev a f = some (.f g caps)) (ha : evs a args.toList = some vs)
    (H : ∀ r M, Y r M → X (st a d r) M) : LO P h0 L (.call { callee := .value f, args := args, argTypes := ts }) d X a :=
  fun h HL => (OpR_call hf ha (hc h (HL.perm hp) HL.wf) fun v h' wf ⟨M, hX, G⟩ => ⟨_, G, H v M hX⟩)
theorem LS_cm {L' : List It} {f : Operand} {args : Array Operand} {ts : Array TypeId} {g : FuncId} {caps vs : List AV} {X : AV → List It → Prop} (hp : L.Perm L') (hc : ∀ h, Loq h0 h L' → h.wf → AC P g (vs ++ caps) h (fun r h' => ∃ M, X r M ∧ Loq h0 h' M)) (hf : ev a f = some (.f g caps)) (ha : evs a args.toList = some vs)
    (H : ∀ r M, X r M → LS P h0 M l Q (st a d r)) : LS P h0 L (⟨d, .call { callee := .value f, args := args, argTypes := ts }, none⟩ :: l) Q a :=
  fun h HL => AS_op (OpR_call hf ha (hc h (HL.perm hp) HL.wf) fun v h' wf ⟨M, hX, G⟩ => H v M hX h' G)
theorem LI_perm {L' : List It} {c : IC} (hp : L.Perm L') (H : LI P h0 L' c Q a) : LI P h0 L c Q a := fun h HL => H h (HL.perm hp)
theorem LS_perm {L' : List It} (hp : L.Perm L') (H : LS P h0 L' l Q a) : LS P h0 L l Q a := fun h HL => H h (HL.perm hp)
theorem LS_sub {L' : List It} (hp : L'.Sublist L) (H : LS P h0 L' l Q a) : LS P h0 L l Q a := fun h HL => H h (HL.sub hp)
theorem LIL_perm {L' : List It} {c : IC} (hp : L.Perm L') (H : LIL P h0 L' c Q a) : LIL P h0 L c Q a := fun h HL => H h (HL.perm hp)
theorem LIL_sub {L' : List It} {c : IC} (hp : L'.Sublist L) (H : LIL P h0 L' c Q a) : LIL P h0 L c Q a := fun h HL => H h (HL.sub hp)
end
theorem fill_0 {place : Nat → Option (Nat × Nat)} {z : List AV} : fillA place z [] = some z := rfl
theorem fill_s {place : Nat → Option (Nat × Nat)} {z cs : List AV} {i o : Nat} {v : AV} {l : List (Nat × AV)} (hp : place i = some (o, 1)) (hv : v.sc = true) (ho : (decide (o + 1 ≤ z.length)) = true) (H : fillA place (z.set o v) l = some cs) : fillA place z ((i, v) :: l) = some cs := by
  have ho' := of_decide_eq_true ho
  simp only [fillA, hp, cells1 hv, List.length_cons, List.length_nil, List.all_cons, List.all_nil, hv, setL]
  rw [if_pos ⟨by simp, ho', by simp⟩]
  exact H
theorem fill_a {place : Nat → Option (Nat × Nat)} {z cs c : List AV} {i o n : Nat} {l : List (Nat × AV)} (hp : place i = some (o, n)) (hn : c.length = n) (hv : c.all AV.sc = true) (ho : (decide (o + n ≤ z.length)) = true) (H : fillA place (setL z o c) l = some cs) : fillA place z ((i, .agg c) :: l) = some cs := by
  unfold fillA
  rw [hp]
  exact (if_pos (c := (AV.agg c).cells.length = n ∧ o + n ≤ z.length ∧ (AV.agg c).cells.all AV.sc = true) ⟨hn, of_decide_eq_true ho, hv⟩).trans H
/-- A goal that is kept apart. -/
inductive Hold (p : Prop) : Prop where
  | mk (h : p)
theorem Hold.out {p : Prop} (H : Hold p) : p := by cases H; assumption
section
variable {P : Program} {h0 : AH} {L : List It} {Q : Exit → List AV → List It → Prop} {a : List AV} {l : List IOp} {d : Option Nat}
theorem isOp {op : Op} (H : LS P h0 L (⟨d, op, none⟩ :: l) Q a) : LS P h0 L (⟨d, op, none⟩ :: l) Q a := H
theorem isGd {op : Op} {g : Nat × Bool} (H : LS P h0 L (⟨d, op, some g⟩ :: l) Q a) : LS P h0 L (⟨d, op, some g⟩ :: l) Q a := H
theorem isLI {c : IC} (H : LI P h0 L c Q a) : LI P h0 L c Q a := H
theorem isBin {op : BinOp} {T T' : TypeId} {x y : Operand} (H : LS P h0 L (⟨d, .binOp op T x y T', none⟩ :: l) Q a) : LS P h0 L (⟨d, .binOp op T x y T', none⟩ :: l) Q a := H
theorem isLoad {T : TypeId} {x : Operand} (H : LS P h0 L (⟨d, .load T x, none⟩ :: l) Q a) : LS P h0 L (⟨d, .load T x, none⟩ :: l) Q a := H
theorem isStore {T : TypeId} {x y : Operand} (H : LS P h0 L (⟨d, .store T x y, none⟩ :: l) Q a) : LS P h0 L (⟨d, .store T x y, none⟩ :: l) Q a := H
theorem isCall {b : Builtin} {x : Array Operand} {y : Array TypeId} (H : LS P h0 L (⟨d, .call { callee := .builtin b, args := x, argTypes := y }, none⟩ :: l) Q a) : LS P h0 L (⟨d, .call { callee := .builtin b, args := x, argTypes := y }, none⟩ :: l) Q a := H
end
/-! ### Results -/
section
variable {P : Program} {h0 h : AH} {L : List It} {a : List AV} {rs : List ResultVar} {vs : List AV}
theorem ress_0 : ress P a h [] = some [] := rfl
theorem ress_t {t : Nat} {v : AV} (hv : a[t]? = some v) (H : ress P a h rs = some vs) : ress P a h (.tmp t :: rs) = some (v :: vs) := by simp only [ress, resA, hv, H]
theorem ress_c {t b n : Nat} {T : TypeId} {cs : List AV} [i : Tag P T true] [k : Tsz P T n] (HL : Loq h0 h L) (j : Nat) (ht : a[t]? = some (.p b 0)) (hi : L[j]? = some (.pt b cs)) (hn : cs.length = n) (H : ress P a h rs = some vs) : ress P a h (.cell t T :: rs) = some (.agg cs :: vs) := by
  have e : loadA P T h b 0 = some (.agg cs) := loadA_n i.e k.e (HL.rowsP j hi (by omega) (by rw [List.drop_zero, ← hn, List.take_length]))
  simp only [ress, resA, ht, e, H]
theorem ress_c1 {t b : Nat} {T : TypeId} {v : AV} [i : Tag P T false] (HL : Loq h0 h L) (j : Nat) (ht : a[t]? = some (.p b 0)) (hi : L[j]? = some (.pt b [v])) (H : ress P a h rs = some vs) : ress P a h (.cell t T :: rs) = some (v :: vs) := by
  have e : loadA P T h b 0 = some v := loadA_1 i.e (HL.cellP j hi rfl)
  simp only [ress, resA, ht, e, H]
inductive ResL (P : Program) (a : List AV) (L : List It) : List ResultVar → List AV → Prop where
  | n : ResL P a L [] []
  | t {rs : List ResultVar} {vs : List AV} {t : Nat} {v : AV} (hv : a[t]? = some v) (H : ResL P a L rs vs) : ResL P a L (.tmp t :: rs) (v :: vs)
  | c {rs : List ResultVar} {vs : List AV} {t b n : Nat} {T : TypeId} {cs : List AV} [i : Tag P T true] [k : Tsz P T n] (j : Nat) (ht : a[t]? = some (.p b 0)) (hi : L[j]? = some (.pt b cs)) (hn : cs.length = n) (H : ResL P a L rs vs) : ResL P a L (.cell t T :: rs) (.agg cs :: vs)
  | c1 {rs : List ResultVar} {vs : List AV} {t b : Nat} {T : TypeId} {v : AV} [i : Tag P T false] (j : Nat) (ht : a[t]? = some (.p b 0)) (hi : L[j]? = some (.pt b [v])) (H : ResL P a L rs vs) : ResL P a L (.cell t T :: rs) (v :: vs)
theorem ResL.ress (H : ResL P a L rs vs) (HL : Loq h0 h L) : ress P a h rs = some vs := by
  induction H with
  | n => rfl
  | t hv _ ih => exact ress_t hv ih
  | c j ht hi hn _ ih => exact ress_c HL j ht hi hn ih
  | c1 j ht hi _ ih => exact ress_c1 HL j ht hi ih
theorem RET {R : AV → AH → Prop} (H : ∀ h, Loq h0 h L → R (oneA vs) h) (Hr : ResL P a L rs vs := by
    repeat (first | exact ResL.n | (apply ResL.t; exact rfl) | (apply ResL.c1 0; exact rfl; exact rfl) | (apply ResL.c1 1; exact rfl; exact rfl) | (apply ResL.c1 2; exact rfl; exact rfl) | (apply ResL.c1 3; exact rfl; exact rfl) | (apply ResL.c1 4; exact rfl; exact rfl) | (apply ResL.c1 5; exact rfl; exact rfl) | (apply ResL.c1 6; exact rfl; exact rfl) | (apply ResL.c 0; exact rfl; exact rfl; exact rfl) | (apply ResL.c 1; exact rfl; exact rfl; exact rfl) | (apply ResL.c 2; exact rfl; exact rfl; exact rfl) | (apply ResL.c 3; exact rfl; exact rfl; exact rfl) | (apply ResL.c 4; exact rfl; exact rfl; exact rfl) | (apply ResL.c 5; exact rfl; exact rfl; exact rfl) | (apply ResL.c 6; exact rfl; exact rfl; exact rfl))) : LRet P h0 rs R .ret a L :=
  LRet_r fun h HL => ⟨vs, Hr.ress HL, H h HL⟩
end
/-- All that goes of itself. -/
theorem W {G G' : Prop} (hk : G') (H : Hold G' → G := by
    intro hk
    repeat (first | (refine isOp ?_; ((first | refine LS_mv rfl ?_ | refine LS_ag rfl ?_ | refine LS_fa rfl rfl ?_ | (refine isBin ?_; first | refine LS_ar _ rfl rfl rfl (by omega) (by omega) ?_ | refine LS_bn rfl rfl rfl rfl ?_ | refine LS_bq rfl rfl _ (.inr ⟨rfl, rfl⟩) ?_ | refine LS_bq rfl rfl _ (.inl ⟨rfl, rfl⟩) ?_) | (refine isLoad ?_; first | refine LS_lb rfl (by assumption) ?_ | refine LS_le1 rfl (by assumption) ?_ | refine LS_le rfl (by assumption) ?_ | refine LS_lec rfl (by assumption) rfl rfl ?_ | refine LS_l1 0 rfl rfl rfl ?_ | refine LS_l1 1 rfl rfl rfl ?_ | refine LS_l1 2 rfl rfl rfl ?_ | refine LS_l1 3 rfl rfl rfl ?_ | refine LS_l1 4 rfl rfl rfl ?_ | refine LS_l1 5 rfl rfl rfl ?_ | refine LS_l1 6 rfl rfl rfl ?_ | refine LS_l1 7 rfl rfl rfl ?_ | refine LS_l1 8 rfl rfl rfl ?_ | refine LS_l1 9 rfl rfl rfl ?_ | refine LS_l1 10 rfl rfl rfl ?_ | refine LS_lw 0 rfl rfl rfl ?_ | refine LS_lw 1 rfl rfl rfl ?_ | refine LS_lw 2 rfl rfl rfl ?_ | refine LS_lw 3 rfl rfl rfl ?_ | refine LS_lw 4 rfl rfl rfl ?_ | refine LS_lw 5 rfl rfl rfl ?_ | refine LS_lw 6 rfl rfl rfl ?_ | refine LS_lw 7 rfl rfl rfl ?_ | refine LS_lw 8 rfl rfl rfl ?_ | refine LS_lw 9 rfl rfl rfl ?_ | refine LS_lw 10 rfl rfl rfl ?_ | refine LS_ln' 0 rfl rfl rfl rfl ?_ | refine LS_ln' 1 rfl rfl rfl rfl ?_ | refine LS_ln' 2 rfl rfl rfl rfl ?_ | refine LS_ln' 3 rfl rfl rfl rfl ?_ | refine LS_ln' 4 rfl rfl rfl rfl ?_ | refine LS_ln' 5 rfl rfl rfl rfl ?_ | refine LS_ln' 6 rfl rfl rfl rfl ?_ | refine LS_lbn rfl (by assumption) ?_) | (refine isStore ?_; first | refine LS_s1 0 rfl rfl rfl (by first | rfl | assumption | exact rd_sc (by assumption)) rfl ?_ | refine LS_s1 1 rfl rfl rfl (by first | rfl | assumption | exact rd_sc (by assumption)) rfl ?_ | refine LS_s1 2 rfl rfl rfl (by first | rfl | assumption | exact rd_sc (by assumption)) rfl ?_ | refine LS_s1 3 rfl rfl rfl (by first | rfl | assumption | exact rd_sc (by assumption)) rfl ?_ | refine LS_s1 4 rfl rfl rfl (by first | rfl | assumption | exact rd_sc (by assumption)) rfl ?_ | refine LS_s1 5 rfl rfl rfl (by first | rfl | assumption | exact rd_sc (by assumption)) rfl ?_ | refine LS_s1 6 rfl rfl rfl (by first | rfl | assumption | exact rd_sc (by assumption)) rfl ?_ | refine LS_sn 0 rfl rfl rfl (by repeat (first | exact rfl | refine sc_cons (by first | rfl | assumption | exact rd_sc (by assumption)) ?_)) rfl rfl ?_ | refine LS_sn 1 rfl rfl rfl (by repeat (first | exact rfl | refine sc_cons (by first | rfl | assumption | exact rd_sc (by assumption)) ?_)) rfl rfl ?_ | refine LS_sn 2 rfl rfl rfl (by repeat (first | exact rfl | refine sc_cons (by first | rfl | assumption | exact rd_sc (by assumption)) ?_)) rfl rfl ?_ | refine LS_sn 3 rfl rfl rfl (by repeat (first | exact rfl | refine sc_cons (by first | rfl | assumption | exact rd_sc (by assumption)) ?_)) rfl rfl ?_ | refine LS_sn 4 rfl rfl rfl (by repeat (first | exact rfl | refine sc_cons (by first | rfl | assumption | exact rd_sc (by assumption)) ?_)) rfl rfl ?_ | refine LS_sn 5 rfl rfl rfl (by repeat (first | exact rfl | refine sc_cons (by first | rfl | assumption | exact rd_sc (by assumption)) ?_)) rfl rfl ?_ | refine LS_sn 6 rfl rfl rfl (by repeat (first | exact rfl | refine sc_cons (by first | rfl | assumption | exact rd_sc (by assumption)) ?_)) rfl rfl ?_) | (refine isCall ?_; first | refine LS_ln rfl (by assumption) ?_ | refine LS_ln rfl (RdG.len (by assumption)) ?_ | refine LS_ln rfl (by with_reducible rfl) ?_ | refine LS_ls rfl ?_ | refine LS_mx rfl rfl ?_ | refine LS_mn rfl rfl ?_) | refine LS_nt rfl ?_ | refine LS_ex rfl rfl ?_ | refine LS_pt rfl (by first | with_reducible assumption | with_reducible rfl | with_reducible exact Bool.not_true | with_reducible exact Bool.not_false) rfl ?_ | refine LS_pf rfl (by first | with_reducible assumption | with_reducible rfl | with_reducible exact Bool.not_true | with_reducible exact Bool.not_false) rfl ?_ | refine LS_pb rfl rfl rfl ?_ | refine LS_mf rfl ?_ | refine LS_nc rfl ?_ | refine LS_ncf rfl ?_ | refine LS_cv rfl ?_ | refine LS_fd rfl rfl ?_ | refine LS_bd rfl (by repeat (first | apply fill_s rfl (by first | exact rfl | assumption | exact rd_sc (by assumption)) rfl | apply fill_a rfl rfl (by repeat (first | exact rfl | refine sc_cons (by first | rfl | assumption | exact rd_sc (by assumption)) ?_)) rfl | exact fill_0)) ?_); try dsimp only [st, setL, AV.cells, List.set_cons_zero, List.set_cons_succ, List.drop_zero, List.drop_succ_cons, List.take_zero, List.take_succ_cons, Nat.zero_add, Nat.add_zero, Nat.reduceAdd, List.cons_append, List.nil_append, List.eraseIdx_cons_zero, List.eraseIdx_cons_succ])) | (refine isLI ?_; first | refine LI_seq ?_ | refine LI_reg ?_ | refine LI_cond_t rfl (by first | with_reducible assumption | with_reducible rfl | with_reducible exact Bool.not_true | with_reducible exact Bool.not_false) ?_ | refine LI_cond_f rfl (by first | with_reducible assumption | with_reducible rfl | with_reducible exact Bool.not_true | with_reducible exact Bool.not_false) ?_ | refine LI_skip ?_ | refine LI_exit ?_ | refine LI_ret ?_ | refine LI_block ?_ | refine LI_loop ?_) | refine LS_nil ?_ | (refine isGd ?_; (first | (refine LS_gu rfl ?_; try dsimp only [st, setL, AV.cells, List.set_cons_zero, List.set_cons_succ]) | refine LS_gy rfl (by first | with_reducible assumption | with_reducible rfl | with_reducible exact Bool.not_true | with_reducible exact Bool.not_false) ?_ | (refine LS_gtn rfl (by first | with_reducible assumption | with_reducible rfl | with_reducible exact Bool.not_true | with_reducible exact Bool.not_false) ?_; try dsimp only [st, setL, AV.cells, List.set_cons_zero, List.set_cons_succ, List.drop_zero, List.drop_succ_cons, List.take_zero, List.take_succ_cons, Nat.zero_add, Nat.add_zero, Nat.reduceAdd, List.cons_append, List.nil_append, List.eraseIdx_cons_zero, List.eraseIdx_cons_succ]) | (refine LS_gfn rfl (by first | with_reducible assumption | with_reducible rfl | with_reducible exact Bool.not_true | with_reducible exact Bool.not_false) ?_; try dsimp only [st, setL, AV.cells, List.set_cons_zero, List.set_cons_succ, List.drop_zero, List.drop_succ_cons, List.take_zero, List.take_succ_cons, Nat.zero_add, Nat.add_zero, Nat.reduceAdd, List.cons_append, List.nil_append, List.eraseIdx_cons_zero, List.eraseIdx_cons_succ]))) | refine LThen_n ?_ | refine LThen_e ?_ | refine LThen_r ?_ | refine LLoop_n ?_ | refine LLoop_e ?_ | refine LLoop_r ?_ | refine LBlk_e ?_ | refine LBlk_o rfl ?_ | refine LBlk_n ?_ | refine LBlk_r ?_)
    exact hk.out) : G := H ⟨hk⟩
end Go.AL
