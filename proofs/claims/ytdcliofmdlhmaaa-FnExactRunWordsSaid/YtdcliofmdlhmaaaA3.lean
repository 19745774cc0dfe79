/- The abstract logic, part 3: operands, conditions, lists of operations. -/
import Derived.Test.YtdcliofmdlhmaaaA2
namespace Go.AL
open Go.RowKit

section
variable {P : Program} {Q : Exit → List AV → AH → Prop} {a : List AV} {h : AH}
/-! ### Operands -/
def absC : Value → Option AV
  | .bool x => some (.b x)
  | .int k n => some (.i k n)
  | .string x => some (.s x)
  | .pointer none => some .np
  | .slice none 0 0 => some .ns
  | .nilFunc => some .nf
  | .map none => some .nm
  | .nilIface => some .nif
  | .tuple vs => if vs.size = 0 then some (.tup []) else none
  | _ => none
def absL : List Value → Option (List AV)
  | [] => some []
  | v :: l => match absC v, absL l with
    | some x, some y => if x.sc then some (x :: y) else none
    | _, _ => none
def absV : Value → Option AV
  | .agg cs => (absL cs.toList).map .agg
  | v => absC v
theorem absC_rel {ι : Pl} {c : Value} {v : AV} (H : absC c = some v) : VRel ι v c := by
  unfold absC at H
  split at H <;> simp at H
  all_goals first | (subst H; constructor; done) | skip
  obtain ⟨h1, rfl⟩ := H
  rename_i vs
  have : vs = #[] := by simpa using h1
  subst this
  exact .tup [] #[] .nil
theorem absL_rel {ι : Pl} : ∀ {cs : List Value} {vs : List AV}, absL cs = some vs → VRels ι vs cs ∧ vs.all AV.sc = true
  | [], vs, H => by simp [absL] at H; subst H; exact ⟨.nil, rfl⟩
  | c :: cs, vs, H => by
    simp only [absL] at H
    split at H
    · rename_i x y hx hy
      split at H
      · injection H with H; subst H
        have := absL_rel (ι := ι) hy
        exact ⟨.cons (absC_rel hx) this.1, by simp [*, this.2]⟩
      · cases H
    · cases H
theorem absV_rel {ι : Pl} {c : Value} {v : AV} (H : absV c = some v) : VRel ι v c := by
  unfold absV at H
  split at H
  · rename_i cs
    cases hl : absL cs.toList with
    | none => rw [hl] at H; simp at H
    | some vs =>
      rw [hl] at H; simp at H; subst H
      have := absL_rel (ι := ι) hl
      exact .agg vs cs this.2 this.1
  · exact absC_rel H
def ev (a : List AV) : Operand → Option AV
  | .tmp t => a[t]?
  | .const v => absV v
  | .func f => some (.f f [])
  | .global _ => none
theorem ev_rel {ι : Pl} {ca : Act} (hr : VRels ι a ca.tmps.toList) {x : Operand} {v : AV} (H : ev a x = some v) : VRel ι v (ca.eval x) := by
  cases x with
  | tmp t =>
    obtain ⟨c, hc, hv⟩ := hr.get H
    have : ca.eval (.tmp t) = c := by
      have hc' : ca.tmps[t]? = some c := by simpa using hc
      simp [Act.eval, hc']
    rw [this]; exact hv
  | const v => exact absV_rel H
  | func f => simp [ev] at H; subst H; exact .f f [] #[] .nil
  | global g => simp [ev] at H
def evs (a : List AV) : List Operand → Option (List AV)
  | [] => some []
  | x :: l => match ev a x, evs a l with
    | some v, some vs => some (v :: vs)
    | _, _ => none
theorem evs_rel {ι : Pl} {ca : Act} (hr : VRels ι a ca.tmps.toList) : ∀ {xs : List Operand} {vs : List AV}, evs a xs = some vs → VRels ι vs (xs.map ca.eval)
  | [], vs, H => by simp [evs] at H; subst H; exact .nil
  | x :: xs, vs, H => by
    simp only [evs] at H
    split at H
    · rename_i v vs' hv hvs
      injection H with H; subst H
      exact .cons (ev_rel hr hv) (evs_rel hr hvs)
    · cases H
def st (a : List AV) (d : Option Nat) (v : AV) : List AV := match d with | some d => a.set d v | none => a
theorem put_rel {ι : Pl} {ca : Act} (hr : VRels ι a ca.tmps.toList) (d : Option Nat) {v : AV} {c : Value} (hv : VRel ι v c) : VRels ι (st a d v) (ca.put d c).tmps.toList := by
  cases d with
  | none => exact hr
  | some d => simpa [st, Act.put] using hr.set d hv
theorem put_defers (ca : Act) (d : Option Nat) (c : Value) : (ca.put d c).defers = ca.defers := by cases d <;> rfl
theorem un_rel (ι : Pl) : VRel ι un undef := .tup [] #[] .nil

theorem AI_cond {c : Operand} {x y : IC} {t : Bool} (hc : ev a c = some (.b t)) (ht : t = true → AI P x Q a h) (hf : t = false → AI P y Q a h) : AI P (.cond c x y) Q a h := by
  intro code hd base w0 ι0 ι w ca hok
  obtain ⟨cx, cy, rfl, hx, hy⟩ := dec_cond hd
  have hv := ev_rel hok.rel hc
  have hv' : ca.eval c = .bool t := by generalize ca.eval c = z at hv; cases hv; rfl
  exact wp_cond_split hv' (fun e => ht e _ hx base w0 ι0 ι w ca hok) (fun e => hf e _ hy base w0 ι0 ι w ca hok)

/-! ### Lists of operations -/
theorem AS_nil (H : Q .normal a h) : AS P [] Q a h := by
  intro ops ol hl _ base w0 ι0 ι w ca hok
  have : ol = [] := by simpa using hl
  subst this
  exact wpList_nil ⟨ι, a, h, hok, H⟩
/-- One operation: what it does to the state. -/
def OpR (P : Program) (op : Op) (dst : Option Nat) (a : List AV) (h : AH) (K : List AV → AH → Prop) : Prop :=
  ∀ (o : Oper), o.op = op → o.dst = dst → ∀ base w0 ι0 ι w ca, Ok base w0 ι0 ι h w a ca → ∀ (N : Act → World → Prop) (R : Exit → Act → World → Prop),
    (∀ ι' a' h' ca' w', Ok base w0 ι0 ι' h' w' a' ca' → K a' h' → N ca' w') → o.wp P ca w N R
theorem AS_op {op : Op} {d : Option Nat} {l : List IOp} (H : OpR P op d a h (fun a' h' => AS P l Q a' h')) : AS P (⟨d, op, none⟩ :: l) Q a h := by
  intro ops ol hl hg base w0 ι0 ι w ca hok
  cases ol with
  | nil => simp at hl
  | cons o ol =>
    simp only [List.map_cons, List.cons.injEq] at hl
    obtain ⟨h1, h2⟩ := hl
    simp only [List.all_cons, Bool.and_eq_true] at hg
    simp only [iop, IOp.mk.injEq] at h1
    obtain ⟨hd, hop, hgd⟩ := h1
    have hgn : o.guard = none := by
      have := hg.1
      simp only [okg, hgd] at this
      simpa using this
    have hw : Region.wanted o (yielded ops ca.tmps) = true := by simp [Region.wanted, hgn]
    simp only [wpList, hw, if_true]
    exact .inl (H o hop hd base w0 ι0 ι w ca hok _ _ fun ι' a' h' ca' w' hok' hk => hk ops ol h2 hg.2 base w0 ι0 ι' w' ca' hok')
theorem AS_guard {op : Op} {d : Option Nat} {l : List IOp} {g : Nat} {want t : Bool} (hv : a[g]? = some (.b t))
    (hy : t = want → AS P (⟨d, op, none⟩ :: l) Q a h) (hn : t = (!want) → AS P l Q (st a d un) h) : AS P (⟨d, op, some (g, want)⟩ :: l) Q a h := by
  intro ops ol hl hg base w0 ι0 ι w ca hok
  cases ol with
  | nil => simp at hl
  | cons o ol =>
    simp only [List.map_cons, List.cons.injEq] at hl
    obtain ⟨h1, h2⟩ := hl
    simp only [List.all_cons, Bool.and_eq_true] at hg
    simp only [iop, IOp.mk.injEq] at h1
    obtain ⟨hd, hop, hgd⟩ := h1
    obtain ⟨j, hj, hjd⟩ : ∃ j, o.guard = some (j, want) ∧ (ops[j]?).bind (·.dst) = some g := by
      unfold gd at hgd
      cases hgu : o.guard with
      | none => simp [hgu] at hgd
      | some jb =>
        obtain ⟨j, b⟩ := jb
        simp only [hgu, Option.bind_some, Option.map_eq_some_iff] at hgd
        obtain ⟨x, hx, he⟩ := hgd
        simp only [Prod.mk.injEq] at he
        obtain ⟨rfl, rfl⟩ := he
        exact ⟨j, rfl, hx⟩
    obtain ⟨c, hc, hcv⟩ := hok.rel.get hv
    have hcb : ca.tmps[g]? = some (.bool t) := by cases hcv; simpa using hc
    have hyd : yielded ops ca.tmps j = some t := by simp only [yielded, hjd, Option.bind_some, hcb]
    by_cases e : t = want
    · have hw : Region.wanted o (yielded ops ca.tmps) = true := by simp [Region.wanted, hj, hyd, e]
      let o' : Oper := { o with guard := none }
      have := hy e ops (o' :: ol) (by simp only [List.map_cons, h2]; congr 1; simp [iop, gd, o', hd, hop]) (by simp only [List.all_cons, hg.2, Bool.and_true]; rfl) base w0 ι0 ι w ca hok
      have hw' : Region.wanted o' (yielded ops ca.tmps) = true := by simp [Region.wanted, o']
      simp only [wpList, hw', if_true] at this
      simp only [wpList, hw, if_true]
      exact this
    · have hw : Region.wanted o (yielded ops ca.tmps) = false := by
        have e2 : ¬ (some t = some want) := fun e3 => e (by injection e3)
        simp [Region.wanted, hj, hyd, e]
      simp only [wpList, hw, Bool.false_eq_true, if_false]
      refine hn ?_ ops ol h2 hg.2 base w0 ι0 ι w _ ⟨hok.le, hok.rep, ?_, ?_⟩
      · cases t <;> cases want <;> simp_all
      · rw [put_defers]; exact hok.def_
      · rw [hd]; exact put_rel hok.rel d (un_rel ι)
theorem AS_gu {op : Op} {d : Option Nat} {l : List IOp} {g : Nat} {want : Bool} (hv : a[g]? = some un) (hn : AS P l Q (st a d un) h) : AS P (⟨d, op, some (g, want)⟩ :: l) Q a h := by
  intro ops ol hl hg base w0 ι0 ι w ca hok
  cases ol with
  | nil => simp at hl
  | cons o ol =>
    simp only [List.map_cons, List.cons.injEq] at hl
    obtain ⟨h1, h2⟩ := hl
    simp only [List.all_cons, Bool.and_eq_true] at hg
    simp only [iop, IOp.mk.injEq] at h1
    obtain ⟨hd, hop, hgd⟩ := h1
    obtain ⟨j, hj, hjd⟩ : ∃ j, o.guard = some (j, want) ∧ (ops[j]?).bind (·.dst) = some g := by
      unfold gd at hgd
      cases hgu : o.guard with
      | none => simp [hgu] at hgd
      | some jb =>
        obtain ⟨j, b⟩ := jb
        simp only [hgu, Option.bind_some, Option.map_eq_some_iff] at hgd
        obtain ⟨x, hx, he⟩ := hgd
        simp only [Prod.mk.injEq] at he
        obtain ⟨rfl, rfl⟩ := he
        exact ⟨j, rfl, hx⟩
    obtain ⟨c, hc, hcv⟩ := hok.rel.get hv
    have hcu : c = undef := by
      unfold un at hcv
      cases hcv
      rename_i cs h1
      cases cs with
      | mk l => cases l with
        | nil => rfl
        | cons x l => cases h1
    have hcb : ca.tmps[g]? = some undef := by rw [← hcu]; simpa using hc
    have hyd : yielded ops ca.tmps j = none := by simp only [yielded, hjd, Option.bind_some, hcb, undef]
    have hw : Region.wanted o (yielded ops ca.tmps) = false := by simp [Region.wanted, hj, hyd]
    simp only [wpList, hw, Bool.false_eq_true, if_false]
    refine hn ops ol h2 hg.2 base w0 ι0 ι w _ ⟨hok.le, hok.rep, ?_, ?_⟩
    · rw [put_defers]; exact hok.def_
    · rw [hd]; exact put_rel hok.rel d (un_rel ι)
theorem AS_gt {op : Op} {d : Option Nat} {l : List IOp} {g : Nat} {t : Bool} (hv : a[g]? = some (.b t)) (hy : t = true → AS P (⟨d, op, none⟩ :: l) Q a h) (hn : t = false → AS P l Q (st a d un) h) :
    AS P (⟨d, op, some (g, true)⟩ :: l) Q a h := AS_guard hv hy (fun e => hn (by simpa using e))
theorem AS_gf {op : Op} {d : Option Nat} {l : List IOp} {g : Nat} {t : Bool} (hv : a[g]? = some (.b t)) (hy : t = false → AS P (⟨d, op, none⟩ :: l) Q a h) (hn : t = true → AS P l Q (st a d un) h) :
    AS P (⟨d, op, some (g, false)⟩ :: l) Q a h := AS_guard hv hy (fun e => hn (by simpa using e))
theorem AS_gy {op : Op} {d : Option Nat} {l : List IOp} {g : Nat} {t want : Bool} (hv : a[g]? = some (.b t)) (ht : t = want) (H : AS P (⟨d, op, none⟩ :: l) Q a h) : AS P (⟨d, op, some (g, want)⟩ :: l) Q a h :=
  AS_guard hv (fun _ => H) (fun e => by subst ht; cases t <;> simp at e)
theorem AS_gtn {op : Op} {d : Option Nat} {l : List IOp} {g : Nat} {t : Bool} (hv : a[g]? = some (.b t)) (ht : t = false) (H : AS P l Q (st a d un) h) : AS P (⟨d, op, some (g, true)⟩ :: l) Q a h :=
  AS_gt hv (fun e => by rw [ht] at e; cases e) (fun _ => H)
theorem AS_gfn {op : Op} {d : Option Nat} {l : List IOp} {g : Nat} {t : Bool} (hv : a[g]? = some (.b t)) (ht : t = true) (H : AS P l Q (st a d un) h) : AS P (⟨d, op, some (g, false)⟩ :: l) Q a h :=
  AS_gf hv (fun e => by rw [ht] at e; cases e) (fun _ => H)
theorem AI_cond_t {c : Operand} {x y : IC} {t : Bool} (hc : ev a c = some (.b t)) (ht : t = true) (H : AI P x Q a h) : AI P (.cond c x y) Q a h := AI_cond hc (fun _ => H) (fun e => by rw [ht] at e; cases e)
theorem AI_cond_f {c : Operand} {x y : IC} {t : Bool} (hc : ev a c = some (.b t)) (ht : t = false) (H : AI P y Q a h) : AI P (.cond c x y) Q a h := AI_cond hc (fun e => by rw [ht] at e; cases e) (fun _ => H)
/-- An operation that only computes. -/
theorem OpR_pure {op : Op} {d : Option Nat} {v : AV} {K : List AV → AH → Prop}
    (H : ∀ (base : Nat) (w0 : World) (ι : Pl) (w : World) (ca : Act), Rep base w0 ι h w → VRels ι a ca.tmps.toList → ∀ (o : Oper), o.op = op → ∃ cv, (execOp ca.eval o).run P w = .ok (.value cv) w ∧ VRel ι v cv)
    (hk : K (st a d v) h) : OpR P op d a h K := by
  intro o ho hd base w0 ι0 ι w ca hok N R hN
  obtain ⟨cv, hr, hv⟩ := H base w0 ι w ca hok.rep hok.rel o ho
  unfold Oper.wp
  rw [hr]
  refine hN ι _ h _ w ⟨hok.le, hok.rep, ?_, ?_⟩ hk
  · rw [put_defers]; exact hok.def_
  · rw [hd]; exact put_rel hok.rel d hv
end

end Go.AL
