/- The abstract logic, part 12: regions that draw their order. -/
import Derived.Test.YtdcliofmdlhmaaaB2
import Derived.OrdersHeld
namespace Go.AL
open Go.RowKit

/-! ### One order that serves all: at each place either an operation that only computes is taken first, or there is but one that may come up -/
def ordB (md : Region.Mode) (ops : Array Oper) : List (Nat × Bool) → Array Bool → Bool
  | [], listed => decide (Region.ready md ops listed = [])
  | (i, true) :: r, listed => (Region.ready md ops listed).contains i && Region.free md ops listed i && ordB md ops r (listed.setIfInBounds i true)
  | (i, false) :: r, listed => decide (Region.ready md ops listed = [i]) && ordB md ops r (listed.setIfInBounds i true)
def drawB (ops : Array Oper) (ord : List (Nat × Bool)) : Bool :=
  Region.noSelect ops && decide (ord.length = ops.size) && ordB .any ops ord (Array.replicate ops.size false)
/-- A region's operations, in that order. -/
def ordOps (ops : Array Oper) : List (Nat × Bool) → Option (List (IOp × Bool))
  | [] => some []
  | (i, p) :: r => match ops[i]? with
    | some o => if o.guard.isNone then (ordOps ops r).map (((⟨o.dst, o.op, none⟩ : IOp), p) :: ·) else none
    | none => none
/-- The regions of a function that draw their order, in the order of its text. -/
def rawsOf : Code → List (Array Oper)
  | .region _ ops true => [ops]
  | .seq x y => rawsOf x ++ rawsOf y
  | .cond _ x y => rawsOf x ++ rawsOf y
  | .block _ x => rawsOf x
  | .loop x => rawsOf x
  | _ => []
def rawAt (f : Func) (k : Nat) : Array Oper := (((f.body.map rawsOf).getD [])[k]?).getD #[]
/-- The worlds of a region: the one that it began in; or whatever has grown out of it. -/
def Scl (m : Nat) (base : Nat) (w0 : World) (ι1 : Pl) (h0 : AH) (w1 : World) (w : World) : Prop :=
  match m with
  | 0 => w = w1
  | 1 => ∃ ι' h', ι1.le ι' ∧ h0.le h' ∧ Rep base w0 ι' h' w
  | _ => Below w1.heap.size w1 w
/-- The same memory, and none of it the run's own. -/
def AH.frz (h : AH) : AH := ⟨h.cs, h.mt.map fun m => ⟨m.k, false, []⟩, h.mp.map fun x => (false, x.2)⟩
theorem frz_mt {h : AH} {b : Nat} {m : Meta} (H : h.frz.mt[b]? = some m) : ∃ m0, h.mt[b]? = some m0 ∧ m = ⟨m0.k, false, []⟩ := by
  simp only [AH.frz, List.getElem?_map, Option.map_eq_some_iff] at H
  obtain ⟨m0, h1, h2⟩ := H
  exact ⟨m0, h1, h2.symm⟩
theorem frz_wf {h : AH} (H : h.wf) : h.frz.wf := by
  refine ⟨by simp [AH.frz, H.len], ?_, ?_⟩
  · intro b b' m m' h1 h2 h3
    obtain ⟨m0, _, rfl⟩ := frz_mt h3; rfl
  · intro b m h1 b' h2
    obtain ⟨m0, _, rfl⟩ := frz_mt h1; cases h2
theorem Rep.frz {base : Nat} {w0 : World} {ι : Pl} {h : AH} {w : World} (R : Rep base w0 ι h w) : Rep w.heap.size w ι h.frz w := by
  refine ⟨R.lb, by simp [AH.frz, R.lm], by simp [AH.frz, R.lp], Below.refl _ _, Nat.le_refl _, R.sc, R.cell, ?_, R.inb, ?_, ?_, ?_, ?_, ?_, ?_, R.mexcl, fun k o hk _ => hk⟩
  · intro b pl m hb hm
    obtain ⟨m0, h1, rfl⟩ := frz_mt hm
    exact R.kk b pl m0 hb h1
  · intro b pl m l hb hm hl ho
    obtain ⟨m0, h1, rfl⟩ := frz_mt hm; cases ho
  · intro b b' pl pl' m m' l l' hb hb' hm hm' hl hl' ho
    obtain ⟨m0, h1, rfl⟩ := frz_mt hm; cases ho
  · intro b b' pl pl' m m' hb hb' hm hm' ho
    obtain ⟨m0, h1, rfl⟩ := frz_mt hm; cases ho
  · intro b b' m m' hm hb hm'
    obtain ⟨m0, h1, rfl⟩ := frz_mt hm'; rfl
  · intro b m hm b' hb'
    obtain ⟨m0, h1, rfl⟩ := frz_mt hm; cases hb'
  · intro r c es h1 h2
    simp only [AH.frz, List.getElem?_map, Option.map_eq_some_iff] at h2
    obtain ⟨x, hx, rfl⟩ := h2
    obtain ⟨_, en, cl, h4, h5, h6⟩ := R.mcell r c x h1 hx
    exact ⟨by simp, en, cl, h4, h5, h6⟩
theorem Rep.below_keep {base : Nat} {w0 : World} {ι : Pl} {h : AH} {w w' : World} (R : Rep base w0 ι h w) (B : Below w.heap.size w w') : Rep base w0 ι h w' := by
  refine ⟨R.lb, R.lm, R.lp, R.below.trans (B.mono R.base_le), Nat.le_trans R.base_le B.size, R.sc, ?_, R.kk, ?_, ?_, R.excl, R.own2, R.ancno, R.anclt, ?_, R.mexcl, fun k o hk ho => by have h1 := R.oth k o hk ho; rw [B.block _ (Array.getElem?_eq_some_iff.1 h1).1]; exact h1⟩
  · intro b pl l hb hl j v hv
    obtain ⟨cv, h1, h2⟩ := R.cell b pl l hb hl j v hv
    exact ⟨cv, by rw [B.cell (R.inb b pl hb)]; exact h1, h2⟩
  · intro b pl hb
    exact Nat.lt_of_lt_of_le (R.inb b pl hb) B.size
  · intro b pl m l hb hm hl ho
    obtain ⟨h1, h2, arr, T, h3, h4⟩ := R.own b pl m l hb hm hl ho
    exact ⟨h1, h2, arr, T, by rw [B.block _ (R.inb b pl hb)]; exact h3, h4⟩
  · intro r c es h1 h2
    obtain ⟨h3, en, cl, h4, h5, h6⟩ := R.mcell r c es h1 h2
    exact ⟨h3, en, cl, by rw [B.block _ (Array.getElem?_eq_some_iff.1 h4).1]; exact h4, h5, h6⟩
theorem RdG.frz {α : Type} {k : Nat} {enc : α → List AV} {h : AH} {v : AV} {l : List α} (H : RdG k enc h v l) : RdG k enc h.frz v l := by
  refine ⟨H.len, H.rd.imp id fun ⟨b, o, c, h1, h2, h3⟩ => ⟨b, o, c, h1, h2, ?_⟩⟩
  simp only [AH.frz, List.getElem?_map]
  cases hm : h.mt[b]? with
  | none => rw [hm] at h3; simp at h3
  | some m => rw [hm] at h3; simpa using h3
/-- An operation whose value is the same in all of them. -/
def OpF (P : Program) (m : Nat) (op : Op) (h0 : AH) (a : List AV) (v : AV) : Prop :=
  ∀ base w0 ι1 w1 (ι : Pl) (ca : Act), Rep base w0 ι1 h0 w1 → ι1.le ι → VRels ι a ca.tmps.toList → ∀ o : Oper, o.op = op → ∃ cv, (∀ w, Scl m base w0 ι1 h0 w1 w → (execOp ca.eval o).run P w = .ok (.value cv) w) ∧ VRel ι v cv
theorem OpF_V {P : Program} {m : Nat} {op : Op} {h0 : AH} {a : List AV} {v : AV} (H : OpV P op a v) : OpF P m op h0 a v :=
  fun _ _ _ _ ι ca _ _ hr o ho => let ⟨cv, h1, h2⟩ := H ι ca hr o ho; ⟨cv, fun w _ => h1 w, h2⟩
def detS (n : Nat) : AV → Bool
  | .b _ | .i _ _ | .s _ | .np | .ns | .nf | .nm | .nif => true
  | .p b _ => decide (b < n)
  | _ => false
def det (n : Nat) : AV → Bool
  | .agg cs => cs.all (detS n)
  | v => detS n v
theorem detS_eq {ι1 ι ι' : Pl} (h1 : ι1.le ι) (h2 : ι1.le ι') {v : AV} {c c' : Value} (hd : detS ι1.bl.length v = true) (r : VRel ι v c) (r' : VRel ι' v c') : c = c' := by
  cases v <;> simp only [detS, Bool.false_eq_true] at hd
  case p b o =>
    cases r with
    | p _ _ pl e =>
      cases r' with
      | p _ _ pl' e' =>
        have hb : b < ι1.bl.length := by simpa using hd
        have e1 := pre_get h1.1 (List.getElem?_eq_getElem hb)
        have e2 := pre_get h2.1 (List.getElem?_eq_getElem hb)
        rw [e] at e1; rw [e'] at e2
        cases e1; cases e2; rfl
  all_goals (cases r; cases r'; rfl)
theorem det_list {ι1 ι ι' : Pl} (h1 : ι1.le ι) (h2 : ι1.le ι') : ∀ {vs : List AV} {cs cs' : List Value}, vs.all (detS ι1.bl.length) = true → VRels ι vs cs → VRels ι' vs cs' → cs = cs'
  | _, _, _, _, .nil, .nil => rfl
  | _, _, _, hd, .cons r t, .cons r' t' => by
    simp only [List.all_cons, Bool.and_eq_true] at hd
    rw [detS_eq h1 h2 hd.1 r r', det_list h1 h2 hd.2 t t']
theorem det_eq {ι1 ι ι' : Pl} (h1 : ι1.le ι) (h2 : ι1.le ι') {v : AV} {c c' : Value} (hd : det ι1.bl.length v = true) (r : VRel ι v c) (r' : VRel ι' v c') : c = c' := by
  cases v with
  | agg cs =>
    cases r with
    | agg _ vs _ t =>
      cases r' with
      | agg _ vs' _ t' =>
        have := det_list h1 h2 (by simpa [det] using hd) t t'
        exact congrArg Value.agg (Array.toList_inj.1 this)
  | _ => exact detS_eq h1 h2 (by simpa [det] using hd) r r'
theorem loadA_lt {P : Program} {T : TypeId} {h : AH} {b o : Nat} {v : AV} (H : loadA P T h b o = some v) : b < h.cs.length := by
  have hx : ∀ {γ : Type} {f : List AV → Option γ} {y : γ}, (h.cs[b]?).bind f = some y → b < h.cs.length := by
    intro γ f y e
    cases hr : h.cs[b]? with
    | none => rw [hr] at e; simp at e
    | some r => exact (List.getElem?_eq_some_iff.1 hr).1
  unfold loadA at H
  split at H
  · cases hn : szT P T with
    | none => rw [hn] at H; simp at H
    | some n =>
      rw [hn] at H
      simp only [Option.bind_some, Option.map_eq_some_iff] at H
      obtain ⟨l, hl, _⟩ := H
      exact hx hl
  · exact hx H
  · cases H
theorem AH.le.loadA {P : Program} {T : TypeId} {h h' : AH} (H : h.le h') {b o : Nat} {v : AV} (hv : loadA P T h b o = some v) : loadA P T h' b o = some v := by
  unfold Go.AL.loadA at hv ⊢
  split at hv
  · rename_i e
    cases hn : szT P T with
    | none => rw [hn] at hv; simp at hv
    | some n =>
      rw [hn] at hv
      simp only [Option.bind_some, Option.map_eq_some_iff] at hv ⊢
      obtain ⟨l, hl, e⟩ := hv
      exact ⟨l, H.row hl, e⟩
  · exact H.cell hv
  · cases hv
theorem run_loadVar_keep {P : Program} {base : Nat} {w0 : World} {ι : Pl} {h : AH} {w : World} (hrep : Rep base w0 ι h w) {T : TypeId} {b o : Nat} {v : AV} {pl : Place} (hp : ι.bl[b]? = some pl) (H : loadA P T h b o = some v) :
    ∃ cv, VRel ι v cv ∧ ∀ w' : World, (∀ j : Nat, w'.cell? ⟨pl.c, j, none⟩ = w.cell? ⟨pl.c, j, none⟩) → (loadVar T ⟨pl.c, pl.o + o, none⟩).run P w' = .ok cv w' := by
  unfold loadA at H
  split at H
  · rename_i hT
    cases hn : szT P T with
    | none => rw [hn] at H; simp at H
    | some n =>
      rw [hn] at H
      simp only [Option.bind_some, Option.map_eq_some_iff] at H
      obtain ⟨l, hl, rfl⟩ := H
      obtain ⟨cl, h1, h2, h3, h4⟩ := rep_row hrep hp hl
      refine ⟨.agg cl.toArray, .agg l cl.toArray h3 (by simpa using h1), fun w' hw' => ?_⟩
      have := run_loadCells_list (P := P) w' ⟨pl.c, pl.o + o, none⟩ cl (fun j v hv => by
        have e := h4 j v hv
        rw [add_none] at e ⊢
        rw [hw']; exact e)
      simp only [loadVar, Sem.run_bind, run_isAgg_of hT, Result.andThen_ok, if_true, run_sizeOf_sz hn, ← h2, this]
      rfl
  · rename_i hT
    unfold AH.cell at H
    cases hr : h.cs[b]? with
    | none => rw [hr] at H; simp at H
    | some r =>
      rw [hr] at H
      simp only [Option.bind_some] at H
      obtain ⟨cv, hc, hv⟩ := hrep.cell b pl r hp hr o v H
      refine ⟨cv, hv, fun w' hw' => ?_⟩
      rw [← hw'] at hc
      simp only [loadVar, Sem.run_bind, run_isAgg_of hT, Result.andThen_ok, Bool.false_eq_true, if_false, run_load, hc]
  · cases H
theorem OpF_load {P : Program} {m : Nat} {T : TypeId} {x : Operand} {h0 : AH} {a : List AV} {b o' : Nat} {v : AV} (hx : ev a x = some (.p b o')) (hv : loadA P T h0 b o' = some v) (hd : m = 1 → det h0.cs.length v = true) :
    OpF P m (.load T x) h0 a v := by
  intro base w0 ι1 w1 ι ca hrep hle hr o ho
  have h1 := ev_rel hr hx
  obtain ⟨pl, hpl, hc⟩ : ∃ pl : Place, ι.bl[b]? = some pl ∧ ca.eval x = .pointer (some ⟨pl.c, pl.o + o', none⟩) := by
    generalize ca.eval x = q at h1
    cases h1 with | p _ _ pl h => exact ⟨pl, h, rfl⟩
  have hb := loadA_lt hv
  have hb1 : b < ι1.bl.length := by rw [hrep.lb]; exact hb
  have hpl1 : ι1.bl[b]? = some pl := by
    have e1 := pre_get hle.1 (List.getElem?_eq_getElem hb1)
    rw [hpl] at e1
    rw [List.getElem?_eq_getElem hb1, e1]
  obtain ⟨cv, e2, e1⟩ := run_loadVar_keep (P := P) hrep hpl1 hv
  refine ⟨cv, fun w hS => ?_, e2.mono hle⟩
  have hrun : (loadVar T ⟨pl.c, pl.o + o', none⟩).run P w = .ok cv w := by
    match m, hd, hS with
    | 0, _, hS => simp only [Scl] at hS; rw [hS]; exact e1 _ fun _ => rfl
    | n + 2, _, hS =>
      simp only [Scl] at hS
      exact e1 _ fun j => hS.cell (hrep.inb b pl hpl1)
    | 1, hd, hS =>
      simp only [Scl] at hS
      obtain ⟨ι', h', hi, hh, hrep'⟩ := hS
      obtain ⟨cv', e1', e2'⟩ := run_loadVar_abs (P := P) hrep' (pre_get hi.1 hpl1) (hh.loadA hv)
      have : cv' = cv := det_eq hi (Pl.le.refl _) (by rw [hrep.lb]; exact hd rfl) e2' e2
      rw [← this]; exact e1'
  unfold execOp
  simp [ho, hc, Instr.loadAt, Instr.sureAddr, hrun]

theorem OpV_arith {P : Program} {a : List AV} {op : BinOp} {T T' : TypeId} {x y : Operand} {m n : Int} (z : Int) (hx : ev a x = some (.i .i64 m)) (hy : ev a y = some (.i .i64 n))
    (hz : binI op .i64 m n = some (.i .i64 (IntKind.i64.wrap z))) (h1 : -9223372036854775808 ≤ z) (h2 : z ≤ 9223372036854775807) : OpV P (.binOp op T x y T') a (.i .i64 z) := by
  have e : IntKind.i64.wrap z = z := IntWalk.i64_in z ⟨h1, h2⟩
  rw [e] at hz
  exact OpV_bin hx hy hz

theorem Scl_start (m : Nat) {base : Nat} {w0 : World} {ι1 : Pl} {h0 : AH} {w1 : World} (R : Rep base w0 ι1 h0 w1) : Scl m base w0 ι1 h0 w1 w1 := by
  match m with
  | 0 => rfl
  | 1 => exact ⟨ι1, h0, .refl _, .refl _, R⟩
  | _ + 2 => exact Below.refl _ _
/-! ### The walk -/
def AX (P : Program) (m : Nat) (h0 : AH) (l : List (IOp × Bool)) (K : List AV → AH → Prop) (a : List AV) (h : AH) : Prop :=
  ∀ (ops : Array Oper) (ord : List (Nat × Bool)) (listed : Array Bool), ordOps ops ord = some l → Region.noSelect ops = true → ordB .any ops ord listed = true →
    ∀ base w0 ι0 ι1 w1 ι w ca, Rep base w0 ι1 h0 w1 → ι0.le ι1 → ι1.le ι → h0.le h → Scl m base w0 ι1 h0 w1 w → Ok base w0 ι0 ι h w a ca → ∀ Qc : Exit → Act → World → Prop, (∀ c a w, ¬ Qc (.panic c) a w) →
      (∀ ι' a' h' ca' w', Ok base w0 ι0 ι' h' w' a' ca' → K a' h' → Qc .normal ca' w') → wpAnyH P .any ops Qc (Scl m base w0 ι1 h0 w1) ord.length listed ca w
section
variable {P : Program} {m : Nat} {h0 h : AH} {l : List (IOp × Bool)} {K : List AV → AH → Prop} {a : List AV}
theorem AX_nil (H : K a h) : AX P m h0 [] K a h := by
  intro ops ord listed ho hs hB base w0 ι0 ι1 w1 ι w ca hrep h01 hle hh hm hok Qc hQ hQn
  cases ord with
  | nil => exact wpAnyH_done (by simpa [ordB] using hB) (hQn _ _ _ _ _ hok H) _
  | cons x r =>
    obtain ⟨i, p⟩ := x
    simp only [ordOps] at ho
    split at ho
    · split at ho
      · cases hr : ordOps ops r <;> rw [hr] at ho <;> simp at ho
      · cases ho
    · cases ho
theorem ordOps_cons {ops : Array Oper} {ord : List (Nat × Bool)} {op : Op} {d : Option Nat} {p : Bool} (ho : ordOps ops ord = some ((⟨d, op, none⟩, p) :: l)) :
    ∃ i r o, ord = (i, p) :: r ∧ ops[i]? = some o ∧ o.guard = none ∧ o.dst = d ∧ o.op = op ∧ ordOps ops r = some l := by
  cases ord with
  | nil => simp [ordOps] at ho
  | cons x r =>
    obtain ⟨i, p'⟩ := x
    simp only [ordOps] at ho
    cases hoi : ops[i]? with
    | none => rw [hoi] at ho; cases ho
    | some o =>
      rw [hoi] at ho
      simp only at ho
      split at ho
      · rename_i hg
        simp only [Option.map_eq_some_iff, List.cons.injEq, Prod.mk.injEq, IOp.mk.injEq] at ho
        obtain ⟨l', hl', ⟨⟨e1, e2, _⟩, e3⟩, rfl⟩ := ho
        exact ⟨i, r, o, by rw [e3], hoi, by simpa using hg, e1, e2, hl'⟩
      · cases ho
theorem AX_f {op : Op} {d : Option Nat} {v : AV} (hv : OpF P m op h0 a v) (H : AX P m h0 l K (st a d v) h) : AX P m h0 ((⟨d, op, none⟩, true) :: l) K a h := by
  intro ops ord listed ho hs hB base w0 ι0 ι1 w1 ι w ca hrep h01 hle hh hm hok Qc hQ hQn
  obtain ⟨i, r, o, rfl, hoi, hg, hd, hop, hol⟩ := ordOps_cons ho
  simp only [ordB, Bool.and_eq_true] at hB
  obtain ⟨cv, hrun, hrel⟩ := hv base w0 ι1 w1 ι ca hrep hle hok.rel o hop
  have hS : Scl m base w0 ι1 h0 w1 w := hm
  refine wpAnyH_take hoi hs hB.1.2 hB.1.1 (fun c a w hp => absurd hp (hQ _ _ _)) (.inl ⟨by simp [Region.wanted, hg], hrun⟩) hS ?_
  refine H ops r _ hol hs hB.2 base w0 ι0 ι1 w1 ι w _ hrep h01 hle hh hm ⟨hok.le, hok.rep, by rw [put_defers]; exact hok.def_, ?_⟩ Qc hQ hQn
  rw [hd]; exact put_rel hok.rel d hrel
theorem AX_v {op : Op} {d : Option Nat} {v : AV} (hv : OpV P op a v) (H : AX P m h0 l K (st a d v) h) : AX P m h0 ((⟨d, op, none⟩, true) :: l) K a h := AX_f (OpF_V hv) H
/-- What changes the world: it has come up alone. -/
theorem AX_op {op : Op} {d : Option Nat} (H : OpR P op d a h (fun a' h' => h0.le h' ∧ AX P 1 h0 l K a' h')) : AX P 1 h0 ((⟨d, op, none⟩, false) :: l) K a h := by
  intro ops ord listed ho hs hB base w0 ι0 ι1 w1 ι w ca hrep h01 hle hh hm hok Qc hQ hQn
  obtain ⟨i, r, o, rfl, hoi, hg, hd, hop, hol⟩ := ordOps_cons ho
  simp only [ordB, Bool.and_eq_true, decide_eq_true_eq] at hB
  refine wpAnyH_all hB.1 (by simp) ?_
  intro i' hi'
  have : i' = i := by simpa using hi'
  subst this
  unfold wpOp
  simp only [hoi]
  have hw : Region.wanted o (yielded ops ca.tmps) = true := by simp [Region.wanted, hg]
  rw [if_pos hw]
  refine .inl (H o hop hd base w0 { ι1 with df := ι0.df } ι w ca ⟨hle, hok.rep, hok.def_, hok.rel⟩ _ _ fun ι' a' h' ca' w' hok' hk => ?_)
  refine ⟨⟨ι', h', hok'.le, hk.1, hok'.rep⟩, ?_⟩
  exact hk.2 ops r _ hol hs hB.2 base w0 ι0 ι1 w1 ι' w' ca' hrep h01 hok'.le hk.1 ⟨ι', h', hok'.le, hk.1, hok'.rep⟩ ⟨h01.trans hok'.le, hok'.rep, hok'.def_, hok'.rel⟩ Qc hQ hQn
/-- A call that leaves all that there was as it was, and hands back a plain value. -/
theorem AX_q {f : Operand} {args : Array Operand} {ts : Array TypeId} {d : Option Nat} {g : FuncId} {caps vs : List AV} {x : AV} {R : AV → AH → Prop}
    (hf : ev a f = some (.f g caps)) (ha : evs a args.toList = some vs) (hc : AC P g (vs ++ caps) h0.frz R) (hR : ∀ v h', R v h' → v = x) (hx : ∀ ι ι' c, VRel ι x c → VRel ι' x c) (hh0 : h = h0)
    (H : AX P 2 h0 l K (st a d x) h) : AX P 2 h0 ((⟨d, .call { callee := .value f, args := args, argTypes := ts }, none⟩, false) :: l) K a h := by
  subst hh0
  intro ops ord listed ho hs hB base w0 ι0 ι1 w1 ι w ca hrep h01 hle hh hm hok Qc hQ hQn
  obtain ⟨i, r, o, rfl, hoi, hg, hd, hop, hol⟩ := ordOps_cons ho
  simp only [ordB, Bool.and_eq_true, decide_eq_true_eq] at hB
  refine wpAnyH_all hB.1 (by simp) ?_
  intro i' hi'
  have : i' = i := by simpa using hi'
  subst this
  unfold wpOp
  simp only [hoi]
  have hw : Region.wanted o (yielded ops ca.tmps) = true := by simp [Region.wanted, hg]
  rw [if_pos hw]
  refine .inl ?_
  have hfv := ev_rel hok.rel hf
  have hav := evs_rel hok.rel ha
  obtain ⟨⟨fn, hfn, hnm, hbd⟩, hcw⟩ := hc
  obtain ⟨cc, hcc, hcr⟩ : ∃ cc : Array Value, ca.eval f = .func (.func g) #[] cc ∧ VRels ι caps cc.toList := by
    generalize ca.eval f = z at hfv
    cases hfv with
    | f _ _ vs h => exact ⟨vs, rfl, h⟩
  have hcall := hcw _ _ ι w (args.map ca.eval ++ cc) hok.rep.frz (by simpa using hav.append hcr)
  have hrun' := run_call_value (P := P) (ca := ca) (w := w) (o := o) hop hcc hfn hnm hbd
  unfold Oper.wp
  rw [hrun', Oper.upon_enter]
  refine hcall.mono ?_
  rintro e w' ⟨v, cv, ι', h', rfl, hle', hrep', hv, hRv⟩
  obtain rfl := hR _ _ hRv
  have hB' : Below w.heap.size w w' := hrep'.below
  have hm' : Below w1.heap.size w1 w := hm
  have hS : Scl 2 base w0 ι1 h w1 w' := hm'.trans (hB'.mono hm'.size)
  refine ⟨hS, ?_⟩
  refine H ops r _ hol hs hB.2 base w0 ι0 ι1 w1 ι w' _ hrep h01 hle hh hS ⟨hok.le, hok.rep.below_keep hB', by rw [put_defers]; exact hok.def_, ?_⟩ Qc hQ hQn
  rw [hd]; exact put_rel hok.rel d (hx _ _ _ hv)
theorem plain_b (t : Bool) : ∀ ι ι' c, VRel ι (.b t) c → VRel ι' (.b t) c := by intro ι ι' c h; cases h; exact .b _
theorem plain_i (k : IntKind) (n : Int) : ∀ ι ι' c, VRel ι (.i k n) c → VRel ι' (.i k n) c := by intro ι ι' c h; cases h; exact .i _ _
/-- A region that draws its order. -/
theorem AI_draw {Q : Exit → List AV → AH → Prop} {id : Nat} {ops : Array Oper} (ord : List (Nat × Bool)) (m : Nat) {l : List (IOp × Bool)} (hm : P.follows .mixedOrders = true) (hB : drawB ops ord = true) (hl : ordOps ops ord = some l)
    (H : AX P m h l (fun a' h' => Q .normal a' h') a h) : AI P (.raw (.region id ops true)) Q a h := by
  intro code hd base w0 ι0 ι w ca hok
  obtain rfl := dec_raw hd
  simp only [drawB, Bool.and_eq_true, decide_eq_true_eq] at hB
  obtain ⟨⟨hs, hlen⟩, hord⟩ := hB
  let Qc : Exit → Act → World → Prop := fun e a' w' => e = .normal ∧ QL base w0 ι0 Q .normal a' w'
  refine Code.wp_mono (Q := Qc) ?_ (wp_region_held (S := Scl m base w0 ι h { w with drawn := w.drawn + 1 }) hm ?_)
  · rintro e a' w' ⟨rfl, hq⟩; exact hq
  · have hrep := hok.rep.drew
    have hgo : wpAnyH P .any ops Qc (Scl m base w0 ι h w.drew) ord.length (Array.replicate ops.size false) ca w.drew := ?_
    · rw [hlen] at hgo; exact hgo
    refine H ops ord _ hl hs hord base w0 ι0 ι _ ι _ ca hrep hok.le (Pl.le.refl _) (AH.le.refl _) (Scl_start m hrep) ⟨hok.le, hrep, hok.def_, hok.rel⟩ Qc (fun c a w hq => by cases hq.1) ?_
    intro ι' a' h' ca' w' hok' hk
    exact ⟨rfl, ι', a', h', hok', hk⟩
end
end Go.AL
