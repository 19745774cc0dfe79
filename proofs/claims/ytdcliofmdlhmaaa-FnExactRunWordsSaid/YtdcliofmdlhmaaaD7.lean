/- The logic of what is owned, part 14: a range over a function whose body calls and writes. -/
import Derived.Test.YtdcliofmdlhmaaaD6
import Derived.RangeFuncCalls
namespace Go.AL
set_option linter.unusedVariables false
set_option linter.unusedSimpArgs false
open Go.RowKit Go.Proofs
/-! ### The body of a round: its frame differs, what it does not. -/
def RF (l : Nat) : Fence := Fence.wide.inRound l
theorem rows_wide {n : Nat} {P : Program} {row : String} {args : Array Value} {w : World} {R : Value → World → Prop} (l : Nat) (H : Rows P row args w R) : RowsIn (RF l) n P row args w R := by
  intro c cs hr
  obtain ⟨v, w', r, s⟩ := H c cs
  exact ⟨v, w', r, stepsIn_wide.2 s⟩
theorem oper_in {l n : Nat} {P : Program} {o : Oper} {ca : Act} {w : World} {N N' : Act → World → Prop} {Q : Exit → Act → World → Prop} (hd : ∀ c, o.op ≠ .defer c) (hQ : ∀ c a w, ¬ Q (.panic c) a w) (hL : ¬ LetsOut Q) (hN : ∀ a w, N a w → N' a w) (H : o.wp P ca w N Q) : o.wpIn (RF l) n P ca w N' Q := by
  refine ⟨fun _ _ => trivial, ?_⟩
  unfold Oper.wp at H
  have e : Oper.semAt (RF l).round ca.eval o = execOp ca.eval o := Oper.semAt_eq _ _ _ hd
  rw [e]
  generalize (execOp ca.eval o).run P w = res at H
  cases res with
  | ok x w' =>
    cases x with
    | value v => exact hN _ _ H
    | skip => exact hN _ _ H
    | defer d => exact hN _ _ H
    | enter f args =>
      rw [Oper.upon_enter] at H
      rw [Oper.uponIn_enter]
      refine ⟨fun h => absurd h (by decide : ¬ (none : Option Nat).isSome = true), ?_⟩
      refine CallsIn.inRound l (callsIn_wide.2 (H.mono ?_))
      intro e w'' h
      cases e with
      | returned v => exact hN _ _ h
      | panicked c => exact h
      | outgrown => exact h
    | row row args =>
      rw [Oper.upon_row] at H
      rw [Oper.uponIn_row]
      exact ⟨fun h => absurd h (by decide : ¬ (none : Option Nat).isSome = true), rows_wide l (H.mono fun v w' h => hN _ _ h)⟩
    | _ => exact H.elim
  | halt s w' =>
    cases s with
    | panic v => exact H
    | _ => exact H.elim
def noDef (o : IOp) : Bool := match o.op with | .defer _ => false | _ => true
theorem list_in {l n : Nat} {P : Program} {ops : Array Oper} {Q : Exit → Act → World → Prop} (hQ : ∀ c a w, ¬ Q (.panic c) a w) (hL : ¬ LetsOut Q) : ∀ (ol : List Oper) (ca : Act) (w : World), (ol.map (iop ops)).all noDef = true → wpList P ops Q ol ca w → wpListIn (RF l) n P ops Q ol ca w
  | [], ca, w, _, H => H
  | o :: ol, ca, w, hd, H => by
    simp only [List.map_cons, List.all_cons, Bool.and_eq_true] at hd
    have ih := fun ca w => list_in (l := l) (n := n) (P := P) (ops := ops) (Q := Q) hQ hL ol ca w hd.2
    unfold wpList at H
    unfold wpListIn
    by_cases hw : Region.wanted o (yielded ops ca.tmps) = true
    · rw [if_pos hw] at H ⊢
      rcases H with H | ⟨_, H⟩
      · refine oper_in (fun c e => ?_) hQ hL ih H
        have := hd.1
        simp only [noDef, iop, e] at this
        cases this
      · exact absurd H hL
    · rw [if_neg hw] at H ⊢
      exact ⟨fun _ _ => trivial, ih _ _ H⟩
/-! ### Code in a round -/
def AR (P : Program) (l n : Nat) (x : IC) (Q : Exit → List AV → AH → Prop) (a : List AV) (h : AH) : Prop :=
  ∀ code, dec code = x → ∀ base w0 ι0 ι w ca, Ok base w0 ι0 ι h w a ca → code.wpIn (RF l) n P (QL base w0 ι0 Q) ca w
def LR (P : Program) (l n : Nat) (h0 : AH) (L : List It) (x : IC) (Q : Exit → List AV → List It → Prop) (a : List AV) : Prop := ∀ h, Loq h0 h L → AR P l n x (Lh h0 Q) a h
def LRThen (P : Program) (l n : Nat) (h0 : AH) (y : IC) (Q : Exit → List AV → List It → Prop) : Exit → List AV → List It → Prop
  | .normal, a, L => LR P l n h0 L y Q a
  | e, a, L => Q e a L
def NoOut (Q : Exit → List AV → List It → Prop) : Prop := (∀ c a L, ¬ Q (.panic c) a L) ∧ ∀ a L, ¬ Q .outgrown a L
section
variable {P : Program} {l n : Nat} {h0 : AH} {L : List It} {Q : Exit → List AV → List It → Prop} {a : List AV} {x y : IC}
theorem NoOut.then (H : NoOut Q) : NoOut (LRThen P l n h0 y Q) := ⟨fun c a L => H.1 c a L, fun a L => H.2 a L⟩
theorem NoOut.blk {id : Nat} (H : NoOut Q) : NoOut (LBlk id Q) := ⟨fun c a L => H.1 c a L, fun a L => H.2 a L⟩
theorem NoOut.nor {X : List AV → List It → Prop} : NoOut (fun e a L => e = .normal ∧ X a L) := ⟨fun c a L h => (by cases h.1), fun a L h => (by cases h.1)⟩
theorem LR_reg {ll : List IOp} (hQ : NoOut Q) (hd : ll.all noDef = true) (H : LS P h0 L ll Q a) : LR P l n h0 L (.reg ll) Q a := by
  intro h HL code hc base w0 ι0 ι w ca hok
  obtain ⟨id, ops, rfl, hall, hl⟩ := dec_reg hc
  refine wpIn_region_list (list_in ?_ ?_ _ _ _ (by rw [hl]; exact hd) (H h HL ops ops.toList hl hall base w0 ι0 ι w ca hok))
  · rintro c a w ⟨_, _, _, _, L', _, q⟩
    exact hQ.1 _ _ _ q
  · rintro ⟨a, w, _, _, _, _, L', _, q⟩
    exact hQ.2 _ _ q
theorem LR_seq (H : LR P l n h0 L x (LRThen P l n h0 y Q) a) : LR P l n h0 L (.seq x y) Q a := by
  intro h HL code hc base w0 ι0 ι w ca hok
  obtain ⟨cx, cy, rfl, hx, hy⟩ := dec_seq hc
  refine wpIn_seq (wpIn_mono (H h HL cx hx base w0 ι0 ι w ca hok) ?_)
  rintro e ca' w' ⟨ι', a', h', hok', L', HL', q⟩
  cases e with
  | normal => exact q h' HL' cy hy base w0 ι0 ι' w' ca' hok'
  | _ => exact ⟨ι', a', h', hok', L', HL', q⟩
theorem LR_cond {c : Operand} {t : Bool} (hc : ev a c = some (.b t)) (ht : t = true → LR P l n h0 L x Q a) (hf : t = false → LR P l n h0 L y Q a) : LR P l n h0 L (.cond c x y) Q a := by
  intro h HL code hd base w0 ι0 ι w ca hok
  obtain ⟨cx, cy, rfl, hx, hy⟩ := dec_cond hd
  have hv := ev_rel hok.rel hc
  have hv' : ca.eval c = .bool t := by generalize ca.eval c = z at hv; cases hv; rfl
  exact wpIn_cond_split hv' (fun e => ht e h HL _ hx base w0 ι0 ι w ca hok) (fun e => hf e h HL _ hy base w0 ι0 ι w ca hok)
theorem LR_skip (H : Q .normal a L) : LR P l n h0 L .skip Q a := by
  intro h HL code hd base w0 ι0 ι w ca hok
  obtain rfl := dec_skip hd
  exact wpIn_skip ⟨ι, a, h, hok, L, HL, H⟩
theorem LR_block {id : Nat} (H : LR P l n h0 L x (LBlk id Q) a) : LR P l n h0 L (.block id x) Q a := by
  intro h HL code hd base w0 ι0 ι w ca hok
  obtain ⟨cx, rfl, hx⟩ := dec_block hd
  refine wpIn_block (wpIn_mono (H h HL _ hx base w0 ι0 ι w ca hok) ?_)
  rintro e ca' w' ⟨ι', a', h', hok', L', HL', q⟩
  cases e with
  | exit id' =>
    simp only [Exit.inBlock, LBlk] at q ⊢
    split
    · rw [if_pos ‹_›] at q; exact ⟨ι', a', h', hok', L', HL', q⟩
    · rw [if_neg ‹_›] at q; exact ⟨ι', a', h', hok', L', HL', q⟩
  | _ => exact ⟨ι', a', h', hok', L', HL', q⟩
theorem LRThen_n (H : LR P l n h0 L y Q a) : LRThen P l n h0 y Q .normal a L := H
end
/-! ### A function with a loop over a function: its deferred calls are the loop's mark. -/
def Mk (mk : Bool) (ds : List Deferred) (w : World) : Prop := match mk with
  | true => ∃ D, ds = [{ target := .collected D, args := #[] }] ∧ w.heap[D]? = some (.deferred (some []))
  | false => ds = []
structure Inv (base : Nat) (w00 : World) (ι00 : Pl) (mk : Bool) (a : List AV) (h : AH) (ι : Pl) (w : World) (ca : Act) : Prop where
  le : ι00.le ι
  rep : Rep base w00 ι h w
  mrk : Mk mk ca.defers w
  old : w00.heap.size ≤ w.heap.size
  bs : base ≤ w00.heap.size
  mnew : ∀ D, ca.defers = [{ target := .collected D, args := #[] }] → w00.heap.size ≤ D
  rel : VRels ι a ca.tmps.toList
def RFn (R : AV → AH → Prop) (base : Nat) (w00 : World) (ι00 : Pl) : Ending → World → Prop := fun e w' => ∃ v cv ι' h', e = .returned cv ∧ ι00.le ι' ∧ Rep base w00 ι' h' w' ∧ VRel ι' v cv ∧ R v h'
def QFn (P : Program) (fn : Func) (R : AV → AH → Prop) (base : Nat) (w00 : World) (ι00 : Pl) : Exit → Act → World → Prop := bodyPostM Fence.wide 5 P fn (RFn R base w00 ι00)
def LF (P : Program) (fn : Func) (R : AV → AH → Prop) (h0 : AH) (mk : Bool) (L : List It) (c : IC) (a : List AV) : Prop :=
  ∀ base w00 ι00 h, Loq h0 h L → ∀ code, dec code = c → ∀ ι w ca, Inv base w00 ι00 mk a h ι w ca → code.wpIn Fence.wide 5 P (QFn P fn R base w00 ι00) ca w
def LFQ (P : Program) (fn : Func) (R : AV → AH → Prop) (h0 : AH) (mk : Bool) (y : IC) : Exit → List AV → List It → Prop
  | .normal, a, L => LF P fn R h0 mk L y a
  | .ret, a, L => ∀ h, Loq h0 h L → ∃ vs, ress P a h fn.results.toList = some vs ∧ R (oneA vs) h
  | _, _, _ => False
theorem below_put {base : Nat} {w : World} {l : Nat} (o : Obj) (h1 : base ≤ w.heap.size) (h2 : base ≤ l) : Below base w (w.putObj l o) :=
  (Below.refl base w).grown (grownBy_putObj' w l o) h1 (fun k e => by cases e; exact h2)
theorem Rep.put {base : Nat} {w0 w : World} {ι : Pl} {h : AH} {l : Nat} {o : Obj} (H : Rep base w0 ι h w) (o' : Obj) (hl : w.heap[l]? = some o) (ho : othO o = true) (h1 : base ≤ l) (h2 : w0.heap.size ≤ l) : Rep base w0 ι h (w.putObj l o') := by
  refine H.obj (below_put o' H.base_le h1) (fun k x hk hx => ?_) (fun k x hk hx => ?_)
  · have hne : k ≠ l := fun e => by subst e; rw [hl] at hk; cases hk; rw [ho] at hx; cases hx
    exact (World.putObj_heap_other hne).trans hk
  · have hk2 := H.oth k x hk hx
    have hlt := (Array.getElem?_eq_some_iff.1 hk).1
    exact (World.putObj_heap_other (by omega)).trans hk2
section
variable {P : Program} {fn : Func} {R : AV → AH → Prop} {h0 : AH} {mk : Bool} {L : List It} {a : List AV} {x y : IC} {base : Nat} {w00 : World} {ι00 : Pl}
theorem leave_ok {h : AH} {ι : Pl} {w : World} {ca : Act} (hi : Inv base w00 ι00 mk a h ι w ca) {vs : List AV} (hvs : ress P a h fn.results.toList = some vs) (hR : R (oneA vs) h) : QFn P fn R base w00 ι00 .ret ca w := by
  have key : ∀ w', Rep base w00 ι h w' → ∃ v, (results fn ca.tmps).run P w' = .ok v w' ∧ RFn R base w00 ι00 (.returned v) w' := by
    intro w' hrep
    obtain ⟨cl, h1, h2⟩ := run_ress (P := P) hrep hi.rel hvs
    have hrun : (results fn ca.tmps).run P w' = .ok (if h : cl.toArray.size = 1 then cl.toArray[0] else .tuple cl.toArray) w' := by
      rw [results_resS]
      have e : fn.results = fn.results.toList.toArray := by simp
      rw [e, List.mapM_toArray]
      simp only [Sem.run_bind, map_eq_pure_bind, h2, Result.andThen_ok, Sem.run_pure]
    refine ⟨_, hrun, oneA vs, _, ι, h, rfl, hi.le, hrep, ?_, hR⟩
    match vs, cl, h1 with
    | [v], [c], .cons h _ => exact h
    | [], [], h => exact .tup [] _ h
    | v :: v' :: vs, c :: c' :: cl, h => exact .tup _ _ h
  show LeavesInM Fence.wide 5 P fn ca.tmps (RFn R base w00 ι00) ca.defers .returning w
  have hm := hi.mrk
  cases mk with
  | false =>
    have e : ca.defers = [] := hm
    rw [e]
    exact key w hi.rep
  | true =>
    obtain ⟨D, e, hD⟩ := hm
    have hnew := hi.mnew D e
    rw [e]
    refine ⟨by simp, .inl ⟨D, _, rfl, run_takeDeferred hD, ?_⟩⟩
    exact key _ (hi.rep.put _ hD rfl (Nat.le_trans hi.bs hnew) hnew)
theorem LF_ret (H : ∀ h, Loq h0 h L → ∃ vs, ress P a h fn.results.toList = some vs ∧ R (oneA vs) h) : LF P fn R h0 mk L .ret a := by
  intro base w00 ι00 h HL code hd ι w ca hi
  obtain rfl := dec_ret hd
  obtain ⟨vs, hvs, hR⟩ := H h HL
  exact wpIn_ret (leave_ok hi hvs hR)
theorem LF_seq (H : LI P h0 L x (LFQ P fn R h0 mk y) a) : LF P fn R h0 mk L (.seq x y) a := by
  intro base w00 ι00 h HL code hd ι w ca hi
  obtain ⟨cx, cy, rfl, hx, hy⟩ := dec_seq hd
  refine wpIn_seq (wpIn_mono (wpIn_wide.2 (H h HL cx hx base w { ι with df := ca.defers } ι w ca ⟨⟨List.prefix_rfl, List.prefix_rfl⟩, hi.rep.reb, rfl, hi.rel⟩)) ?_)
  rintro e ca' w' ⟨ι', a', h', hok, L', HL', q⟩
  have hdf : ca'.defers = ca.defers := hok.def_
  have hi' : Inv base w00 ι00 mk a' h' ι' w' ca' := by
    refine ⟨hi.le.trans ⟨hok.le.1, hok.le.2⟩, hi.rep.thru hok.rep, ?_, Nat.le_trans hi.old hok.rep.below.size, hi.bs, fun D e => hi.mnew D (by rw [← hdf]; exact e), hok.rel⟩
    have hm := hi.mrk
    rw [hdf]
    cases mk with
    | false => exact hm
    | true =>
      obtain ⟨D, e, hD⟩ := hm
      exact ⟨D, e, hok.rep.oth D _ hD rfl⟩
  cases e with
  | normal => exact q base w00 ι00 h' HL' cy hy ι' w' ca' hi'
  | ret =>
    obtain ⟨vs, hvs, hR⟩ := q h' HL'
    exact leave_ok hi' hvs hR
  | _ => exact q.elim
theorem LFQ_n (H : LF P fn R h0 mk L y a) : LFQ P fn R h0 mk y .normal a L := H
theorem LFQ_r (H : ∀ h, Loq h0 h L → ∃ vs, ress P a h fn.results.toList = some vs ∧ R (oneA vs) h) : LFQ P fn R h0 mk y .ret a L := H
theorem LFQ_ret {rs : List ResultVar} (hrs : fn.results.toList = rs) (H : LRet P h0 rs R .ret a L) : LFQ P fn R h0 mk y .ret a L := by subst hrs; exact H
theorem LF_retL {rs : List ResultVar} (hrs : fn.results.toList = rs) (H : LRet P h0 rs R .ret a L) : LF P fn R h0 mk L .ret a := by subst hrs; exact LF_ret H
theorem LF_conv {L' : List It} {c : IC} (hL : ∀ h, Loq h0 h L → Loq h0 h L') (H : LF P fn R h0 mk L' c a) : LF P fn R h0 mk L c a := fun base w00 ι00 h HL => H base w00 ι00 h (hL h HL)
/-- An iterator that hands over N pairs of numbers, while what it reads stays as the invariant tells. -/
def Iter (P : Program) (h0 : AH) (gf : FuncId) (caps : List AV) (N : Nat) (I : Nat → List It → Prop) (args : Nat → Int × Int) : Prop :=
  (∀ xs w, (callFunc gf xs).run P w = .ok (.enter gf xs) w) ∧
  ∀ base w00 ι (lb : Array Value), VRels ι caps lb.toList → ∀ (lp : Nat) (J : Nat → World → Prop) (W : World),
    (∀ k W', J k W' → ∃ ι' h' L', Rep base w00 ι' h' W' ∧ ι.le ι' ∧ Loq h0 h' L' ∧ I k L') →
    (∀ k W', J k W' → k < N → YieldAt Fence.wide 3 P lp #[.int .i64 (args k).1, .int .i64 (args k).2] W' fun e W'' => e = .returned (.bool true) ∧ J (k + 1) W'') →
    J 0 W → CallsIn Fence.wide 4 P gf (#[.func (.yield lp) #[] #[]] ++ lb) W fun e W' => (∃ v, e = .returned v) ∧ J N W'
def setps (a : List AV) (ps : List Tmp) (x : Int × Int) : List AV := (ps.zip [AV.i .i64 x.1, AV.i .i64 x.2]).foldl (fun t pv => t.set pv.1 pv.2) a
theorem setps_rel {ι : Pl} {tmps : Array Value} (ps : Array Tmp) (x : Int × Int) (hr : VRels ι a tmps.toList) :
    VRels ι (setps a ps.toList x) ((ps.zip #[Value.int .i64 x.1, Value.int .i64 x.2]).foldl (fun t pv => t.setIfInBounds pv.1 pv.2) tmps).toList := by
  rw [← Array.foldl_toList, Array.toList_zip]
  unfold setps
  match ps.toList with
  | [] => exact hr
  | [p] =>
    simp only [List.zip_cons_cons, List.zip_nil_left, List.foldl_cons, List.foldl_nil, Array.toList_setIfInBounds]
    exact hr.set p (.i _ _)
  | p :: q :: r =>
    simp only [List.zip_cons_cons, List.zip_nil_right, List.foldl_cons, List.foldl_nil, Array.toList_setIfInBounds]
    exact (hr.set p (.i _ _)).set q (.i _ _)
theorem LF_rf {x1 : IC} {id : Nat} {g : Operand} {ps : Array Tmp} {assign body : Code} {xa xb : IC} (ha : dec assign = xa) (hb : dec body = xb) (hps : ps.size = 2)
    (H : LI P h0 L x1 (fun e a L => e = .normal ∧ ∃ gf caps N I args, ev a g = some (.f gf caps) ∧ Iter P h0 gf caps N I args ∧ I 0 L ∧
      (∀ k L', I k L' → k < N → ∀ l n, LR P l n h0 L' xa (fun e a1 L1 => e = .normal ∧ LR P l n h0 L1 xb (fun e _ L2 => e = .normal ∧ I (k + 1) L2) a1) (setps a ps.toList (args k))) ∧
      ∀ L', I N L' → LF P fn R h0 true L' y a) a) : LF P fn R h0 false L (.seq (.seq x1 (.block id (.raw (.rangeFunc g ps assign body)))) y) a := by
  intro base w00 ι00 h HL code hd ι w ca hi
  obtain ⟨cxy, cy, rfl, hxy, hy⟩ := dec_seq hd
  obtain ⟨cx, cb, rfl, hx, hbl⟩ := dec_seq hxy
  obtain ⟨cr, rfl, hr⟩ := dec_block hbl
  obtain rfl := dec_raw hr
  refine wpIn_seq (wpIn_seq (wpIn_mono (wpIn_wide.2 (H h HL cx hx base w { ι with df := ca.defers } ι w ca ⟨⟨List.prefix_rfl, List.prefix_rfl⟩, hi.rep.reb, rfl, hi.rel⟩)) ?_))
  rintro e ca1 w1 ⟨ι1, a1, h1, hok, L1, HL1, rfl, gf, caps, N, I, args, hg, hit, hI0, hround, hend⟩
  have hdf : ca1.defers = [] := by
    have e : ca1.defers = ca.defers := hok.def_
    rw [e]; exact hi.mrk
  have hrep1 : Rep base w00 ι1 h1 w1 := hi.rep.thru hok.rep
  have hle1 : ι00.le ι1 := hi.le.trans ⟨hok.le.1, hok.le.2⟩
  have hold1 : w00.heap.size ≤ w1.heap.size := Nat.le_trans hi.old hok.rep.below.size
  obtain ⟨lb, hlb, hlr⟩ : ∃ lb : Array Value, ca1.eval g = .func (.func gf) #[] lb ∧ VRels ι1 caps lb.toList := by
    have := ev_rel hok.rel hg
    generalize ca1.eval g = z at this
    cases this with
    | f _ _ vs h => exact ⟨vs, rfl, h⟩
  refine wpIn_block ?_
  refine wpIn_rangeFunc ?_
  intro fn' hfn
  obtain ⟨rec, hrec⟩ : ∃ rec : LoopState → Option Code → Loop, rec = fun s pe => { state := s, pending := pe, fn := fn', tmps := ca1.tmps, params := ps, assign, body, defers := w1.heap.size } := ⟨_, rfl⟩
  obtain ⟨W1, hW1⟩ : ∃ W1, (w1.alloc (.deferred (some []))).alloc (.loop (rec .ready none)) = W1 := ⟨_, rfl⟩
  have hL1 : W1.heap[w1.heap.size + 1]? = some (.loop (rec .ready none)) := by
    rw [← hW1]; have := World.alloc_heap_new (w1.alloc (.deferred (some []))) (.loop (rec .ready none)); rwa [World.size_alloc] at this
  have hK1 : W1.heap[w1.heap.size]? = some (.deferred (some [])) := by
    rw [← hW1]; exact (Below.heap_alloc _ _ _ (by simp)).trans (World.alloc_heap_new w1 _)
  have hb1 : Below w1.heap.size w1 W1 := by
    rw [← hW1]; exact ((Below.refl _ w1).alloc (Nat.le_refl _) _).alloc (by simp) _
  have hrepW : Rep base w00 ι1 h1 W1 := hrep1.below_keep hb1
  refine ⟨w1.heap.size + 1, [{ target := .collected w1.heap.size, args := #[] }], W1, { target := .fn (.func gf) lb, args := #[.func (.yield (w1.heap.size + 1)) #[] #[]] }, W1, gf,
    #[.func (.yield (w1.heap.size + 1)) #[] #[]] ++ lb, W1, ?_, ?_, ?_, ?_, fun _ => by omega, ?_⟩
  · rw [← hW1, hrec]; exact run_enterLoop_outer _ _ _ _ _
  · simp only [resolve, hlb]
    simp [go_sem]
  · intro f' hf'; trivial
  · simp [invoke, go_sem, hit.1]
  · refine (hit.2 base w00 ι1 lb hlr (w1.heap.size + 1)
      (fun k W => ∃ ι' h' L', Rep base w00 ι' h' W ∧ ι1.le ι' ∧ Loq h0 h' L' ∧ I k L' ∧ W.heap[w1.heap.size + 1]? = some (.loop (rec .ready none)) ∧ W.heap[w1.heap.size]? = some (.deferred (some [])))
      W1 (fun k W' ⟨ι', h', L', q1, q2, q3, q4, _⟩ => ⟨ι', h', L', q1, q2, q3, q4⟩) ?_ ⟨ι1, h1, L1, hrepW, .refl _, HL1, hI0, hL1, hK1⟩).mono ?_
    · -- one round
      rintro k W ⟨ι', h', L', hrep, hle, HL', hIk, hl, hk⟩ hlt
      have hy := run_yield (P := P) (args := #[.int .i64 (args k).1, .int .i64 (args k).2]) hl (by rw [hrec]; simp [hps])
      rw [hrec] at hy
      refine ⟨fn', _, assign, body, hy, roundIn_of_wpIn trivial (wpIn_mono (hround k L' hIk hlt (w1.heap.size + 1) 3 h' HL' assign ha base W { ι' with df := [] } ι' W _ ⟨⟨List.prefix_rfl, List.prefix_rfl⟩, hrep.reb, rfl, setps_rel ps (args k) (hok.rel.mono hle)⟩) ?_)⟩
      rintro e ca2 w2 ⟨ι2, a2, h2, hok2, L2, HL2, rfl, hbody⟩
      have hl2 := hok2.rep.oth _ _ hl rfl
      have hk2 := hok2.rep.oth _ _ hk rfl
      refine ⟨_, run_beginRound hl2 (by rw [hrec]), ?_⟩
      have hlt2 : w1.heap.size + 1 < w2.heap.size := (Array.getElem?_eq_some_iff.1 hl2).1
      have hrep2 : Rep base w00 ι2 h2 w2 := hrep.thru hok2.rep
      have hbl : base ≤ w1.heap.size + 1 := Nat.le_trans hi.bs (by omega)
      have hrep3 := hrep2.put (.loop { rec .ready none with state := .busy }) hl2 rfl hbl (by omega)
      have hl3 : (w2.putObj (w1.heap.size + 1) (.loop { rec .ready none with state := .busy })).heap[w1.heap.size + 1]? = some (.loop { rec .ready none with state := .busy }) := World.putObj_heap_same hlt2
      have hk3 : (w2.putObj (w1.heap.size + 1) (.loop { rec .ready none with state := .busy })).heap[w1.heap.size]? = some (.deferred (some [])) := (World.putObj_heap_other (by omega)).trans hk2
      generalize w2.putObj (w1.heap.size + 1) (.loop { rec .ready none with state := .busy }) = w3 at hrep3 hl3 hk3
      refine wpIn_mono (hbody h2 HL2 body hb base w3 { ι2 with df := [] } ι2 w3 ca2 ⟨⟨List.prefix_rfl, List.prefix_rfl⟩, hrep3.reb, ?_, hok2.rel⟩) ?_
      · exact hok2.def_
      rintro e ca4 w4 ⟨ι4, a4, h4, hok4, L4, HL4, rfl, hI4⟩
      have hl4 := hok4.rep.oth _ _ hl3 rfl
      have hk4 := hok4.rep.oth _ _ hk3 rfl
      have hrun := run_endRound (P := P) none hl4
      have hrep4 : Rep base w00 ι4 h4 w4 := hrep3.thru hok4.rep
      have hlt4 : w1.heap.size + 1 < w4.heap.size := (Array.getElem?_eq_some_iff.1 hl4).1
      refine ⟨_, _, hrun, rfl, ι4, h4, L4, hrep4.put _ hl4 rfl hbl (by omega), (hle.trans ⟨hok2.le.1, hok2.le.2⟩).trans ⟨hok4.le.1, hok4.le.2⟩, HL4, hI4, ?_, (World.putObj_heap_other (by omega)).trans hk4⟩
      have := World.putObj_heap_same (o := .loop { ({ rec .ready none with state := .busy } : Loop) with state := .ready, pending := none }) hlt4
      rw [hrec] at this ⊢
      exact this
    · -- behind the loop
      rintro e W2 ⟨⟨v, rfl⟩, ι', h', L', hrep, hle, HL', hIN, hl, hk⟩
      have hlt2 : w1.heap.size + 1 < W2.heap.size := (Array.getElem?_eq_some_iff.1 hl).1
      have hrun := run_endLoop (P := P) hl (by rw [hrec]; simp)
      have hbl : base ≤ w1.heap.size + 1 := Nat.le_trans hi.bs (by omega)
      refine ⟨none, _, by rw [hrec] at hrun; exact hrun, ?_⟩
      refine hend L' hIN base w00 ι00 h' HL' cy hy ι' _ _ ⟨hle1.trans hle, ?_, ?_, ?_, hi.bs, ?_, hok.rel.mono hle⟩
      · rw [hrec] at hl
        exact hrep.put _ hl rfl hbl (by omega)
      · refine ⟨w1.heap.size, by rw [hdf]; rfl, (World.putObj_heap_other (by omega)).trans hk⟩
      · simp [World.putObj]; omega
      · intro D e
        rw [hdf] at e
        simp only [List.append_nil] at e
        injection e with e1 _
        injection e1 with e2 _
        injection e2 with e3
        omega
end
theorem AC_ofF {P : Program} {f : FuncId} {fn : Func} {ic : IC} {n : Nat} {args : List AV} {h : AH} {R : AV → AH → Prop}
    (hf : P.funcs[f]? = some fn) (hnm : (fn.name == "runtime.NumGoroutine") = false) (hb : fn.body.map dec = some ic) (hn : fn.ntmps = n)
    (H : h.wf → LF P fn R h false [] ic (args ++ List.replicate (n - args.length) un)) : AC P f args h R := by
  cases hbb : fn.body with
  | none => rw [hbb] at hb; cases hb
  | some c =>
    rw [hbb] at hb
    simp only [Option.map_some, Option.some.injEq] at hb
    refine ⟨⟨fn, hf, hnm, by simp [hbb]⟩, fun base w0 ι w cargs hrep hv => ?_⟩
    have hlen : args.length = cargs.size := by simpa using hv.length
    have h1 : VRels ι (List.replicate (n - args.length) un) (List.replicate (fn.ntmps - cargs.size) undef) := by rw [hn, hlen]; exact VRels.rep (un_rel ι) _
    refine (callsIn_wide.1 (callsIn_of_wp_marks (F := Fence.wide) (n := 5) hf hbb trivial (H hrep.wf base w ι h (Loq.nil hrep.wf) c hb ι w _ ⟨.refl _, hrep.reb, rfl, Nat.le_refl _, hrep.base_le, fun D e => (by cases e), by simpa using hv.append h1⟩))).mono ?_
    rintro e w' ⟨v, cv, ι', h', e1, e2, e3, e4, e5⟩
    exact ⟨v, cv, ι', h', e1, e2, hrep.thru e3, e4, e5⟩
/-! The loops over functions of a body. -/
def rfs : Code → List (Code × Code)
  | .seq x y => rfs x ++ rfs y
  | .cond _ x y => rfs x ++ rfs y
  | .block _ x => rfs x
  | .loop x => rfs x
  | .rangeFunc _ _ a b => [(a, b)]
  | _ => []
def rfAt (f : Func) (j : Nat) : Code × Code := (((f.body.map rfs).getD [])[j]?).getD (.skip, .skip)
end Go.AL
