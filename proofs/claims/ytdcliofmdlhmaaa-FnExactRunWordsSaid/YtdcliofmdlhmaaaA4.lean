/- The abstract logic, part 4: calls, functions. -/
import Derived.Test.YtdcliofmdlhmaaaA3
namespace Go.AL
open Go.RowKit

/-! ### Calls -/
def enters (P : Program) (f : FuncId) : Prop := ∃ fn, P.funcs[f]? = some fn ∧ (fn.name == "runtime.NumGoroutine") = false ∧ fn.body.isNone = false
def CW (P : Program) (f : FuncId) (args : List AV) (h : AH) (R : AV → AH → Prop) : Prop :=
  ∀ base w0 ι w (cargs : Array Value), Rep base w0 ι h w → VRels ι args cargs.toList → Calls P f cargs w fun e w' => ∃ v cv ι' h', e = .returned cv ∧ ι.le ι' ∧ Rep base w0 ι' h' w' ∧ VRel ι' v cv ∧ R v h'
def AC (P : Program) (f : FuncId) (args : List AV) (h : AH) (R : AV → AH → Prop) : Prop := enters P f ∧ CW P f args h R
theorem AC.mono {P : Program} {f : FuncId} {args : List AV} {h : AH} {R R' : AV → AH → Prop} (H : AC P f args h R) (hr : ∀ v h', R v h' → R' v h') : AC P f args h R' :=
  ⟨H.1, fun base w0 ι w cargs hrep hv => (H.2 base w0 ι w cargs hrep hv).mono fun _ _ ⟨v, cv, ι', h', h1, h2, h3, h4, h5⟩ => ⟨v, cv, ι', h', h1, h2, h3, h4, hr _ _ h5⟩⟩
theorem run_call_value {P : Program} {w : World} {ca : Act} {o : Oper} {f : Operand} {args : Array Operand} {ts : Array TypeId} {g : FuncId} {cc : Array Value} {fn : Func}
    (ho : o.op = .call { callee := .value f, args := args, argTypes := ts }) (hcc : ca.eval f = .func (.func g) #[] cc)
    (hfn : P.funcs[g]? = some fn) (hnm : (fn.name == "runtime.NumGoroutine") = false) (hbd : fn.body.isNone = false) :
    (execOp ca.eval o).run P w = .ok (.enter g (args.map ca.eval ++ cc)) w := by
  unfold execOp
  simp only [ho, resolve, hcc, Deferred.ofValue, invoke]
  have h1 : (callFunc g (args.map ca.eval ++ cc)).run P w = .ok (.enter g (args.map ca.eval ++ cc)) w := by
    unfold callFunc
    simp only [Sem.run_bind, run_program, Result.andThen_ok, hfn, hnm, hbd]
    rfl
  simpa using h1
theorem OpR_call {P : Program} {a : List AV} {h : AH} {K : List AV → AH → Prop} {f : Operand} {args : Array Operand} {ts : Array TypeId} {d : Option Nat} {g : FuncId} {caps vs : List AV} {R : AV → AH → Prop}
    (hf : ev a f = some (.f g caps)) (ha : evs a args.toList = some vs) (hc : AC P g (vs ++ caps) h R) (hk : ∀ v h', h'.wf → R v h' → K (st a d v) h') :
    OpR P (.call { callee := .value f, args := args, argTypes := ts }) d a h K := by
  intro o ho hd base w0 ι0 ι w ca hok N S hN
  have hfv := ev_rel hok.rel hf
  have hav := evs_rel hok.rel ha
  obtain ⟨⟨fn, hfn, hnm, hbd⟩, hcw⟩ := hc
  obtain ⟨cc, hcc, hcr⟩ : ∃ cc : Array Value, ca.eval f = .func (.func g) #[] cc ∧ VRels ι caps cc.toList := by
    generalize ca.eval f = z at hfv
    cases hfv with
    | f _ _ vs h => exact ⟨vs, rfl, h⟩
  have hcall := hcw base w0 ι w (args.map ca.eval ++ cc) hok.rep (by simpa using hav.append hcr)
  have hrun' := run_call_value (P := P) (ca := ca) (w := w) (o := o) ho hcc hfn hnm hbd
  unfold Oper.wp
  rw [hrun', Oper.upon_enter]
  refine hcall.mono ?_
  rintro e w' ⟨v, cv, ι', h', rfl, hle, hrep, hv, hR⟩
  refine hN ι' _ h' _ w' ⟨hok.le.trans hle, hrep, ?_, ?_⟩ (hk v h' hrep.wf hR)
  · rw [put_defers]; exact hok.def_
  · rw [hd]; exact put_rel (hok.rel.mono hle) d hv

/-! ### Types; a variable read -/
def szT (P : Program) (T : TypeId) : Option Nat := (P.info? T).map (·.size)
def aggT (P : Program) (T : TypeId) : Option Bool := (P.underlying T).map fun d => match d with | .struct _ | .array _ _ => true | _ => false
def loadA (P : Program) (T : TypeId) (h : AH) (b o : Nat) : Option AV := match aggT P T with
  | some true => (szT P T).bind fun n => (h.row b o n).map .agg
  | some false => h.cell b o
  | none => none
theorem run_sizeOf_sz {P : Program} {T : TypeId} {n : Nat} (h : szT P T = some n) (w : World) : (sizeOf T).run P w = .ok n w := by
  unfold szT at h
  cases hi : P.info? T with
  | none => rw [hi] at h; simp at h
  | some i => rw [hi] at h; simp at h; simp [sizeOf, typeInfo, hi, h]
theorem run_isAgg_of {P : Program} {T : TypeId} {t : Bool} (h : aggT P T = some t) (w : World) : (isAgg T).run P w = .ok t w := by
  unfold aggT at h
  cases hu : P.underlying T with
  | none => rw [hu] at h; simp at h
  | some d =>
    rw [hu] at h
    simp only [Option.map_some, Option.some.injEq] at h
    simp only [isAgg, Sem.run_bind, run_underlying hu, Result.andThen_ok]
    cases d <;> simp_all
theorem add_none (c x n : Nat) : (⟨c, x, none⟩ : Addr).add n = ⟨c, x + n, none⟩ := by unfold Addr.add; split <;> simp_all
theorem row_get {h : AH} {b o n : Nat} {l : List AV} (H : h.row b o n = some l) : ∃ r, h.cs[b]? = some r ∧ o + n ≤ r.length ∧ l = (r.drop o).take n ∧ l.length = n := by
  unfold AH.row at H
  cases hr : h.cs[b]? with
  | none => rw [hr] at H; simp at H
  | some r =>
    rw [hr] at H
    simp only [Option.bind_some] at H
    split at H
    · injection H with H
      exact ⟨r, rfl, ‹_›, H.symm, by rw [← H]; simp; omega⟩
    · cases H
theorem rep_row {base : Nat} {w0 : World} {ι : Pl} {h : AH} {w : World} (hrep : Rep base w0 ι h w) {b o n : Nat} {l : List AV} {pl : Place} (hp : ι.bl[b]? = some pl) (H : h.row b o n = some l) :
    ∃ cl, VRels ι l cl ∧ cl.length = n ∧ l.all AV.sc = true ∧ ∀ j v, cl[j]? = some v → w.cell? ((⟨pl.c, pl.o + o, none⟩ : Addr).add j) = some v := by
  obtain ⟨r, hr, hle, hl, hln⟩ := row_get H
  have hsc := hrep.sc b r hr
  have key : ∀ j, j < n → ∃ cv, w.cell? ⟨pl.c, pl.o + (o + j), none⟩ = some cv ∧ ∃ v, l[j]? = some v ∧ VRel ι v cv := by
    intro j hj
    have hv : r[o + j]? = some r[o + j] := List.getElem?_eq_getElem (by omega)
    obtain ⟨cv, hc, hvr⟩ := hrep.cell b pl r hp hr (o + j) _ hv
    generalize r[o + j] = x at hv hvr
    refine ⟨cv, hc, x, ?_, hvr⟩
    rw [hl, List.getElem?_take_of_lt hj, List.getElem?_drop, hv]
  have hex : ∃ cl : List Value, cl.length = n ∧ ∀ j, j < n → ∃ cv, cl[j]? = some cv ∧ w.cell? ⟨pl.c, pl.o + (o + j), none⟩ = some cv ∧ ∃ v, l[j]? = some v ∧ VRel ι v cv := by
    clear H hl hln hle
    induction n with
    | zero => exact ⟨[], rfl, fun j hj => by omega⟩
    | succ n ih =>
      obtain ⟨cl, h1, h2⟩ := ih (fun j hj => key j (by omega))
      obtain ⟨cv, hc, hv⟩ := key n (by omega)
      refine ⟨cl ++ [cv], by simp [h1], fun j hj => ?_⟩
      by_cases e : j < n
      · obtain ⟨x, hx, hy⟩ := h2 j e
        exact ⟨x, by rw [List.getElem?_append_left (by omega)]; exact hx, hy⟩
      · have : j = n := by omega
        subst this
        exact ⟨cv, by simp [← h1], hc, hv⟩
  obtain ⟨cl, h1, h2⟩ := hex
  refine ⟨cl, VRels.of_get (by omega) fun j v c hv hc => ?_, h1, ?_, fun j v hv => ?_⟩
  · have hj : j < n := by have := (List.getElem?_eq_some_iff.1 hc).1; omega
    obtain ⟨cv, e1, _, v', e2, hr'⟩ := h2 j hj
    rw [hc] at e1; rw [hv] at e2
    cases e1; cases e2
    exact hr'
  · rw [hl]
    simp only [List.all_eq_true] at hsc ⊢
    intro x hx
    exact hsc x (List.mem_of_mem_drop (List.mem_of_mem_take hx))
  · have hj : j < n := by have := (List.getElem?_eq_some_iff.1 hv).1; omega
    obtain ⟨cv, e1, e3, _⟩ := h2 j hj
    rw [hv] at e1; cases e1
    rw [add_none, Nat.add_assoc]; exact e3
theorem run_loadVar_abs {P : Program} {base : Nat} {w0 : World} {ι : Pl} {h : AH} {w : World} (hrep : Rep base w0 ι h w) {T : TypeId} {b o : Nat} {v : AV} {pl : Place} (hp : ι.bl[b]? = some pl) (H : loadA P T h b o = some v) :
    ∃ cv, (loadVar T ⟨pl.c, pl.o + o, none⟩).run P w = .ok cv w ∧ VRel ι v cv := by
  unfold loadA at H
  split at H
  · rename_i hT
    cases hn : szT P T with
    | none => rw [hn] at H; simp at H
    | some n =>
      rw [hn] at H
      simp only [Option.bind_some, Option.map_eq_some_iff] at H
      obtain ⟨l, hl, rfl⟩ := H
      obtain ⟨cl, h1, h2, h3, h4⟩ := rep_row hrep hp hl
      refine ⟨.agg cl.toArray, ?_, .agg l cl.toArray h3 (by simpa using h1)⟩
      have := run_loadCells_list (P := P) w ⟨pl.c, pl.o + o, none⟩ cl h4
      simp only [loadVar, Sem.run_bind, run_isAgg_of hT, Result.andThen_ok, if_true, run_sizeOf_sz hn, ← h2, this]
      rfl
  · rename_i hT
    unfold AH.cell at H
    cases hr : h.cs[b]? with
    | none => rw [hr] at H; simp at H
    | some r =>
      rw [hr] at H
      simp only [Option.bind_some] at H
      obtain ⟨cv, hc, hv⟩ := hrep.cell b pl r hp hr o v H
      refine ⟨cv, ?_, hv⟩
      simp only [loadVar, Sem.run_bind, run_isAgg_of hT, Result.andThen_ok, Bool.false_eq_true, if_false, run_load, hc]
  · cases H

/-! ### A function out of its body -/
def resA (P : Program) (a : List AV) (h : AH) : ResultVar → Option AV
  | .tmp t => a[t]?
  | .cell t T => match a[t]? with
    | some (.p b o) => loadA P T h b o
    | _ => none
def ress (P : Program) (a : List AV) (h : AH) : List ResultVar → Option (List AV)
  | [] => some []
  | x :: l => match resA P a h x, ress P a h l with
    | some v, some vs => some (v :: vs)
    | _, _ => none
def oneA : List AV → AV
  | [v] => v
  | vs => .tup vs
def RetQ (P : Program) (rs : List ResultVar) (R : AV → AH → Prop) : Exit → List AV → AH → Prop
  | .ret, a, h | .normal, a, h => ∃ vs, ress P a h rs = some vs ∧ R (oneA vs) h
  | _, _, _ => False
def resS (tmps : Array Value) : ResultVar → Sem Value
  | .tmp t => pure (tmps.getD t undef)
  | .cell a t => do loadVar t (← asAddr (tmps.getD a undef))
theorem results_resS (fn : Func) (tmps : Array Value) : results fn tmps = (do
    let vs ← fn.results.mapM (resS tmps)
    pure (if h : vs.size = 1 then vs[0] else .tuple vs) : Sem Value) := by
  unfold results
  congr 1
theorem run_ress {P : Program} {base : Nat} {w0 : World} {ι : Pl} {h : AH} {w : World} {a : List AV} {tmps : Array Value} (hrep : Rep base w0 ι h w) (hrel : VRels ι a tmps.toList) :
    ∀ {rs : List ResultVar} {vs : List AV}, ress P a h rs = some vs → ∃ cl : List Value, VRels ι vs cl ∧ (rs.mapM (resS tmps)).run P w = .ok cl w
  | [], vs, H => by simp [ress] at H; subst H; exact ⟨[], .nil, rfl⟩
  | r :: rs, vs, H => by
    simp only [ress] at H
    split at H
    · rename_i v vs' hv hvs
      injection H with H; subst H
      obtain ⟨cl, h1, h2⟩ := run_ress hrep hrel hvs
      have gt : ∀ (t : Nat) (v : AV), a[t]? = some v → VRel ι v (tmps.getD t undef) := fun t v e => ev_rel (ca := { tmps := tmps, defers := [] }) (x := .tmp t) hrel e
      have hone : ∃ cv, VRel ι v cv ∧ (resS tmps r).run P w = .ok cv w := by
        cases r with
        | tmp t => exact ⟨_, gt t v hv, rfl⟩
        | cell t T =>
          simp only [resA] at hv
          split at hv
          · rename_i b o hb
            have hp := gt t _ hb
            generalize hz : tmps.getD t undef = z at hp
            cases hp with
            | p _ _ pl hpl =>
              obtain ⟨cv, e1, e2⟩ := run_loadVar_abs (P := P) hrep hpl hv
              refine ⟨cv, e2, ?_⟩
              show (do loadVar T (← asAddr (tmps.getD t undef)) : Sem Value).run P w = _
              rw [hz]
              exact e1
          · cases hv
      obtain ⟨cv, hcv, hrun⟩ := hone
      refine ⟨cv :: cl, .cons hcv h1, ?_⟩
      rw [List.mapM_cons, Sem.run_bind, hrun, Result.andThen_ok, Sem.run_bind, h2]
      rfl
    · cases H
theorem AC_of {P : Program} {f : FuncId} {fn : Func} {c : Code} {ic : IC} {n : Nat} {args : List AV} {h : AH} {R : AV → AH → Prop} {rs : List ResultVar}
    (hf : P.funcs[f]? = some fn) (hnm : (fn.name == "runtime.NumGoroutine") = false) (hb : fn.body = some c) (hn : fn.ntmps = n) (hr : fn.results.toList = rs) (hd : dec c = ic)
    (H : h.wf → AI P ic (RetQ P rs R) (args ++ List.replicate (n - args.length) un) h) : AC P f args h R := by
  refine ⟨⟨fn, hf, hnm, by simp [hb]⟩, fun base w0 ι w cargs hrep hv => ?_⟩
  have hlen : args.length = cargs.size := by simpa using hv.length
  refine calls_of_wp hf hb (Code.wp_mono ?_ (H hrep.wf c hd base w0 { ι with df := [] } ι w { tmps := cargs ++ Array.replicate (fn.ntmps - cargs.size) undef, defers := [] } ⟨⟨List.prefix_rfl, List.prefix_rfl⟩, hrep, rfl, ?_⟩))
  · rintro e ca' w' ⟨ι', a', h', hok', hq⟩
    have key : RetQ P rs R .ret a' h' → (ca'.defers = [] ∧ ∃ v, (results fn ca'.tmps).run P w' = .ok v w' ∧ ∃ v_1 cv ι' h', Ending.returned v = .returned cv ∧ ι.le ι' ∧ Rep base w0 ι' h' w' ∧ VRel ι' v_1 cv ∧ R v_1 h') := by
      rintro ⟨vs, hvs, hR⟩
      obtain ⟨cl, h1, h2⟩ := run_ress (P := P) hok'.rep hok'.rel hvs
      have hrun : (results fn ca'.tmps).run P w' = .ok (if h : cl.toArray.size = 1 then cl.toArray[0] else .tuple cl.toArray) w' := by
        rw [results_resS]
        have e : fn.results = rs.toArray := by rw [← hr]
        rw [e, List.mapM_toArray]
        simp only [Sem.run_bind, map_eq_pure_bind, h2, Result.andThen_ok, Sem.run_pure]
      refine ⟨hok'.def_, _, hrun, oneA vs, _, ι', h', rfl, hok'.le, hok'.rep, ?_, hR⟩
      match vs, cl, h1 with
      | [v], [c], .cons h _ => exact h
      | [], [], h => exact .tup [] _ h
      | v :: v' :: vs, c :: c' :: cl, h => exact .tup _ _ h
    cases e with
    | ret => exact key hq
    | normal => exact key hq
    | exit _ => exact hq.elim
    | goto _ => exact hq.elim
    | panic _ => exact hq.elim
    | outgrown => exact hq.elim
  · have h1 : VRels ι (List.replicate (n - args.length) un) (List.replicate (fn.ntmps - cargs.size) undef) := by rw [hn, hlen]; exact VRels.rep (un_rel ι) _
    simpa using hv.append h1
theorem AC_of' {P : Program} {f : FuncId} {fn : Func} {ic : IC} {n : Nat} {args : List AV} {h : AH} {R : AV → AH → Prop} {rs : List ResultVar}
    (hf : P.funcs[f]? = some fn) (hnm : (fn.name == "runtime.NumGoroutine") = false) (hb : fn.body.map dec = some ic) (hn : fn.ntmps = n) (hr : fn.results.toList = rs)
    (H : h.wf → AI P ic (RetQ P rs R) (args ++ List.replicate (n - args.length) un) h) : AC P f args h R := by
  cases hbb : fn.body with
  | none => rw [hbb] at hb; cases hb
  | some c =>
    rw [hbb] at hb
    simp only [Option.map_some, Option.some.injEq] at hb
    exact AC_of hf hnm hbb hn hr hb H
end Go.AL
