/- The logic of what is owned, part 10: maps with ints for keys. -/
import Derived.Test.YtdcliofmdlhmaaaD2
import Derived.MapKept
namespace Go.AL
set_option linter.unusedVariables false
set_option linter.unusedSimpArgs false
open Go.RowKit
def Pl.addM (ι : Pl) (c : Nat) : Pl := ⟨ι.bl, ι.mp ++ [c], ι.df⟩
theorem Pl.le_addM (ι : Pl) (c : Nat) : ι.le (ι.addM c) := ⟨List.prefix_rfl, List.prefix_append _ _⟩
def AH.newM (h : AH) : AH := ⟨h.cs, h.mt, h.mp ++ [(true, [])]⟩
def AH.setM (h : AH) (r : Nat) (es : List (AV × AV)) : AH := ⟨h.cs, h.mt, h.mp.set r (true, es)⟩
/-- A world with one map written anew. -/
def mapW (w : World) (c : Nat) (o : Obj) : World := { w with heap := w.heap.setIfInBounds c o }
theorem mapW_at {w : World} {c : Nat} {o o' : Obj} (hb : w.heap[c]? = some o) : (mapW w c o').heap[c]? = some o' := (MapKept.heap_set hb).1
theorem mapW_other {w : World} {c : Nat} {o' : Obj} {i : Nat} (h : i ≠ c) : (mapW w c o').heap[i]? = w.heap[i]? := by
  show (w.heap.setIfInBounds c o')[i]? = _
  simp [Ne.symm h]
theorem mapW_size (w : World) (c : Nat) (o : Obj) : (mapW w c o).heap.size = w.heap.size := by simp [mapW]
theorem Stm.empty : Stm #[] 0 := ⟨rfl, fun j e h => by simp at h⟩
theorem Stm.push {en : Array MapEntry} {cl : Nat} (H : Stm en cl) (k v : Value) : Stm (en.push ⟨k, v, cl⟩) (cl + 1) := by
  refine ⟨by rw [H.1]; simp, fun j e h => ?_⟩
  rw [Array.getElem?_push] at h
  split at h
  · cases h; rename_i e; rw [e]; exact H.1
  · exact H.2 j e h
theorem Stm.modify {en : Array MapEntry} {cl : Nat} (H : Stm en cl) (i : Nat) (k v : Value) : Stm (en.modify i fun e => { e with key := k, val := v }) cl := by
  refine ⟨by rw [H.1]; simp, fun j e h => ?_⟩
  rw [Array.getElem?_modify] at h
  split at h
  · cases hj : en[j]? with
    | none => rw [hj] at h; cases h
    | some e0 =>
      rw [hj] at h
      cases h
      exact H.2 j e0 hj
  · exact H.2 j e h
section
variable {base : Nat} {w0 : World} {ι : Pl} {h : AH} {w : World}
theorem Rep.newM (hrep : Rep base w0 ι h w) : Rep base w0 (ι.addM w.heap.size) h.newM (w.alloc (.map #[] 0)) := by
  have hmono := Pl.le_addM ι w.heap.size
  have hlp := hrep.lp
  have hlt : ∀ (r c : Nat), ι.mp[r]? = some c → c < w.heap.size := by
    intro r c hc
    have hr := (List.getElem?_eq_some_iff.1 hc).1
    obtain ⟨es, he⟩ : ∃ es, h.mp[r]? = some es := ⟨_, List.getElem?_eq_getElem (by omega)⟩
    obtain ⟨_, en, cl, h2, _⟩ := hrep.mcell r c es hc he
    exact (Array.getElem?_eq_some_iff.1 h2).1
  refine ⟨hrep.lb, hrep.lm, by simp [Pl.addM, AH.newM, hlp], hrep.below.alloc hrep.base_le _, by simp; have := hrep.base_le; omega, hrep.sc, ?_, hrep.kk, ?_, ?_, hrep.excl, hrep.own2, hrep.ancno, hrep.anclt, ?_, ?_, fun k o hk ho => by rw [heap_alloc_old w _ _ (Array.getElem?_eq_some_iff.1 (hrep.oth k o hk ho)).1]; exact hrep.oth k o hk ho⟩
  · intro b pl r hp hr j v hv
    obtain ⟨cv, e1, e2⟩ := hrep.cell b pl r hp hr j v hv
    exact ⟨cv, by rw [World.cell?_alloc_lt w _ _ (hrep.inb b pl hp)]; exact e1, e2.mono hmono⟩
  · intro b pl hp
    have := hrep.inb b pl hp
    simp; omega
  · intro b pl m r hp hm hr ho
    obtain ⟨h1, h3, a', T', h4, h5⟩ := hrep.own b pl m r hp hm hr ho
    exact ⟨h1, h3, a', T', by rw [heap_alloc_old w _ _ (hrep.inb b pl hp)]; exact h4, h5⟩
  · intro r c es hc hes
    rcases get_app _ _ _ _ hc with ⟨hb, ec⟩ | ⟨hb, rfl⟩
    · rcases get_app _ _ _ _ hes with ⟨_, ee⟩ | ⟨hb', rfl⟩
      · obtain ⟨h1, en, cl, h2, h3, h4⟩ := hrep.mcell r c es ec ee
        exact ⟨h1, en, cl, by rw [heap_alloc_old w _ _ (hlt r c ec)]; exact h2, h3, fun j e e' he he' => ⟨((h4 j e e' he he').1).mono hmono, ((h4 j e e' he he').2).mono hmono⟩⟩
      · omega
    · rcases get_app _ _ _ _ hes with ⟨hb', ee⟩ | ⟨hb', rfl⟩
      · omega
      · exact ⟨fun _ => hrep.base_le, #[], 0, heap_alloc_new w _, ⟨rfl, Stm.empty⟩, fun j e e' he => by simp at he⟩
  · intro r r' c hc hc'
    rcases get_app _ _ _ _ hc with ⟨hb, ec⟩ | ⟨hb, rfl⟩
    · rcases get_app _ _ _ _ hc' with ⟨hb', ec'⟩ | ⟨hb', rfl⟩
      · exact hrep.mexcl r r' c ec ec'
      · have := hlt r _ ec; omega
    · rcases get_app _ _ _ _ hc' with ⟨hb', ec'⟩ | ⟨hb', _⟩
      · have := hlt r' _ ec'; omega
      · omega
theorem Rep.setM (hrep : Rep base w0 ι h w) {r c : Nat} {es es' : List (AV × AV)} {en en' : Array MapEntry} {cl cl' : Nat} (hc : ι.mp[r]? = some c) (he : h.mp[r]? = some (true, es)) (hb : w.heap[c]? = some (.map en cl)) (hsz : en'.size = es'.length ∧ Stm en' cl')
    (hrel : ∀ (j : Nat) (e : AV × AV) (e' : MapEntry), es'[j]? = some e → en'[j]? = some e' → VRel ι e.1 e'.key ∧ VRel ι e.2 e'.val) : Rep base w0 ι (h.setM r es') (mapW w c (.map en' cl')) := by
  have hcb := (hrep.mcell r c _ hc he).1 rfl
  have cne : ∀ (x : Addr) (v : Value), w.cell? x = some v → x.block ≠ c := by
    intro x v hx e
    unfold World.cell? at hx
    rw [e, hb] at hx
    cases hx
  have ceq : ∀ (x : Addr) (v : Value), w.cell? x = some v → (mapW w c (.map en' cl')).cell? x = some v := by
    intro x v hx
    have hne := cne x v hx
    unfold World.cell? at hx ⊢
    rw [mapW_other hne]
    exact hx
  refine ⟨hrep.lb, hrep.lm, by simp [AH.setM, hrep.lp], ?_, by rw [mapW_size]; exact hrep.base_le, hrep.sc, ?_, hrep.kk, by rw [mapW_size]; exact hrep.inb, ?_, hrep.excl, hrep.own2, hrep.ancno, hrep.anclt, ?_, hrep.mexcl, fun k o hk ho => by have h1 := hrep.oth k o hk ho; rw [mapW_other (fun e => by rw [e, hb] at h1; cases h1; cases ho)]; exact h1⟩
  · exact hrep.below.trans ⟨rfl, rfl, rfl, by rw [mapW_size]; exact Nat.le_refl _, fun k hk' => mapW_other (by omega)⟩
  · intro b pl l hp hl j v hv
    obtain ⟨cv, e1, e2⟩ := hrep.cell b pl l hp hl j v hv
    exact ⟨cv, ceq _ _ e1, e2⟩
  · intro b pl m l hp hm hl ho
    obtain ⟨h1, h3, a', T', h4, h5⟩ := hrep.own b pl m l hp hm hl ho
    refine ⟨h1, h3, a', T', ?_, h5⟩
    rw [mapW_other (fun e => by rw [e, hb] at h4; cases h4)]
    exact h4
  · intro r' c' es1 hc' hes
    rcases get_set2 hes with ⟨rfl, rfl, _⟩ | ⟨hne, hes⟩
    · rw [hc] at hc'; cases hc'
      exact ⟨fun _ => hcb, en', cl', mapW_at hb, hsz, hrel⟩
    · obtain ⟨h1, en1, cl1, h2, h3, h4⟩ := hrep.mcell r' c' es1 hc' hes
      refine ⟨h1, en1, cl1, ?_, h3, h4⟩
      rw [mapW_other (fun e : c' = c => hne (hrep.mexcl r r' c hc (by rw [← e]; exact hc')))]
      exact h2
end
/-- The entries of a map with ints for keys. -/
def mpI (l : List (Int × AV)) : List (AV × AV) := l.map fun x => (.i .i64 x.1, x.2)
def findI (k : Int) : List (Int × AV) → Option AV
  | [] => none
  | x :: l => if x.1 = k then some x.2 else findI k l
def putI (k : Int) (v : AV) : List (Int × AV) → List (Int × AV)
  | [] => [(k, v)]
  | x :: l => if x.1 = k then (k, v) :: l else x :: putI k v l
theorem rel_m {ι : Pl} {r : Nat} {cv : Value} (H : VRel ι (.m r) cv) : ∃ c, ι.mp[r]? = some c ∧ cv = .map (some c) := by
  cases H with | m r c h => exact ⟨c, h, rfl⟩
theorem rel_i' {ι : Pl} {k : IntKind} {n : Int} {cv : Value} (H : VRel ι (.i k n) cv) : cv = .int k n := by cases H; rfl
theorem find_rel {ι : Pl} {v : AV} (k : Int) : ∀ (l : List (Int × AV)) (en : List MapEntry) (i : Nat), en.length = l.length → (∀ (j : Nat) (e : Int × AV) (e' : MapEntry), l[j]? = some e → en[j]? = some e' → VRel ι (.i .i64 e.1) e'.key ∧ VRel ι e.2 e'.val) →
    (findI k l = none ∧ Instr.findNow (.int .i64) (.int .i64 k) en i = some none ∧ putI k v l = l ++ [(k, v)]) ∨
    ∃ (j : Nat) (e : Int × AV) (e' : MapEntry), findI k l = some e.2 ∧ l[j]? = some e ∧ en[j]? = some e' ∧ e.1 = k ∧ Instr.findNow (.int .i64) (.int .i64 k) en i = some (some (i + j, e'.val)) ∧ putI k v l = l.set j (k, v)
  | [], [], i, _, _ => .inl ⟨rfl, rfl, rfl⟩
  | x :: l, y :: en, i, hl, hr => by
    have h0 := hr 0 x y rfl rfl
    have hk := rel_i' h0.1
    by_cases hx : x.1 = k
    · refine .inr ⟨0, x, y, by rw [findI, if_pos hx], rfl, rfl, hx, ?_, by rw [putI, if_pos hx]; rfl⟩
      simp [Instr.findNow, Instr.sameNow, hk, hx]
    · have hbq : (k == x.1) = false := by simpa using fun e => hx e.symm
      rcases find_rel k l en (i + 1) (by simpa using hl) (fun j e e' a b => hr (j + 1) e e' (by simpa using a) (by simpa using b)) with ⟨f1, f2, f3⟩ | ⟨j, e, e', f1, f2, f3, f4, f5, f6⟩
      · refine .inl ⟨by rw [findI, if_neg hx, f1], ?_, by rw [putI, if_neg hx, f3]; rfl⟩
        simp [Instr.findNow, Instr.sameNow, hk, hbq, f2]
      · refine .inr ⟨j + 1, e, e', by rw [findI, if_neg hx, f1], by simpa using f2, by simpa using f3, f4, ?_, by rw [putI, if_neg hx, f6]; rfl⟩
        simp [Instr.findNow, Instr.sameNow, hk, hbq, f5]
        omega
  | [], _ :: _, _, hl, _ => by simp at hl
  | _ :: _, [], _, hl, _ => by simp at hl
section
variable {P : Program} {a : List AV} {h : AH} {K : List AV → AH → Prop} {d : Option Nat}
theorem OpR_mkM {T : TypeId} (hk : K (st a d (.m h.mp.length)) h.newM) : OpR P (.makeMap T none) d a h K := by
  intro o ho hd base w0 ι0 ι w ca hok N R hN
  have hrun : (execOp ca.eval o).run P w = .ok (.value (.map (some w.heap.size))) (w.alloc (.map #[] 0)) := by
    unfold execOp
    simp [ho, Instr.makeMap, Result.andThen]
  unfold Oper.wp
  rw [hrun]
  have hle := Pl.le_addM ι w.heap.size
  refine hN (ι.addM w.heap.size) _ _ _ _ ⟨hok.le.trans hle, hok.rep.newM, ?_, ?_⟩ hk
  · rw [put_defers]; exact hok.def_
  · rw [hd]; exact put_rel (hok.rel.mono hle) d (.m _ _ (by rw [← hok.rep.lp]; exact get_new _ _))
theorem OpR_lkp {T kT eT : TypeId} {x ix : Operand} {r : Nat} {own : Bool} {k : Int} {l : List (Int × AV)} {z : AV} (hT : P.underlying T = some (.map kT eT)) (hK : P.underlying kT = some (.int .i64)) (hz : zeroA P eT = some z)
    (hx : ev a x = some (.m r)) (hi : ev a ix = some (.i .i64 k)) (hm : h.mp[r]? = some (own, mpI l)) (hk : K (st a d ((findI k l).getD z)) h) : OpR P (.lookup T x ix false) d a h K :=
  OpR_pure (fun base w0 ι w ca hrep hr o ho => by
    obtain ⟨c, hc, ec⟩ := rel_m (ev_rel hr hx)
    have ek := rel_i' (ev_rel hr hi)
    obtain ⟨_, en, cl, hb, hs, hrel⟩ := hrep.mcell r c _ hc hm
    obtain ⟨zv, hzr, hzv⟩ := run_zeroA hz ι w
    have hcheck := MapKept.run_checkKey (P := P) (w := w) (k := .int .i64 k) hK (show MapKept.IsKey (.int .i64) (.int .i64 k) from rfl) en.isEmpty 9999
    rcases find_rel (ι := ι) (v := .nm) k l en.toList 0 (by simp [hs.1, mpI]) (fun j e e' a b => hrel j (.i .i64 e.1, e.2) e' (by simp [mpI, a]) (by simpa using b)) with ⟨f1, f2, f3⟩ | ⟨j, e, e', f1, f2, f3, f4, f5, f6⟩
    · refine ⟨zv, ?_, by rw [f1]; exact hzv⟩
      unfold execOp
      simp [ho, ec, ek, Instr.lookup, run_underlying hT, MapKept.run_getObj_map hb, hcheck, MapKept.run_findKey hK f2, hzr, Result.andThen]
    · refine ⟨e'.val, ?_, by rw [f1]; exact (hrel j (.i .i64 e.1, e.2) e' (by simp [mpI, f2]) (by simpa using f3)).2⟩
      unfold execOp
      simp [ho, ec, ek, Instr.lookup, run_underlying hT, MapKept.run_getObj_map hb, hcheck, MapKept.run_findKey hK f5, Result.andThen]) hk
theorem OpR_mput {T kT eT : TypeId} {x ix y : Operand} {r : Nat} {k : Int} {v : AV} {l : List (Int × AV)} {op : Op} (hop' : op = .mapUpdate T x ix y ∨ op = .insert T x ix y) (hT : P.underlying T = some (.map kT eT)) (hK : P.underlying kT = some (.int .i64))
    (hx : ev a x = some (.m r)) (hi : ev a ix = some (.i .i64 k)) (hy : ev a y = some v) (hm : h.mp[r]? = some (true, mpI l)) (hk : K (st a d un) (h.setM r (mpI (putI k v l)))) : OpR P op d a h K := by
  intro o ho hd base w0 ι0 ι w ca hok N R hN
  have hrep := hok.rep
  obtain ⟨c, hc, ec⟩ := rel_m (ev_rel hok.rel hx)
  have ek := rel_i' (ev_rel hok.rel hi)
  have hv := ev_rel hok.rel hy
  obtain ⟨_, en, cl, hb, hs, hrel⟩ := hrep.mcell r c _ hc hm
  have hcheck := MapKept.run_checkKey (P := P) (w := w) (k := .int .i64 k) hK (show MapKept.IsKey (.int .i64) (.int .i64 k) from rfl) false 9999
  have hrel' := fun (j : Nat) (e : Int × AV) (e' : MapEntry) (p : l[j]? = some e) (q : en.toList[j]? = some e') => hrel j (.i .i64 e.1, e.2) e' (by simp [mpI, p]) (by simpa using q)
  obtain ⟨en', cl', hrun, hsz', hr'⟩ : ∃ (en' : Array MapEntry) (cl' : Nat), (execOp ca.eval o).run P w = .ok .skip (mapW w c (.map en' cl')) ∧ (en'.size = (mpI (putI k v l)).length ∧ Stm en' cl') ∧
      ∀ (j : Nat) (e : AV × AV) (e' : MapEntry), (mpI (putI k v l))[j]? = some e → en'[j]? = some e' → VRel ι e.1 e'.key ∧ VRel ι e.2 e'.val := by
    rcases find_rel (ι := ι) (v := v) k l en.toList 0 (by simp [hs.1, mpI]) hrel' with ⟨f1, f2, f3⟩ | ⟨j, e, e', f1, f2, f3, f4, f5, f6⟩
    · refine ⟨en.push ⟨.int .i64 k, ca.eval y, cl⟩, cl + 1, ?_, ⟨by rw [f3]; simp [mpI, hs.1], hs.2.push _ _⟩, fun j e e' p q => ?_⟩
      · unfold execOp
        rcases hop' with e | e <;> simp [ho, e, ec, ek, Instr.mapUpdate, run_underlying hT, MapKept.run_getObj_map hb, hcheck, MapKept.run_findKey hK f2, MapKept.run_setObj_map _ hb, Result.andThen, mapW]
      · rw [f3] at p
        simp only [mpI, List.map_append, List.map_cons, List.map_nil] at p
        simp only [Array.getElem?_push] at q
        rcases get_app _ _ _ _ p with ⟨p1, p2⟩ | ⟨p1, rfl⟩
        · rw [if_neg (by simp at p1; simp [hs.1, mpI]; omega)] at q
          exact hrel j e e' p2 q
        · rw [if_pos (by simp at p1; simp [hs.1, mpI]; omega)] at q
          cases q
          exact ⟨.i _ _, hv⟩
    · have hkey : e'.key = .int .i64 k := by rw [rel_i' (hrel' j e e' f2 f3).1, f4]
      have hst : (Instr.keyThatStays (.int .i64 k) (.int .i64 k)).run P w = .ok (.int .i64 k) w := MapKept.run_keyThatStays (d := .int .i64) rfl
      have f3' : en[j]? = some e' := by simpa using f3
      refine ⟨en.modify j fun e => { e with key := .int .i64 k, val := ca.eval y }, cl, ?_, ⟨by rw [f6]; simp [mpI, hs.1], hs.2.modify _ _ _⟩, fun i e1 e2 p q => ?_⟩
      · unfold execOp
        rcases hop' with e | e <;> simp [ho, e, ec, ek, Instr.mapUpdate, run_underlying hT, MapKept.run_getObj_map hb, hcheck, MapKept.run_findKey hK f5, f3', hkey, hst, MapKept.run_setObj_map _ hb, Result.andThen, mapW]
      · rw [f6] at p
        simp only [mpI, List.map_set] at p
        rw [Array.getElem?_modify] at q
        rcases get_set2 p with ⟨rfl, rfl, _⟩ | ⟨hne, p⟩
        · rw [if_pos rfl, f3'] at q
          cases q
          exact ⟨.i _ _, hv⟩
        · rw [if_neg hne] at q
          exact hrel i e1 e2 p q
  unfold Oper.wp
  rw [hrun, Oper.upon_skip]
  refine hN ι _ _ _ _ ⟨hok.le, hrep.setM hc hm hb hsz' hr', ?_, ?_⟩ hk
  · rw [put_defers]; exact hok.def_
  · rw [hd]; exact put_rel hok.rel d (un_rel ι)
end
/-! Maps as items of the frame. -/
section
variable {P : Program} {a : List AV} {h0 h : AH} {L : List It} {Q : Exit → List AV → List It → Prop} {d : Option Nat} {l : List IOp}
theorem Loq.newM (H : Loq h0 h L) : Loq h0 h.newM (.mp h.mp.length (mpI []) :: L) := by
  have wf : h.newM.wf := ⟨H.wf.len, H.wf.no, H.wf.lt⟩
  have hle : h.le h.newM := ⟨List.prefix_rfl, List.prefix_rfl, List.prefix_append _ _⟩
  refine (H.le' wf hle).cons ⟨mp_len H.le, get_new _ _⟩ fun y hy => ⟨fun b e => (by cases e), fun r e e' => ?_⟩
  cases e
  have := ((H.it y hy).mbounds _ e').2
  omega
theorem Loq.setM {i r : Nat} {es es' : List (AV × AV)} (H : Loq h0 h L) (hx : L[i]? = some (.mp r es)) : Loq h0 (h.setM r es') (L.set i (.mp r es')) := by
  obtain ⟨g1, g2⟩ := H.it' hx
  have hr := (List.getElem?_eq_some_iff.1 g2).1
  obtain ⟨hi, hxi⟩ := List.getElem?_eq_some_iff.1 hx
  have hap := List.pairwise_iff_getElem.1 H.ap
  have far : ∀ j (hj : j < L.length), j ≠ i → (L[j]).mr ≠ some r := by
    intro j hj hne e
    have hi2 : (L[i]).mr = some r := by rw [hxi]; rfl
    rcases Nat.lt_or_gt_of_ne hne with hlt | hlt
    · exact (hap j i hj hi hlt).2 r e hi2
    · exact (hap i j hi hj hlt).2 r hi2 e
  refine ⟨H.wf0, ⟨H.le.1, H.le.2.1, pre_of fun j hj => ?_⟩, ⟨H.wf.len, H.wf.no, H.wf.lt⟩, ?_, ?_⟩
  · show (h.mp.set r (true, es'))[j]? = _
    rw [List.getElem?_set_ne (by omega), pre_at H.le.2.2 hj]
  · intro z hz
    obtain ⟨j, hj⟩ := List.mem_iff_getElem?.1 hz
    by_cases e : i = j
    · subst e
      rw [List.getElem?_set_self hi] at hj
      cases hj
      exact ⟨g1, List.getElem?_set_self hr⟩
    · rw [List.getElem?_set_ne e] at hj
      obtain ⟨hj', rfl⟩ := List.getElem?_eq_some_iff.1 hj
      refine ItOk.map (g := h0) (g' := h0) (h := h) (h' := h.setM r es') (fun _ _ _ _ B => B) (fun r' es1 e1 a1 b1 => ⟨a1, ?_⟩) (H.it _ (List.getElem_mem hj'))
      show (h.mp.set r (true, es'))[r']? = _
      rw [List.getElem?_set_ne (fun e2 => far j hj' (Ne.symm e) (by rw [e2]; exact e1))]
      exact b1
  · refine List.pairwise_iff_getElem.2 fun p q hp hq hlt => ?_
    simp only [List.length_set] at hp hq
    have old := hap p q hp hq hlt
    simp only [List.getElem_set]
    refine ⟨fun b e e' => ?_, fun r' e e' => ?_⟩
    · split at e
      · cases e
      · split at e'
        · cases e'
        · exact old.1 b e e'
    · have c1 : (L[p]).mr = some r' := by
        split at e
        · rename_i e1; subst e1; rw [hxi]; exact e
        · exact e
      have c2 : (L[q]).mr = some r' := by
        split at e'
        · rename_i e1; subst e1; rw [hxi]; exact e'
        · exact e'
      exact old.2 r' c1 c2
theorem LS_mkM {T : TypeId} (H : ∀ r, LS P h0 (.mp r (mpI []) :: L) l Q (st a d (.m r))) : LS P h0 L (⟨d, .makeMap T none, none⟩ :: l) Q a :=
  fun h HL => AS_op (OpR_mkM (H h.mp.length _ HL.newM))
theorem LS_lkp {T kT eT : TypeId} {x ix : Operand} {r : Nat} {k : Int} {es : List (Int × AV)} {z : AV} (j : Nat) (hT : P.underlying T = some (.map kT eT)) (hK : P.underlying kT = some (.int .i64)) (hz : zeroA P eT = some z)
    (hx : ev a x = some (.m r)) (hi : ev a ix = some (.i .i64 k)) (hm : L[j]? = some (.mp r (mpI es))) (H : LS P h0 L l Q (st a d ((findI k es).getD z))) : LS P h0 L (⟨d, .lookup T x ix false, none⟩ :: l) Q a :=
  fun h HL => AS_op (OpR_lkp hT hK hz hx hi (HL.it' hm).2 (H h HL))
theorem LS_mput {T kT eT : TypeId} {x ix y : Operand} {r : Nat} {k : Int} {v : AV} {es : List (Int × AV)} (j : Nat) (hT : P.underlying T = some (.map kT eT)) (hK : P.underlying kT = some (.int .i64))
    (hx : ev a x = some (.m r)) (hi : ev a ix = some (.i .i64 k)) (hy : ev a y = some v) (hm : L[j]? = some (.mp r (mpI es))) (H : LS P h0 (L.set j (.mp r (mpI (putI k v es)))) l Q (st a d un)) : LS P h0 L (⟨d, .mapUpdate T x ix y, none⟩ :: l) Q a :=
  fun h HL => AS_op (OpR_mput (.inl rfl) hT hK hx hi hy (HL.it' hm).2 (H _ (HL.setM hm)))
theorem LS_mins {T kT eT : TypeId} {x ix y : Operand} {r : Nat} {k : Int} {v : AV} {es : List (Int × AV)} (j : Nat) (hT : P.underlying T = some (.map kT eT)) (hK : P.underlying kT = some (.int .i64))
    (hx : ev a x = some (.m r)) (hi : ev a ix = some (.i .i64 k)) (hy : ev a y = some v) (hm : L[j]? = some (.mp r (mpI es))) (H : LS P h0 (L.set j (.mp r (mpI (putI k v es)))) l Q (st a d un)) : LS P h0 L (⟨d, .insert T x ix y, none⟩ :: l) Q a :=
  fun h HL => AS_op (OpR_mput (.inr rfl) hT hK hx hi hy (HL.it' hm).2 (H _ (HL.setM hm)))
end
end Go.AL
