/- The logic of what is owned, part 11: a loop over a map. -/
import Derived.Test.YtdcliofmdlhmaaaD3
import Derived.Maps.RangeRun
import Derived.LoopN
namespace Go.AL
set_option linter.unusedVariables false
set_option linter.unusedSimpArgs false
open Go.RowKit
open Go.ChangeMaps (setBlock)
section
variable {base : Nat} {w0 : World} {ι ι' : Pl} {h h' : AH} {w w' : World}
theorem Rep.reb (H : Rep base w0 ι h w) : Rep base w ι h w :=
  ⟨H.lb, H.lm, H.lp, Below.refl _ _, H.base_le, H.sc, H.cell, H.kk, H.inb, H.own, H.excl, H.own2, H.ancno, H.anclt, H.mcell, H.mexcl, fun _ _ h _ => h⟩
theorem Rep.thru (H : Rep base w0 ι h w) (H' : Rep base w ι' h' w') : Rep base w0 ι' h' w' :=
  ⟨H'.lb, H'.lm, H'.lp, H.below.trans H'.below, H'.base_le, H'.sc, H'.cell, H'.kk, H'.inb, H'.own, H'.excl, H'.own2, H'.ancno, H'.anclt, H'.mcell, H'.mexcl, fun k o hk ho => H'.oth k o (H.oth k o hk ho) ho⟩
theorem Rep.obj (H : Rep base w0 ι h w) (hb : Below base w w') (hk : ∀ (k : Nat) (o : Obj), w.heap[k]? = some o → othO o = false → w'.heap[k]? = some o) (h0 : ∀ (k : Nat) (o : Obj), w0.heap[k]? = some o → othO o = true → w'.heap[k]? = some o) : Rep base w0 ι h w' := by
  refine ⟨H.lb, H.lm, H.lp, H.below.trans hb, Nat.le_trans H.base_le hb.size, H.sc, ?_, H.kk, ?_, ?_, H.excl, H.own2, H.ancno, H.anclt, ?_, H.mexcl, h0⟩
  · intro b pl l hp hl j v hv
    obtain ⟨cv, e1, e2⟩ := H.cell b pl l hp hl j v hv
    refine ⟨cv, ?_, e2⟩
    unfold World.cell? at e1 ⊢
    cases ho : w.heap[(⟨pl.c, pl.o + j, none⟩ : Addr).block]? with
    | none => rw [ho] at e1; cases e1
    | some o =>
      rw [ho] at e1
      have : othO o = false := by
        cases o <;> first | rfl | (cases e1; done)
      rw [hk _ o ho this]
      exact e1
  · intro b pl hp
    exact Nat.lt_of_lt_of_le (H.inb b pl hp) hb.size
  · intro b pl m l hp hm hl ho
    obtain ⟨h1, h2, arr, T, h3, h4⟩ := H.own b pl m l hp hm hl ho
    exact ⟨h1, h2, arr, T, hk _ _ h3 rfl, h4⟩
  · intro r c es hc hes
    obtain ⟨h1, en, cl, h2, h3⟩ := H.mcell r c es hc hes
    exact ⟨h1, en, cl, hk _ _ h2 rfl, h3⟩
theorem Rep.roE (R : Rep base w0 ι h w) (pl : Place) (hk0 : pl.k = 0) (hin : pl.c < w.heap.size) : Rep base w0 (ι.add pl) (h.ro 0 []) w := by
  have hle := ι.le_add pl
  have gb : ∀ {b : Nat} {pl' : Place}, (ι.add pl).bl[b]? = some pl' → (b < h.cs.length ∧ ι.bl[b]? = some pl') ∨ (b = h.cs.length ∧ pl' = pl) := by
    intro b pl' e
    rw [← R.lb]
    exact get_snoc e
  have gc : ∀ {b : Nat} {l : List AV}, (h.ro 0 []).cs[b]? = some l → (b < h.cs.length ∧ h.cs[b]? = some l) ∨ (b = h.cs.length ∧ l = []) := fun e => get_snoc e
  have gm : ∀ {b : Nat} {m : Meta}, (h.ro 0 []).mt[b]? = some m → (b < h.cs.length ∧ h.mt[b]? = some m) ∨ (b = h.cs.length ∧ m = ⟨0, false, []⟩) := by
    intro b m e
    rw [← R.lm]
    exact get_snoc e
  refine ⟨by simp [Pl.add, AH.ro, R.lb], by simp [AH.ro, R.lm], R.lp, R.below, R.base_le, ?_, ?_, ?_, ?_, ?_, ?_, ?_, ?_, ?_, ?_, R.mexcl, R.oth⟩
  · intro b l hb
    rcases gc hb with ⟨_, hb⟩ | ⟨_, rfl⟩
    · exact R.sc b l hb
    · rfl
  · intro b pl' l hb hl j v hv
    rcases gc hl with ⟨e, hl⟩ | ⟨_, rfl⟩
    · rcases gb hb with ⟨_, hb⟩ | ⟨e', _⟩
      · obtain ⟨cv, h1, h2⟩ := R.cell b pl' l hb hl j v hv
        exact ⟨cv, h1, h2.mono hle⟩
      · omega
    · simp at hv
  · intro b pl' m hb hm
    rcases gb hb with ⟨e, hb⟩ | ⟨e, rfl⟩
    · rcases gm hm with ⟨_, hm⟩ | ⟨e', _⟩
      · exact R.kk b pl' m hb hm
      · omega
    · rcases gm hm with ⟨e', _⟩ | ⟨_, rfl⟩
      · omega
      · exact hk0
  · intro b pl' hb
    rcases gb hb with ⟨_, hb⟩ | ⟨_, rfl⟩
    · exact R.inb b pl' hb
    · exact hin
  · intro b pl' m l hb hm hl ho
    rcases gm hm with ⟨e, hm⟩ | ⟨_, rfl⟩
    · rcases gb hb with ⟨_, hb⟩ | ⟨e', _⟩
      · rcases gc hl with ⟨_, hl⟩ | ⟨e', _⟩
        · exact R.own b pl' m l hb hm hl ho
        · omega
      · omega
    · cases ho
  · intro b b' pl' pl2 m m' l l' hb hb' hm hm' hl hl' ho hc
    rcases gm hm with ⟨e, hm⟩ | ⟨_, rfl⟩
    · rcases gc hl' with ⟨e2, hl'⟩ | ⟨_, rfl⟩
      · rcases gb hb with ⟨_, hb⟩ | ⟨e', _⟩
        · rcases gb hb' with ⟨_, hb'⟩ | ⟨e', _⟩
          · rcases gm hm' with ⟨_, hm'⟩ | ⟨e', _⟩
            · rcases gc hl with ⟨_, hl⟩ | ⟨e', _⟩
              · exact R.excl b b' pl' pl2 m m' l l' hb hb' hm hm' hl hl' ho hc
              · omega
            · omega
          · omega
        · omega
      · exact .inr (.inl rfl)
    · cases ho
  · intro b b' pl' pl2 m m' hb hb' hm hm' ho ho' hc
    rcases gm hm with ⟨e, hm⟩ | ⟨_, rfl⟩
    · rcases gm hm' with ⟨e2, hm'⟩ | ⟨_, rfl⟩
      · rcases gb hb with ⟨_, hb⟩ | ⟨e', _⟩
        · rcases gb hb' with ⟨_, hb'⟩ | ⟨e', _⟩
          · exact R.own2 b b' pl' pl2 m m' hb hb' hm hm' ho ho' hc
          · omega
        · omega
      · cases ho'
    · cases ho
  · intro b b' m m' hm hb hm'
    rcases gm hm with ⟨e, hm⟩ | ⟨_, rfl⟩
    · rcases gm hm' with ⟨e2, hm'⟩ | ⟨_, rfl⟩
      · exact R.ancno b b' m m' hm hb hm'
      · rfl
    · cases hb
  · intro b m hm b' hb
    rcases gm hm with ⟨e, hm⟩ | ⟨_, rfl⟩
    · have := R.anclt b m hm b' hb
      simp [AH.ro]; omega
    · cases hb
  · intro r c es hc hes
    obtain ⟨h1, en, cl, h2, h3, h4⟩ := R.mcell r c es hc hes
    exact ⟨h1, en, cl, h2, h3, fun j e e' he he' => ⟨(h4 j e e' he he').1.mono hle, (h4 j e e' he he').2.mono hle⟩⟩
end
/-- An operation that has a value, in a list of them. -/
theorem wpL_v {P : Program} {ops : Array Oper} {Q : Exit → Act → World → Prop} {o : Oper} {ol : List Oper} {ca : Act} {w w' : World} {v : Value} {d : Option Nat} {op : Op}
    (h1 : iop ops o = ⟨d, op, none⟩) (hg : okg ops o = true) (hr : o.op = op → (execOp ca.eval o).run P w = .ok (.value v) w') (H : wpList P ops Q ol (ca.put d v) w') : wpList P ops Q (o :: ol) ca w := by
  simp only [iop, IOp.mk.injEq] at h1
  obtain ⟨hd, hop, hgd⟩ := h1
  have hgn : o.guard = none := by
    simp only [okg, hgd] at hg
    simpa using hg
  have hw : Region.wanted o (yielded ops ca.tmps) = true := by simp [Region.wanted, hgn]
  simp only [wpList, hw, if_true]
  refine .inl ?_
  unfold Oper.wp
  rw [hr hop, Oper.upon_value, hd]
  exact H
theorem Stm.born {en : Array MapEntry} {cl : Nat} (H : Stm en cl) : (∀ x ∈ en.toList, x.born < cl) ∧ (en.toList.map (·.born)).Nodup := by
  have e : en.toList.map (·.born) = List.range en.size := by
    refine List.ext_getElem? fun i => ?_
    rw [List.getElem?_map]
    cases hi : en[i]? with
    | none =>
      have : en.size ≤ i := by simpa using hi
      rw [show en.toList[i]? = none by simpa using hi]
      simp [this]
    | some x =>
      have hlt := (Array.getElem?_eq_some_iff.1 hi).1
      rw [show en.toList[i]? = some x by simpa using hi, Option.map_some, H.2 i x hi]
      simp [hlt]
  refine ⟨fun x hx => ?_, by rw [e]; exact List.nodup_range⟩
  have : x.born ∈ en.toList.map (·.born) := List.mem_map_of_mem hx
  rw [e] at this
  rw [H.1]
  exact List.mem_range.1 this
/-- The iterator of a loop over a map, as the world holds it. -/
def ItF (b r n : Nat) (seen : List Nat) (base : Nat) (w0 : World) (ι : Pl) (w : World) : Prop :=
  ∃ pl cm, ι.bl[b]? = some pl ∧ pl.o = 0 ∧ ι.mp[r]? = some cm ∧ base ≤ pl.c ∧ w0.heap.size ≤ pl.c ∧ w.heap[pl.c]? = some (.mapIter (some cm) n seen.toArray n)
/-- A round of the loop over a map. -/
def rngX (it n1 n2 n3 n4 n5 id b1 : Nat) (y : IC) : IC :=
  .seq (.reg [⟨some n1, .next (.tmp it) false, none⟩, ⟨some n2, .extract (.tmp n1) 0, none⟩])
    (.seq (.cond (.tmp n2) .skip (.exit id))
      (.block b1 (.seq (.reg [⟨some n3, .entry (.tmp it), none⟩, ⟨some n4, .extract (.tmp n3) 0, none⟩, ⟨some n5, .assign (.tmp n4), none⟩]) y)))
theorem setBlock_at {w : World} {c : Nat} {o o' : Obj} (hb : w.heap[c]? = some o) : (setBlock w c o').heap[c]? = some o' := mapW_at hb
theorem setBlock_other {w : World} {c : Nat} {o' : Obj} {i : Nat} (h : i ≠ c) : (setBlock w c o').heap[i]? = w.heap[i]? := mapW_other h
theorem map_two {α β : Type} {f : α → β} {l : List α} {x y : β} (h : l.map f = [x, y]) : ∃ a b, l = [a, b] ∧ f a = x ∧ f b = y := by
  obtain ⟨a, l1, rfl, h1, h2⟩ := List.map_eq_cons_iff.1 h
  obtain ⟨b, l2, rfl, h3, h4⟩ := List.map_eq_cons_iff.1 h2
  obtain rfl := List.map_eq_nil_iff.1 h4
  exact ⟨a, b, rfl, h1, h3⟩
theorem map_three {α β : Type} {f : α → β} {l : List α} {x y z : β} (h : l.map f = [x, y, z]) : ∃ a b c, l = [a, b, c] ∧ f a = x ∧ f b = y ∧ f c = z := by
  obtain ⟨a, l1, rfl, h1, h2⟩ := List.map_eq_cons_iff.1 h
  obtain ⟨b, c, rfl, h3, h4⟩ := map_two h2
  exact ⟨a, b, c, rfl, h1, h3, h4⟩
theorem rng_round {P : Program} {it n1 n2 n3 n4 n5 id b1 : Nat} {y : IC} {code : Code} {b r : Nat} {own : Bool} {es : List (Int × AV)} {a : List AV} {h : AH} {seen : List Nat} {I : List Nat → List AV → AH → Prop}
    {base : Nat} {w0 : World} {ι0 ι : Pl} {w : World} {ca : Act}
    (hcode : dec code = rngX it n1 n2 n3 n4 n5 id b1 y) (hok : Ok base w0 ι0 ι h w a ca) (hF : ItF b r es.length seen base w0 ι w) (hm : h.mp[r]? = some (own, mpI es))
    (hit : a[it]? = some (.p b 0)) (hd1 : it ≠ n1) (hd2 : it ≠ n2) (l1 : n1 < a.length) (l2 : n2 < a.length) (l3 : n3 < a.length) (l4 : n4 < a.length)
    (hR : ∀ j e, j ∉ seen → es[j]? = some e → AI P y (fun x a'' h'' => x = .normal ∧ I (seen ++ [j]) a'' h'') (st (st (st (st (st a (some n1) (.tup [.b true, .i .i64 e.1, e.2])) (some n2) (.b true)) (some n3) (.tup [.i .i64 e.1, e.2])) (some n4) (.i .i64 e.1)) (some n5) (.i .i64 e.1)) h) :
    code.wp P (fun e ca' w' => (e = .exit id ∧ (∀ j, j < es.length → j ∈ seen) ∧ ∃ h', h' = h ∧ Ok base w0 ι0 ι h' w' (st (st a (some n1) (.tup [.b false])) (some n2) (.b false)) ca') ∨
      (e = .normal ∧ ∃ j, j ∉ seen ∧ j < es.length ∧ ∃ ι' a' h', Ok base w0 ι0 ι' h' w' a' ca' ∧ ItF b r es.length (seen ++ [j]) base w0 ι' w' ∧ I (seen ++ [j]) a' h')) ca w := by
  obtain ⟨pl, cm, p1, p2, p3, p4, p5, p6⟩ := hF
  obtain ⟨_, en, cl, g1, ⟨g2, g3⟩, g4⟩ := hok.rep.mcell r cm _ p3 hm
  have hn : cl = es.length := by rw [g3.1, g2]; simp [mpI]
  subst hn
  obtain ⟨hold, hnd⟩ := g3.born
  obtain ⟨c1, c2, rfl, d1, d2⟩ := dec_seq hcode
  obtain ⟨c3, c4, rfl, d3, d4⟩ := dec_seq d2
  obtain ⟨_, ops, rfl, q1, q2⟩ := dec_reg d1
  obtain ⟨cx, cy, rfl, d5, d6⟩ := dec_cond d3
  obtain rfl := dec_skip d5
  obtain rfl := dec_exit d6
  obtain ⟨c5, rfl, d7⟩ := dec_block d4
  obtain ⟨c6, c7, rfl, d8, d9⟩ := dec_seq d7
  obtain ⟨_, ops2, rfl, q3, q4⟩ := dec_reg d8
  have hitv : ca.eval (.tmp it) = .pointer (some ⟨pl.c, 0, none⟩) := by
    have := ev_rel (x := .tmp it) hok.rel hit
    generalize ca.eval (.tmp it) = z at this
    cases this with
    | p _ _ pl' e =>
      rw [p1] at e
      cases e
      rw [p2]
  obtain ⟨o1, o2, hl, i1, i2⟩ := map_two q2
  obtain ⟨o3, o4, o5, hl2, i3, i4, i5⟩ := map_three q4
  rw [hl] at q1
  rw [hl2] at q3
  simp only [List.all_cons, List.all_nil, Bool.and_true, Bool.and_eq_true] at q1 q3
  have gst : ∀ {a : List AV} {n : Nat} {v : AV}, n < a.length → (st a (some n) v)[n]? = some v := by
    intro a n v e
    simp [st, e]
  have gne : ∀ {a : List AV} {n m : Nat} {v : AV}, m ≠ n → (st a (some n) v)[m]? = a[m]? := by
    intro a n m v e
    simp [st, List.getElem?_set_ne (Ne.symm e)]
  have gln : ∀ {a : List AV} {d : Option Nat} {v : AV}, (st a d v).length = a.length := by
    intro a d v
    cases d <;> simp [st]
  refine wp_seq (wp_region_list ?_)
  rw [hl]
  have hL : a.length = ca.tmps.toList.length := hok.rel.length
  have pget : ∀ {ca : Act} {n : Nat} {v : Value}, n < ca.tmps.toList.length → (ca.put (some n) v).eval (.tmp n) = v := by
    intro ca n v e
    have e' : n < ca.tmps.size := by simpa using e
    simp [Act.put, Act.eval, Array.getD, e']
  have pne : ∀ {ca : Act} {n m : Nat} {v : Value}, m ≠ n → (ca.put (some n) v).eval (.tmp m) = ca.eval (.tmp m) := by
    intro ca n m v e
    simp [Act.put, Act.eval, Array.getD_eq_getD_getElem?, Array.getElem?_setIfInBounds, Ne.symm e]
  have pln : ∀ {ca : Act} {d : Option Nat} {v : Value}, (ca.put d v).tmps.toList.length = ca.tmps.toList.length := by
    intro ca d v
    cases d <;> simp [Act.put]
  rcases run_next_at (P := P) w o1.type pl.c cm es.length es.length seen.toArray en es.length p6 g1 hold (Nat.le_refl _) with ⟨z1, z2⟩ | ⟨e, he, w1, hw1, z2⟩
  · refine wpL_v (v := .tuple #[.bool false]) (w' := w) i1 q1.1 (fun ho => by unfold execOp; simp only [ho, hitv]; simp [z2, Result.andThen]) ?_
    refine wpL_v (v := .bool false) (w' := w) i2 q1.2 (fun ho => by unfold execOp; simp only [ho]; rw [pget (by omega)]; simp [Instr.extract, Result.andThen]) ?_
    refine wpList_nil ?_
    refine wp_seq (wp_cond_split (t := false) (by rw [pget (by rw [pln]; omega)]) (fun e => by cases e) fun _ => wp_exit ?_)
    refine .inl ⟨rfl, fun j hj => ?_, h, rfl, hok.le, hok.rep, by rw [put_defers, put_defers]; exact hok.def_, put_rel (put_rel hok.rel _ (.tup _ _ (.cons (.b _) .nil))) _ (.b _)⟩
    have hz : ∀ x ∈ en.toList, x.born ∈ seen := by
      intro x hx
      refine Classical.byContradiction fun hn => ?_
      have : x ∈ (leftOf en seen.toArray).toList := by
        unfold leftOf
        simp only [Array.toList_filter, List.mem_filter]
        exact ⟨hx, by simpa using hn⟩
      have h2 : (leftOf en seen.toArray).toList = [] := by
        have : (leftOf en seen.toArray).toList.length = 0 := by simpa using z1
        exact List.length_eq_zero_iff.1 this
      rw [h2] at this
      cases this
    have hjl : j < en.size := by rw [g2]; simpa [mpI] using hj
    have := hz en[j] (by simp)
    rwa [g3.2 j en[j] (Array.getElem?_eq_getElem hjl)] at this
  · obtain ⟨j, hj⟩ : ∃ j, en[j]? = some e := by
      have h1 : e ∈ en.toList := by
        unfold leftOf at he
        simp only [Array.toList_filter, List.mem_filter] at he
        exact he.1
      obtain ⟨j, h2⟩ := List.mem_iff_getElem?.1 h1
      exact ⟨j, by simpa using h2⟩
    have hjl := (Array.getElem?_eq_some_iff.1 hj).1
    have hjl2 : j < es.length := by rw [g2] at hjl; simpa [mpI] using hjl
    have hbj : e.born = j := g3.2 j e hj
    have hns : j ∉ seen := by
      unfold leftOf at he
      simp only [Array.toList_filter, List.mem_filter] at he
      have := he.2
      rw [hbj] at this
      simpa using this
    obtain ⟨x, hx⟩ : ∃ x, es[j]? = some x := ⟨_, List.getElem?_eq_getElem hjl2⟩
    obtain ⟨v1, v2⟩ := g4 j (.i .i64 x.1, x.2) e (by simp [mpI, hx]) hj
    obtain ⟨w', hw'⟩ : ∃ w', w' = setBlock w1 pl.c (.mapIter (some cm) es.length (seen.toArray.push e.born) es.length) := ⟨_, rfl⟩
    rw [← hw'] at z2
    have hrep1 : Rep base w0 ι h w1 := by rcases hw1 with rfl | rfl <;> first | exact hok.rep | exact hok.rep.drew
    have p6' : w1.heap[pl.c]? = some (.mapIter (some cm) es.length seen.toArray es.length) := by rcases hw1 with rfl | rfl <;> exact p6
    have g1' : w1.heap[cm]? = some (.map en es.length) := by rcases hw1 with rfl | rfl <;> exact g1
    have hcm : cm ≠ pl.c := fun e => by rw [e, p6'] at g1'; cases g1'
    have hrep : Rep base w0 ι h w' := by
      refine hrep1.obj ?_ ?_ ?_
      · rw [hw']
        exact ⟨rfl, rfl, rfl, by simp [setBlock], fun k hk => setBlock_other (by omega)⟩
      · intro k o hk ho
        rw [hw', setBlock_other (fun e => by rw [e, p6'] at hk; cases hk; cases ho)]
        exact hk
      · intro k o hk ho
        rw [hw', setBlock_other (fun e => by have := (Array.getElem?_eq_some_iff.1 hk).1; omega)]
        exact hrep1.oth k o hk ho
    have p7 : w'.heap[pl.c]? = some (.mapIter (some cm) es.length (seen.toArray.push e.born) es.length) := by rw [hw']; exact setBlock_at p6'
    have g7 : w'.heap[cm]? = some (.map en es.length) := by rw [hw', setBlock_other hcm]; exact g1'
    have z3 := run_entry_at (P := P) w' pl.c cm es.length seen.toArray en es.length e p7 g7 (by have := List.mem_of_getElem? (show en.toList[j]? = some e by simpa using hj); exact this) hnd
    refine wpL_v (v := .tuple #[.bool true, e.key, e.val]) (w' := w') i1 q1.1 (fun ho => by unfold execOp; simp only [ho, hitv]; simp [z2, Result.andThen]) ?_
    refine wpL_v (v := .bool true) (w' := w') i2 q1.2 (fun ho => by unfold execOp; simp only [ho]; rw [pget (by omega)]; simp [Instr.extract, Result.andThen]) ?_
    refine wpList_nil ?_
    refine wp_seq (wp_cond_split (t := true) (by rw [pget (by rw [pln]; omega)]) (fun _ => wp_skip ?_) fun e => by cases e)
    refine wp_block (wp_seq (wp_region_list ?_))
    rw [hl2]
    refine wpL_v (v := .tuple #[e.key, e.val]) (w' := w') i3 q3.1 (fun ho => by unfold execOp; simp only [ho]; rw [pne hd2, pne hd1, hitv]; simp [z3, Result.andThen]) ?_
    refine wpL_v (v := e.key) (w' := w') i4 q3.2.1 (fun ho => by unfold execOp; simp only [ho]; rw [pget (by rw [pln, pln]; omega)]; simp [Instr.extract, Result.andThen]) ?_
    refine wpL_v (v := e.key) (w' := w') i5 q3.2.2 (fun ho => by unfold execOp; simp only [ho]; rw [pget (by rw [pln, pln, pln]; omega)]; rfl) ?_
    refine wpList_nil ?_
    have rel5 := put_rel (put_rel (put_rel (put_rel (put_rel hok.rel (some n1) (.tup _ _ (.cons (.b true) (.cons v1 (.cons v2 .nil))))) (some n2) (.b true)) (some n3) (.tup _ #[e.key, e.val] (.cons v1 (.cons v2 .nil)))) (some n4) v1) (some n5) v1
    have H := hR j x hns hx c7 d9 base w' { ι with df := ι0.df } ι w' _ ⟨⟨List.prefix_rfl, List.prefix_rfl⟩, hrep.reb, by rw [put_defers, put_defers, put_defers, put_defers, put_defers]; exact hok.def_, rel5⟩
    refine Code.wp_mono ?_ H
    rintro ex ca2 w2 ⟨ι2, a2, h2, hok2, rfl, hI2⟩
    refine .inr ⟨rfl, j, hns, hjl2, ι2, a2, h2, ⟨hok.le.trans hok2.le, hrep.thru hok2.rep, hok2.def_, hok2.rel⟩, ⟨pl, cm, pre_get hok2.le.1 p1, p2, pre_get hok2.le.2 p3, p4, p5, ?_⟩, hI2⟩
    have := hok2.rep.oth _ _ p7 rfl
    rw [hbj] at this
    rw [this]
    simp
theorem unseen_lt {n j : Nat} {seen : List Nat} (hj : j < n) (hs : j ∉ seen) : ((List.range n).filter fun x => !(seen ++ [j]).contains x).length < ((List.range n).filter fun x => !seen.contains x).length := by
  have e : ((List.range n).filter fun x => !(seen ++ [j]).contains x) = ((List.range n).filter fun x => !seen.contains x).filter fun x => x != j := by
    rw [List.filter_filter]
    refine List.filter_congr fun x _ => ?_
    by_cases h1 : x ∈ seen <;> by_cases h2 : x = j <;> simp [h1, h2]
  rw [e, List.length_filter_lt_length_iff_exists]
  exact ⟨j, by simp [hj, hs], by simp⟩
theorem AI_rng {P : Program} {x : Operand} {d1 it n1 n2 n3 n4 n5 id b1 N : Nat} {y : IC} {T kT eT : TypeId} {r : Nat} {own : Bool} {es : List (Int × AV)} {Q : Exit → List AV → AH → Prop} {a : List AV} {h : AH}
    (I : List Nat → List AV → AH → Prop) (hT : P.underlying T = some (.map kT eT)) (hx : ev a x = some (.m r)) (hm : h.mp[r]? = some (own, mpI es)) (hN : d1 < N ∧ n1 < N ∧ n2 < N ∧ n3 < N ∧ n4 < N) (hd1 : it ≠ n1) (hd2 : it ≠ n2) (ha : a.length = N)
    (h0 : I [] (st (st a (some d1) (.m r)) (some it) (.p h.cs.length 0)) (h.ro 0 []))
    (hI : ∀ seen a' h', I seen a' h' → a'.length = N ∧ a'[it]? = some (.p h.cs.length 0) ∧ ∃ own', h'.mp[r]? = some (own', mpI es))
    (hE : ∀ seen a' h', I seen a' h' → seen.Nodup → (∀ j ∈ seen, j < es.length) → (∀ j, j < es.length → j ∈ seen) → Q .normal (st (st a' (some n1) (.tup [.b false])) (some n2) (.b false)) h')
    (hR : ∀ seen a' h' j e, I seen a' h' → j ∉ seen → es[j]? = some e → AI P y (fun x a'' h'' => x = .normal ∧ I (seen ++ [j]) a'' h'') (st (st (st (st (st a' (some n1) (.tup [.b true, .i .i64 e.1, e.2])) (some n2) (.b true)) (some n3) (.tup [.i .i64 e.1, e.2])) (some n4) (.i .i64 e.1)) (some n5) (.i .i64 e.1)) h') :
    AI P (.seq (.reg [⟨some d1, .move x, none⟩, ⟨some it, .range T (.tmp d1), none⟩]) (.block id (.loop (rngX it n1 n2 n3 n4 n5 id b1 y)))) Q a h := by
  intro code hd base w0 ι0 ι w ca hok
  obtain ⟨c1, c2, rfl, e1, e2⟩ := dec_seq hd
  obtain ⟨_, ops, rfl, q1, q2⟩ := dec_reg e1
  obtain ⟨c3, rfl, e3⟩ := dec_block e2
  obtain ⟨c4, rfl, e4⟩ := dec_loop e3
  obtain ⟨o1, o2, hl, i1, i2⟩ := map_two q2
  rw [hl] at q1
  simp only [List.all_cons, List.all_nil, Bool.and_true, Bool.and_eq_true] at q1
  have hxv := ev_rel hok.rel hx
  obtain ⟨cm, hc, ec⟩ := rel_m hxv
  obtain ⟨_, en, cl, g1, ⟨g2, g3⟩, g4⟩ := hok.rep.mcell r cm _ hc hm
  have hn : cl = es.length := by rw [g3.1, g2]; simp [mpI]
  subst hn
  have hL : a.length = ca.tmps.toList.length := hok.rel.length
  refine wp_seq (wp_region_list ?_)
  rw [hl]
  refine wpL_v (v := .map (some cm)) (w' := w) i1 q1.1 (fun ho => by unfold execOp; simp only [ho, ec]; rfl) ?_
  refine wpL_v (v := .pointer (some ⟨w.heap.size, 0, none⟩)) (w' := w.alloc (.mapIter (some cm) es.length #[] es.length)) i2 q1.2 (fun ho => by
    unfold execOp
    have e' : d1 < ca.tmps.size := by have := hL; simp at this; omega
    have : (ca.put (some d1) (.map (some cm))).eval (.tmp d1) = .map (some cm) := by simp [Act.put, Act.eval, Array.getD, e']
    simp only [ho]
    rw [this]
    simp [run_range_map w T kT eT cm en es.length hT g1, Result.andThen]) ?_
  refine wpList_nil ?_
  have hrep : Rep base w0 ι h (w.alloc (.mapIter (some cm) es.length #[] es.length)) := by
    refine hok.rep.obj ?_ ?_ ?_
    · exact ⟨rfl, rfl, rfl, by simp, fun k hk => heap_alloc_old w _ (by have := hok.rep.base_le; omega)⟩
    · intro k o hk ho
      rw [heap_alloc_old w _ (Array.getElem?_eq_some_iff.1 hk).1]
      exact hk
    · intro k o hk ho
      have := hok.rep.oth k o hk ho
      rw [heap_alloc_old w _ (Array.getElem?_eq_some_iff.1 this).1]
      exact this
  have hro := hrep.roE ⟨w.heap.size, 0, 0, 0⟩ rfl (by simp)
  have hle := ι.le_add ⟨w.heap.size, 0, 0, 0⟩
  have hbl : (ι.add ⟨w.heap.size, 0, 0, 0⟩).bl[h.cs.length]? = some ⟨w.heap.size, 0, 0, 0⟩ := by
    rw [← hok.rep.lb]
    exact get_new _ _
  have hok1 : Ok base w0 ι0 (ι.add ⟨w.heap.size, 0, 0, 0⟩) (h.ro 0 []) (w.alloc (.mapIter (some cm) es.length #[] es.length)) (st (st a (some d1) (.m r)) (some it) (.p h.cs.length 0)) ((ca.put (some d1) (.map (some cm))).put (some it) (.pointer (some ⟨w.heap.size, 0, none⟩))) := by
    refine ⟨hok.le.trans hle, hro, by rw [put_defers, put_defers]; exact hok.def_, ?_⟩
    exact put_rel (put_rel (hok.rel.mono hle) _ (by rw [← ec]; exact hxv.mono hle)) _ (.p _ _ _ hbl)
  have hF : ItF h.cs.length r es.length [] base w0 (ι.add ⟨w.heap.size, 0, 0, 0⟩) (w.alloc (.mapIter (some cm) es.length #[] es.length)) :=
    ⟨_, cm, hbl, rfl, pre_get hle.2 hc, hok.rep.base_le, hok.rep.below.size, heap_alloc_new w _⟩
  refine wp_block (wp_loop_rounds (((List.range es.length).filter fun x => !([] : List Nat).contains x).length + 1) ?_)
  have key : ∀ (k : Nat) (seen : List Nat) (ι1 : Pl) (h1 : AH) (w1 : World) (a1 : List AV) (ca1 : Act), Ok base w0 ι0 ι1 h1 w1 a1 ca1 → ItF h.cs.length r es.length seen base w0 ι1 w1 → I seen a1 h1 → seen.Nodup → (∀ j ∈ seen, j < es.length) →
      ((List.range es.length).filter fun x => !seen.contains x).length ≤ k → Code.rounds P c4 (Exit.inBlock id (QL base w0 ι0 Q)) (k + 1) ca1 w1 := by
    intro k
    induction k with
    | zero =>
      intro seen ι1 h1 w1 a1 ca1 hok1 hF1 hI1 hnd hlt hk
      obtain ⟨f1, f2, own', f3⟩ := hI seen a1 h1 hI1
      refine Code.wp_mono ?_ (rng_round e4 hok1 hF1 f3 f2 hd1 hd2 (by omega) (by omega) (by omega) (by omega) (I := I) fun j e hj he => hR seen a1 h1 j e hI1 hj he)
      rintro ex ca2 w2 (⟨rfl, hall, h2, rfl, hok2⟩ | ⟨rfl, j, hj, hjl, _⟩)
      · simp only [Exit.then, Exit.inBlock, if_true]
        exact ⟨ι1, _, h2, hok2, hE seen a1 h2 hI1 hnd hlt hall⟩
      · have := unseen_lt hjl hj
        omega
    | succ k ih =>
      intro seen ι1 h1 w1 a1 ca1 hok1 hF1 hI1 hnd hlt hk
      obtain ⟨f1, f2, own', f3⟩ := hI seen a1 h1 hI1
      refine Code.wp_mono ?_ (rng_round e4 hok1 hF1 f3 f2 hd1 hd2 (by omega) (by omega) (by omega) (by omega) (I := I) fun j e hj he => hR seen a1 h1 j e hI1 hj he)
      rintro ex ca2 w2 (⟨rfl, hall, h2, rfl, hok2⟩ | ⟨rfl, j, hj, hjl, ι2, a2, h2, hok2, hF2, hI2⟩)
      · simp only [Exit.then, Exit.inBlock, if_true]
        exact ⟨ι1, _, h2, hok2, hE seen a1 h2 hI1 hnd hlt hall⟩
      · have := unseen_lt hjl hj
        refine ih (seen ++ [j]) ι2 h2 w2 a2 ca2 hok2 hF2 hI2 ?_ ?_ (by omega)
        · rw [List.nodup_append]
          exact ⟨hnd, by simp, fun x hx y hy => by rw [List.mem_singleton.1 hy]; exact fun e => hj (e ▸ hx)⟩
        · intro i hi
          rcases List.mem_append.1 hi with hi | hi
          · exact hlt i hi
          · rw [List.mem_singleton.1 hi]; exact hjl
  exact key _ [] _ _ _ _ _ hok1 hF h0 List.nodup_nil (by simp) (Nat.le_refl _)
end Go.AL
