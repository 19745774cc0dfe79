/- The walk of the law FnExactTurnedCost, part 2: what each function that it reaches computes. -/
import Derived.Test.YtdcliofmdlhmaaaXFnExactTurnedCosta
namespace Go.Proofs.Ytdcliofmdlhmaaa
open Go.AL
set_option linter.unusedVariables false
set_option linter.unusedSimpArgs false
set_option maxRecDepth 100000
set_option maxHeartbeats 1000000
attribute [local irreducible] AS AI AIL OpR AC CW AWP ALoop LS LI LIL LThen LLoop LBlk LRet Lh AX OpV OpF

theorem makerPlan_ac (n : Int) (vs vo vq : AV) (bm : Nat) (h0 h : AH) (L : List It) (HL : Loq h0 h (.pt bm [.i .i64 n, vs, vo] :: L)) (svs : vs.sc = true) (svq : vq.sc = true) :
    AC Try.prog 69 [.p bm 0, vq] h (fun r h' => ∃ M, (r = .agg [.i .i64 n, vs, vq] ∧ M = .pt bm [.i .i64 n, vs, vq] :: L) ∧ Loq h0 h' M) := by
  refine e69 _ _ fun wf => ?_
  unfold c69
  refine LI_startL HL ?_
  refine W ?_
  refine LS_al rfl fun b1 => ?_
  try (dsimp only [st, setL, AV.cells, List.set_cons_zero, List.set_cons_succ, List.drop_zero, List.drop_succ_cons, List.take_zero, List.take_succ_cons, Nat.zero_add, Nat.add_zero, Nat.reduceAdd, List.cons_append, List.nil_append, List.eraseIdx_cons_zero, List.eraseIdx_cons_succ])
  refine W ?_
  refine RET fun h' HL => ?_
  try dsimp only [oneA]
  exact ⟨_, ⟨rfl, rfl⟩, HL.tail⟩

theorem newMaker_ac (n : Int) (h : AH) : AC Try.prog 64 [.i .i64 n] h (fun r h' => ∃ M, (∃ b, r = .p b 0 ∧ M = [.pt b [.i .i64 n, .ns, .ns]]) ∧ Loq h h' M) := by
  refine e64 _ fun wf => ?_
  unfold c64
  refine LI_start wf ?_
  refine W ?_
  refine LS_bxn rfl rfl fun b1 => ?_
  try (dsimp only [st, setL, AV.cells, List.set_cons_zero, List.set_cons_succ, List.drop_zero, List.drop_succ_cons, List.take_zero, List.take_succ_cons, Nat.zero_add, Nat.add_zero, Nat.reduceAdd, List.cons_append, List.nil_append, List.eraseIdx_cons_zero, List.eraseIdx_cons_succ])
  refine W ?_
  refine RET fun h' HL => ?_
  try dsimp only [oneA]
  exact ⟨_, ⟨b1, rfl, rfl⟩, HL⟩

theorem LIL_rm {P : Program} {h0 : AH} {L : List It} {Q : Exit → List AV → List It → Prop} {a : List AV} {c : IC} (k : Nat) (H : LIL P h0 (L.eraseIdx k) c Q a) : LIL P h0 L c Q a := LIL_sub (List.eraseIdx_sublist L k) H

def mkF (n : Int) (s : List (Int × Int) × Int) (w : Int) : List (Int × Int) × Int := mkS n s.1 s.2 w

theorem mkS_pos {n : Int} {ss : List (Int × Int)} {x y : Int} (h : 0 ≤ x) : mkS n ss x y = (ss ++ [stepM x y], n + ss.length) := by rw [mkS, if_neg (by omega)]

def okS (ss : List (Int × Int)) : Prop := ∀ s ∈ ss, 0 ≤ s.1 ∧ s.1 ≤ 4096 ∧ 0 ≤ s.2 ∧ s.2 ≤ 4096

theorem stepM_bd {x y : Int} (h1 : 0 ≤ x ∧ x ≤ 4096) (h2 : 0 ≤ y ∧ y ≤ 4096) : 0 ≤ (stepM x y).1 ∧ (stepM x y).1 ≤ 4096 ∧ 0 ≤ (stepM x y).2 ∧ (stepM x y).2 ≤ 4096 := by
  unfold stepM
  refine ⟨?_, ?_, ?_, ?_⟩ <;> (dsimp only; split <;> omega)

theorem okS_snoc {ss : List (Int × Int)} {x y : Int} (h : okS ss) (h1 : 0 ≤ x ∧ x ≤ 4096) (h2 : 0 ≤ y ∧ y ≤ 4096) : okS (ss ++ [stepM x y]) := by
  intro s hs
  rcases List.mem_append.1 hs with hs | hs
  · exact h s hs
  · rw [List.mem_singleton.1 hs]; exact stepM_bd h1 h2

theorem okS_mkS {n : Int} {ss : List (Int × Int)} {x y : Int} (h : okS ss) (h1 : x ≤ 4096) (h2 : 0 ≤ y ∧ y ≤ 4096) : okS (mkS n ss x y).1 := by
  unfold mkS
  split
  · exact h
  · exact okS_snoc h ⟨by omega, h1⟩ h2

theorem okS_plan {p : PlanM} (hk : planOk p = true) : okS p.steps := by
  obtain ⟨h1, h2, h3, h4, hf, h6⟩ := planOk_out hk
  intro s hs
  obtain ⟨i, hi⟩ := List.mem_iff_getElem?.1 hs
  have := formedS_get hf hi
  have := (List.getElem?_eq_some_iff.1 hi).1
  omega

def okV (l : List Int) : Prop := ∀ x ∈ l, 0 ≤ x ∧ x ≤ 4096

theorem rep0_ok (n : Nat) : okV (List.replicate n 0) := fun x hx => by rw [(List.mem_replicate.1 hx).2]; omega

/-! ### Plans turned round -/
theorem OpV_s3 {P : Program} {a : List AV} {T e : TypeId} {x hi mx : Operand} {b off len k : Nat} {c : Bool} {m : Int} [i1 : Tsl P T e] [i2 : Tsz P e k] (hx : ev a x = some (.sl b off len c)) (hh : ev a hi = some (.i .i64 m)) (hm : ev a mx = some (.i .i64 m)) (h0 : 0 ≤ m) (h1 : m ≤ len) :
    OpV P (.slice T x none (some hi) (some mx)) a (.sl b off m.toNat true) := by
  unfold OpV
  intro ι ca hr o ho
  obtain ⟨pl, y, cap, hpl, hq, hle, hcl, hxx⟩ := rel_sl (ev_rel hr hx)
  have e1 := rel_i (ev_rel hr hh)
  have e2 := rel_i (ev_rel hr hm)
  have hrun : ∀ w, (Instr.sliceBounds true len cap none (some (ca.eval hi)) (some (ca.eval mx))).run P w = .ok (0, m.toNat, m.toNat) w := fun w => by
    simp [Instr.sliceBounds, e1, e2, run_sliceBound h0 (show m.toNat ≤ cap by omega), run_sliceBound h0 (Nat.le_refl m.toNat)]
  refine ⟨.slice (some (if m.toNat = 0 then y else y.add (0 * k))) (m.toNat - 0) (m.toNat - 0), fun w => ?_, ?_⟩
  · unfold execOp
    simp only [ho, hq, Instr.sliceAt, Sem.run_bind, run_underlying i1.e, Result.andThen_ok, Option.map_none, Instr.slice, hrun, run_sizeOf_sz i2.e, Sem.run_pure, Option.map_some]
    by_cases e : m.toNat = 0 <;> simp [e]
  · refine .sl b off _ true pl _ m.toNat hpl (Nat.le_refl _) (fun _ => rfl) ?_
    by_cases e : m.toNat = 0
    · exact .inl e
    · rw [if_neg e]
      have hc0 : ¬ cap = 0 := by omega
      obtain ⟨e3, e4⟩ := hxx.resolve_left hc0
      refine .inr ⟨by rw [e3, add_none]; simp, ?_⟩
      have := Nat.mul_le_mul_right pl.k (show m.toNat ≤ cap by omega)
      omega

def facO (x : Int) : Nat → List Int → List Int
  | _, [] => []
  | i, w :: l => (if w = x then [(i : Int)] else []) ++ facO x (i + 1) l

def facG (x n : Int) (bel : List Int) (i : Nat) (y : Int) : List Int := if y = x then [bel.getD (n + i).toNat 0] else []

def facT (x n : Int) (bel : List Int) : Nat → List (Int × Int) → List Int
  | _, [] => []
  | i, s :: l => ([s.1, s.2].flatMap (facG x n bel i)) ++ facT x n bel (i + 1) l

def facs (p : PlanM) (x : Int) (bel : List Int) : List Int := facO x 0 p.outs ++ facT x p.n bel 0 p.steps

def turnS (p : PlanM) (k : Nat) (s : List (Int × Int) × List Int) : List (Int × Int) × List Int :=
  (((facs p k s.2).foldl (mkF p.outs.length) (s.1, -1)).1, s.2.set k ((facs p k s.2).foldl (mkF p.outs.length) (s.1, -1)).2)

def turnM (p : PlanM) : Nat → List (Int × Int) × List Int → List (Int × Int) × List Int
  | 0, s => s
  | k + 1, s => turnM p k (turnS p k s)

def turnA (p : PlanM) : List (Int × Int) := (turnM p (p.n + p.steps.length).toNat ([], List.replicate (p.n + p.steps.length).toNat 0)).1

theorem facO_len (x : Int) : ∀ (l : List Int) (i : Nat), (facO x i l).length ≤ l.length
  | [], i => by simp [facO]
  | w :: l, i => by
    have := facO_len x l (i + 1)
    unfold facO
    split <;> simp <;> omega

theorem facG_len (x n : Int) (bel : List Int) (i : Nat) (y : Int) : (facG x n bel i y).length ≤ 1 := by unfold facG; split <;> simp

theorem facT_len (x n : Int) (bel : List Int) : ∀ (l : List (Int × Int)) (i : Nat), (facT x n bel i l).length ≤ 2 * l.length
  | [], i => by simp [facT]
  | s :: l, i => by
    have h1 := facT_len x n bel l (i + 1)
    have h2 := facG_len x n bel i s.1
    have h3 := facG_len x n bel i s.2
    simp only [facT, List.length_append, List.flatMap_cons, List.flatMap_nil, List.length_cons, List.length_nil]
    omega

theorem facO_ok (x : Int) : ∀ (l : List Int) (i : Nat), i + l.length ≤ 4096 → okV (facO x i l)
  | [], i, _ => by intro y hy; simp [facO] at hy
  | w :: l, i, h => by
    simp only [List.length_cons] at h
    have ih := facO_ok x l (i + 1) (by omega)
    intro y hy
    unfold facO at hy
    rcases List.mem_append.1 hy with hy | hy
    · split at hy
      · rw [List.mem_singleton.1 hy]; omega
      · simp at hy
    · exact ih y hy

theorem getD_ok {bel : List Int} (h : okV bel) (j : Nat) : 0 ≤ bel.getD j 0 ∧ bel.getD j 0 ≤ 4096 := by
  simp only [List.getD]
  cases hb : bel[j]? with
  | none => simp
  | some y => exact h y (List.mem_of_getElem? hb)

theorem facG_ok {x n : Int} {bel : List Int} {i : Nat} {y : Int} (h : okV bel) : okV (facG x n bel i y) := by
  intro z hz
  unfold facG at hz
  split at hz
  · rw [List.mem_singleton.1 hz]; exact getD_ok h _
  · simp at hz

theorem facT_ok {x n : Int} {bel : List Int} (h : okV bel) : ∀ (l : List (Int × Int)) (i : Nat), okV (facT x n bel i l)
  | [], i => by intro y hy; simp [facT] at hy
  | s :: l, i => by
    intro y hy
    simp only [facT, List.flatMap_cons, List.flatMap_nil, List.append_nil] at hy
    rcases List.mem_append.1 hy with hy | hy
    · rcases List.mem_append.1 hy with hy | hy
      · exact facG_ok h y hy
      · exact facG_ok h y hy
    · exact facT_ok h l (i + 1) y hy

theorem facs_len {p : PlanM} (hk : planOk p = true) (x : Int) (bel : List Int) : (facs p x bel).length ≤ 86 := by
  obtain ⟨h1, h2, h3, h4, hf, h6⟩ := planOk_out hk
  have h7 := facO_len x p.outs 0
  have h8 := facT_len x p.n bel p.steps 0
  rw [facs, List.length_append]
  omega

theorem facs_ok {p : PlanM} (hk : planOk p = true) {x : Int} {bel : List Int} (h : okV bel) : okV (facs p x bel) := by
  obtain ⟨h1, h2, h3, h4, hf, h6⟩ := planOk_out hk
  intro y hy
  rcases List.mem_append.1 hy with hy | hy
  · exact facO_ok x p.outs 0 (by omega) y hy
  · exact facT_ok h p.steps 0 y hy

/-! Each value of a plan that can be turned is used. -/
theorem facO_nil {x : Int} : ∀ {l : List Int} {i : Nat}, facO x i l = [] → ∀ w ∈ l, w ≠ x
  | [], i, _ => by simp
  | w :: l, i, h => by
    unfold facO at h
    split at h
    · simp at h
    · rename_i e
      intro y hy
      rcases List.mem_cons.1 hy with rfl | hy
      · exact e
      · exact facO_nil (by simpa using h) y hy

theorem facT_nil {x n : Int} {bel : List Int} : ∀ {l : List (Int × Int)} {i : Nat}, facT x n bel i l = [] → ∀ s ∈ l, s.1 ≠ x ∧ s.2 ≠ x
  | [], i, _ => by simp
  | s :: l, i, h => by
    simp only [facT, List.flatMap_cons, List.flatMap_nil, List.append_nil, List.append_eq_nil_iff, facG] at h
    obtain ⟨⟨h1, h2⟩, h3⟩ := h
    intro t ht
    rcases List.mem_cons.1 ht with rfl | ht
    · exact ⟨fun e => by rw [if_pos e] at h1; simp at h1, fun e => by rw [if_pos e] at h2; simp at h2⟩
    · exact facT_nil h3 t ht

theorem bump_at {l : List Int} {j v : Int} (hj : 0 ≤ j) (hv : 0 ≤ v) (h : j ≠ v) : (bump l j).getD v.toNat 0 = l.getD v.toNat 0 := by
  unfold bump
  simp only [List.getD, List.getElem?_set]
  rw [if_neg (by omega)]

theorem bumps_at {v : Int} (hv : 0 ≤ v) : ∀ (us : List Int) (l : List Int), (∀ u ∈ us, 0 ≤ u ∧ u ≠ v) → (us.foldl bump l).getD v.toNat 0 = l.getD v.toNat 0
  | [], l, _ => rfl
  | u :: us, l, h => by
    have h1 := h u (by simp)
    rw [List.foldl_cons, bumps_at hv us _ (fun w hw => h w (by simp [hw])), bump_at h1.1 hv h1.2]

theorem bumpS_at {v : Int} (hv : 0 ≤ v) : ∀ (us : List (Int × Int)) (l : List Int), (∀ u ∈ us, (0 ≤ u.1 ∧ u.1 ≠ v) ∧ (0 ≤ u.2 ∧ u.2 ≠ v)) → (us.foldl (fun l s => bump (bump l s.1) s.2) l).getD v.toNat 0 = l.getD v.toNat 0
  | [], l, _ => rfl
  | u :: us, l, h => by
    have h1 := h u (by simp)
    rw [List.foldl_cons, bumpS_at hv us _ (fun w hw => h w (by simp [hw])), bump_at h1.2.1 hv h1.2.2, bump_at h1.1.1 hv h1.1.2]

theorem facs_ne {p : PlanM} (hk : planOk p = true) (hc : canM p = true) {x : Int} {bel : List Int} (h0 : 0 ≤ x) (h1 : x < p.n + p.steps.length) : facs p x bel ≠ [] := by
  intro e
  rw [facs, List.append_eq_nil_iff] at e
  have hO := facO_nil e.1
  have hT := facT_nil e.2
  have hS := okS_plan hk
  obtain ⟨g1, g2, g3, g4, hf, g6⟩ := planOk_out hk
  have hz : (usesM p).getD x.toNat 0 = 0 := by
    rw [usesM, bumps_at h0, useS, bumpS_at h0]
    · simp only [List.getD, List.getElem?_replicate]
      split <;> rfl
    · intro s hs
      have hs' := List.mem_of_mem_take hs
      have := hS s hs'
      have := hT s hs'
      exact ⟨⟨by omega, this.1⟩, ⟨by omega, this.2⟩⟩
    · intro u hu
      have := of_decide_eq_true (List.all_eq_true.1 g6 u hu)
      exact ⟨this.1, hO u hu⟩
  have hlt : x.toNat < (usesM p).length := by rw [usesM_len]; omega
  have hget := getD_g0 hlt
  rw [hz] at hget
  have hany : ((usesM p).any fun y => y == 0) = true := List.any_eq_true.2 ⟨0, List.mem_of_getElem? hget, rfl⟩
  rw [canM, hany] at hc
  simp at hc

structure FoldI (k : Nat) (s r : List (Int × Int) × Int) : Prop where
  os : okS r.1
  ln : r.1.length ≤ s.1.length + k
  lo : -1 ≤ r.2
  hi : r.2 ≤ 4096

theorem mkF_ok {m : Int} (hm : 0 ≤ m ∧ m ≤ 64) : ∀ (l : List Int) (s : List (Int × Int) × Int), okV l → okS s.1 → -1 ≤ s.2 → s.2 ≤ 4096 → s.1.length + l.length ≤ 4000 → FoldI l.length s (l.foldl (mkF m) s) ∧ (l ≠ [] ∨ 0 ≤ s.2 → 0 ≤ (l.foldl (mkF m) s).2)
  | [], s, _, h1, h2, h3, _ => ⟨⟨h1, by simp, h2, h3⟩, fun h => by rcases h with h | h; exact absurd rfl h; exact h⟩
  | y :: l, s, hv, h1, h2, h3, hl => by
    have hy := hv y (by simp)
    simp only [List.length_cons] at hl
    have e1 : okS (mkF m s y).1 := okS_mkS h1 h3 hy
    have e2 : (mkF m s y).1.length ≤ s.1.length + 1 := by unfold mkF mkS; split <;> simp
    have e3 : 0 ≤ (mkF m s y).2 := by unfold mkF mkS; split <;> simp <;> omega
    have e4 : (mkF m s y).2 ≤ 4096 := by unfold mkF mkS; split <;> simp <;> omega
    obtain ⟨i1, i2⟩ := mkF_ok hm l (mkF m s y) (fun z hz => hv z (by simp [hz])) e1 (by omega) e4 (by omega)
    rw [List.foldl_cons]
    exact ⟨⟨i1.os, by have := i1.ln; simp only [List.length_cons]; omega, i1.lo, i1.hi⟩, fun _ => i2 (.inr e3)⟩

theorem duFactors_ac (p : PlanM) (x : Int) (bel : List Int) (v w : AV) (h : AH) (hR : PlR h v p) (hB : Rd h w bel) (hk : planOk p = true) (hbl : bel.length = (p.n + p.steps.length).toNat) :
    AC Try.prog 140 [v, .i .i64 x, w] h (fun r h' => Own h 1 enI h' r (facs p x bel)) := by
  obtain ⟨vs, vo, rfl, hs, ho⟩ := hR
  obtain ⟨h1, h2, h3, h4, hf, h6⟩ := planOk_out hk
  refine e140 _ _ _ fun wf => ?_
  unfold c140
  refine LI_start wf ?_
  refine W ?_
  refine LS_bxn rfl (sc_cons rfl (sc_cons (rd_sc hs) (sc_cons (rd_sc ho) rfl))) fun b1 => ?_
  try (dsimp only [st, setL, AV.cells, List.set_cons_zero, List.set_cons_succ, List.drop_zero, List.drop_succ_cons, List.take_zero, List.take_succ_cons, Nat.zero_add, Nat.add_zero, Nat.reduceAdd, List.cons_append, List.nil_append, List.eraseIdx_cons_zero, List.eraseIdx_cons_succ])
  refine W ?_
  refine LIL_nl (k := 1) ?_
  refine LIL_ind (fun n a L => ∃ (i : Int) (o : AV) (e : List Int), (∃ r : Nat → AV, a = [r 0, .i .i64 x, w, .p b1 0, r 4, r 5, r 6, o, r 8, r 9, r 10, r 11, r 12, vo, .i .i64 p.outs.length, .i .i64 i, r 16, r 17, r 18, r 19, r 20, r 21, r 22, r 23, r 24, r 25, r 26, r 27, r 28, r 29, r 30, r 31, r 32, r 33, r 34, r 35, r 36, r 37, r 38, r 39, r 40, r 41, r 42, r 43, r 44, r 45, r 46, r 47, r 48, r 49, r 50, r 51, r 52, r 53, r 54, r 55, r 56, r 57, r 58, r 59, r 60, r 61, r 62, r 63, r 64, r 65]) ∧ L = [.sl o 1 (e.flatMap enI), .pt b1 [.i .i64 p.n, vs, vo]] ∧ 0 ≤ i ∧ i + n = p.outs.length ∧ facO x 0 p.outs = e ++ facO x i.toNat (p.outs.drop i.toNat) ∧ e.length ≤ i)
    p.outs.length ⟨0, _, [], exJ rfl, rfl, by omega, by omega, rfl, by simp⟩ ?_
  rintro n a L ⟨i, o, e, ⟨r, rfl⟩, rfl, h0, hn, heq, hel⟩ IH
  refine W ?_
  (first | refine LS_gt rfl ?_ ?_ | refine LS_gf rfl ?_ ?_ | refine LI_cond rfl ?_ ?_) <;> intro hc <;> have hc' := hc <;> try simp only [decide_eq_true_eq, decide_eq_false_iff_not, Bool.not_eq_true', Bool.not_eq_false', Bool.not_eq_true, Bool.not_eq_false, beq_iff_eq, bne_iff_ne, beq_eq_false_iff_ne, bne_eq_false_iff_eq, Int.not_lt, Int.not_le, ge_iff_le, gt_iff_lt, not_and, ne_eq, Decidable.not_not] at hc'
  all_goals (try (dsimp only [st, setL, AV.cells, List.set_cons_zero, List.set_cons_succ, List.drop_zero, List.drop_succ_cons, List.take_zero, List.take_succ_cons, Nat.zero_add, Nat.add_zero, Nat.reduceAdd, List.cons_append, List.nil_append, List.eraseIdx_cons_zero, List.eraseIdx_cons_succ]))
  all_goals (refine W ?_)
  · obtain ⟨y, hy, hym, hd⟩ := drop_at (l := p.outs) h0 hc'
    have hii : ((i.toNat : Nat) : Int) = i := by omega
    rw [hd, facO, hii] at heq
    refine LS_ix (fun h' HL => ho.le HL.le) enI1 hy h0 rfl rfl fun q1 o1 hrow1 => ?_
    try (dsimp only [st, setL, AV.cells, List.set_cons_zero, List.set_cons_succ, List.drop_zero, List.drop_succ_cons, List.take_zero, List.take_succ_cons, Nat.zero_add, Nat.add_zero, Nat.reduceAdd, List.cons_append, List.nil_append, List.eraseIdx_cons_zero, List.eraseIdx_cons_succ])
    refine W ?_
    (first | refine LS_gt rfl ?_ ?_ | refine LS_gf rfl ?_ ?_ | refine LI_cond rfl ?_ ?_) <;> intro hc <;> have hc' := hc <;> try simp only [decide_eq_true_eq, decide_eq_false_iff_not, Bool.not_eq_true', Bool.not_eq_false', Bool.not_eq_true, Bool.not_eq_false, beq_iff_eq, bne_iff_ne, beq_eq_false_iff_ne, bne_eq_false_iff_eq, Int.not_lt, Int.not_le, ge_iff_le, gt_iff_lt, not_and, ne_eq, Decidable.not_not] at hc'
    all_goals (try (dsimp only [st, setL, AV.cells, List.set_cons_zero, List.set_cons_succ, List.drop_zero, List.drop_succ_cons, List.take_zero, List.take_succ_cons, Nat.zero_add, Nat.add_zero, Nat.reduceAdd, List.cons_append, List.nil_append, List.eraseIdx_cons_zero, List.eraseIdx_cons_succ]))
    all_goals (refine W ?_)
    · rw [if_pos hc', ← List.append_assoc] at heq
      refine LS_lt [i] rfl rfl (by decide) rfl rfl rfl rfl enI1 rfl rfl fun w1 lw1 sw1 => ?_
      try (dsimp only [st, setL, AV.cells, List.set_cons_zero, List.set_cons_succ, List.drop_zero, List.drop_succ_cons, List.take_zero, List.take_succ_cons, Nat.zero_add, Nat.add_zero, Nat.reduceAdd, List.cons_append, List.nil_append, List.eraseIdx_cons_zero, List.eraseIdx_cons_succ])
      refine W ?_
      refine LS_ap 1 rfl (fun h' HL => HL.rdI 0 rfl enI1 (by decide)) enI1 (by decide) (by simp) (by simp; omega) (by simp; omega) rfl rfl rfl fun w2 lw2 sw2 => ?_
      try (dsimp only [st, setL, AV.cells, List.set_cons_zero, List.set_cons_succ, List.drop_zero, List.drop_succ_cons, List.take_zero, List.take_succ_cons, Nat.zero_add, Nat.add_zero, Nat.reduceAdd, List.cons_append, List.nil_append, List.eraseIdx_cons_zero, List.eraseIdx_cons_succ])
      refine W ?_
      refine LIL_drop 1 ?_
      refine IH (n - 1) _ _ (by omega) ⟨i + 1, _, _, exJ rfl, rfl, by omega, by omega, by rw [toNat_succ h0]; exact heq, by simp; omega⟩
    · rw [if_neg hc', List.nil_append] at heq
      refine IH (n - 1) _ _ (by omega) ⟨i + 1, _, _, exJ rfl, rfl, by omega, by omega, by rw [toNat_succ h0]; exact heq, by omega⟩
  · rw [List.drop_eq_nil_of_le (by omega), facO, List.append_nil] at heq
    clear IH
    refine W ?_
    refine LIL_ind (fun n a L => ∃ (i : Int) (o : AV) (e : List Int), (∃ r : Nat → AV, a = [r 0, .i .i64 x, w, .p b1 0, r 4, r 5, r 6, o, r 8, r 9, r 10, r 11, r 12, r 13, r 14, r 15, r 16, r 17, r 18, r 19, r 20, r 21, r 22, r 23, r 24, r 25, r 26, r 27, r 28, vs, .i .i64 p.steps.length, .i .i64 i, r 32, r 33, r 34, r 35, r 36, r 37, r 38, r 39, r 40, r 41, r 42, r 43, r 44, r 45, r 46, r 47, r 48, r 49, r 50, r 51, r 52, r 53, r 54, r 55, r 56, r 57, r 58, r 59, r 60, r 61, r 62, r 63, r 64, r 65]) ∧ L = [.sl o 1 (e.flatMap enI), .pt b1 [.i .i64 p.n, vs, vo]] ∧ 0 ≤ i ∧ i + n = p.steps.length ∧ facs p x bel = e ++ facT x p.n bel i.toNat (p.steps.drop i.toNat) ∧ e.length ≤ 6 + 2 * i)
      p.steps.length ⟨0, o, e, exJ rfl, rfl, by omega, by omega, by rw [facs, heq]; rfl, by omega⟩ ?_
    rintro n a L ⟨i, o, e, ⟨r, rfl⟩, rfl, h0, hn, heq, hel⟩ IH
    refine W ?_
    (first | refine LS_gt rfl ?_ ?_ | refine LS_gf rfl ?_ ?_ | refine LI_cond rfl ?_ ?_) <;> intro hc <;> have hc' := hc <;> try simp only [decide_eq_true_eq, decide_eq_false_iff_not, Bool.not_eq_true', Bool.not_eq_false', Bool.not_eq_true, Bool.not_eq_false, beq_iff_eq, bne_iff_ne, beq_eq_false_iff_ne, bne_eq_false_iff_eq, Int.not_lt, Int.not_le, ge_iff_le, gt_iff_lt, not_and, ne_eq, Decidable.not_not] at hc'
    all_goals (try (dsimp only [st, setL, AV.cells, List.set_cons_zero, List.set_cons_succ, List.drop_zero, List.drop_succ_cons, List.take_zero, List.take_succ_cons, Nat.zero_add, Nat.add_zero, Nat.reduceAdd, List.cons_append, List.nil_append, List.eraseIdx_cons_zero, List.eraseIdx_cons_succ]))
    all_goals (refine W ?_)
    · obtain ⟨s, hs', hsm, hd⟩ := drop_at (l := p.steps) h0 hc'
      have hii : ((i.toNat : Nat) : Int) = i := by omega
      have hbv := getD_g0 (l := bel) (i := (p.n + i).toNat) (by omega)
      simp only [hd, facT, List.flatMap_cons, List.flatMap_nil, List.append_nil, facG, hii] at heq
      generalize bel.getD (p.n + i).toNat 0 = bv at *
      refine LS_ix (fun h' HL => hs.le HL.le) enStep2 hs' h0 rfl rfl fun q1 o1 hrow1 => ?_
      try (dsimp only [st, setL, AV.cells, List.set_cons_zero, List.set_cons_succ, List.drop_zero, List.drop_succ_cons, List.take_zero, List.take_succ_cons, Nat.zero_add, Nat.add_zero, Nat.reduceAdd, List.cons_append, List.nil_append, List.eraseIdx_cons_zero, List.eraseIdx_cons_succ])
      refine W ?_
      refine LS_al rfl fun b3 => ?_
      try (dsimp only [st, setL, AV.cells, List.set_cons_zero, List.set_cons_succ, List.drop_zero, List.drop_succ_cons, List.take_zero, List.take_succ_cons, Nat.zero_add, Nat.add_zero, Nat.reduceAdd, List.cons_append, List.nil_append, List.eraseIdx_cons_zero, List.eraseIdx_cons_succ])
      refine W ?_
      refine LI_post (fun a L => ∃ (o' : AV), (∃ r : Nat → AV, a = [r 0, .i .i64 x, w, .p b1 0, r 4, r 5, r 6, o', r 8, r 9, .i .i64 i, .p b3 0, r 12, r 13, r 14, r 15, r 16, r 17, r 18, r 19, r 20, r 21, r 22, r 23, r 24, r 25, r 26, r 27, r 28, vs, .i .i64 p.steps.length, .i .i64 i, r 32, r 33, r 34, r 35, r 36, r 37, r 38, r 39, r 40, r 41, r 42, r 43, r 44, r 45, r 46, r 47, r 48, r 49, r 50, r 51, r 52, r 53, r 54, r 55, r 56, r 57, r 58, r 59, r 60, r 61, r 62, r 63, r 64, r 65]) ∧ ∀ h', Loq h h' L → Loq h h' [.pt b3 [.i .i64 s.1, .i .i64 s.2], .sl o' 1 ((e ++ (if s.1 = x then [bv] else [])).flatMap enI), .pt b1 [.i .i64 p.n, vs, vo]]) ?_ ?_
      · (first | refine LS_gt rfl ?_ ?_ | refine LS_gf rfl ?_ ?_ | refine LI_cond rfl ?_ ?_) <;> intro hc <;> have hc' := hc <;> try simp only [decide_eq_true_eq, decide_eq_false_iff_not, Bool.not_eq_true', Bool.not_eq_false', Bool.not_eq_true, Bool.not_eq_false, beq_iff_eq, bne_iff_ne, beq_eq_false_iff_ne, bne_eq_false_iff_eq, Int.not_lt, Int.not_le, ge_iff_le, gt_iff_lt, not_and, ne_eq, Decidable.not_not] at hc'
        all_goals (try (dsimp only [st, setL, AV.cells, List.set_cons_zero, List.set_cons_succ, List.drop_zero, List.drop_succ_cons, List.take_zero, List.take_succ_cons, Nat.zero_add, Nat.add_zero, Nat.reduceAdd, List.cons_append, List.nil_append, List.eraseIdx_cons_zero, List.eraseIdx_cons_succ]))
        all_goals (refine W ?_)
        · refine LS_ix (fun h' HL => hB.le HL.le) enI1 hbv (by omega) rfl rfl fun q2 o2 hrow2 => ?_
          try (dsimp only [st, setL, AV.cells, List.set_cons_zero, List.set_cons_succ, List.drop_zero, List.drop_succ_cons, List.take_zero, List.take_succ_cons, Nat.zero_add, Nat.add_zero, Nat.reduceAdd, List.cons_append, List.nil_append, List.eraseIdx_cons_zero, List.eraseIdx_cons_succ])
          refine W ?_
          refine LS_lt [bv] rfl rfl (by decide) rfl rfl rfl rfl enI1 rfl rfl fun w1 lw1 sw1 => ?_
          try (dsimp only [st, setL, AV.cells, List.set_cons_zero, List.set_cons_succ, List.drop_zero, List.drop_succ_cons, List.take_zero, List.take_succ_cons, Nat.zero_add, Nat.add_zero, Nat.reduceAdd, List.cons_append, List.nil_append, List.eraseIdx_cons_zero, List.eraseIdx_cons_succ])
          refine W ?_
          refine LS_ap 2 rfl (fun h' HL => HL.rdI 0 rfl enI1 (by decide)) enI1 (by decide) (by simp) (by simp; omega) (by simp; omega) rfl rfl rfl fun w2 lw2 sw2 => ?_
          try (dsimp only [st, setL, AV.cells, List.set_cons_zero, List.set_cons_succ, List.drop_zero, List.drop_succ_cons, List.take_zero, List.take_succ_cons, Nat.zero_add, Nat.add_zero, Nat.reduceAdd, List.cons_append, List.nil_append, List.eraseIdx_cons_zero, List.eraseIdx_cons_succ])
          refine W ?_
          exact ⟨rfl, _, exJ rfl, fun h' HL => by rw [if_pos hc']; exact HL.sel [1, 2, 3] (by decide)⟩
        · exact ⟨rfl, _, exJ rfl, fun h' HL => by rw [if_neg hc', List.append_nil]; exact HL⟩
      · rintro _ L ⟨o', ⟨r, rfl⟩, hL⟩
        have hl2 : (e ++ (if s.1 = x then [bv] else [])).length ≤ 6 + 2 * i + 1 := by split <;> simp <;> omega
        rw [List.append_assoc, ← List.append_assoc e] at heq
        generalize e ++ (if s.1 = x then [bv] else []) = e' at *
        refine LThen_n ?_
        refine W ?_
        refine LS_conv hL ?_
        refine W ?_
        (first | refine LS_gt rfl ?_ ?_ | refine LS_gf rfl ?_ ?_ | refine LI_cond rfl ?_ ?_) <;> intro hc <;> have hc' := hc <;> try simp only [decide_eq_true_eq, decide_eq_false_iff_not, Bool.not_eq_true', Bool.not_eq_false', Bool.not_eq_true, Bool.not_eq_false, beq_iff_eq, bne_iff_ne, beq_eq_false_iff_ne, bne_eq_false_iff_eq, Int.not_lt, Int.not_le, ge_iff_le, gt_iff_lt, not_and, ne_eq, Decidable.not_not] at hc'
        all_goals (try (dsimp only [st, setL, AV.cells, List.set_cons_zero, List.set_cons_succ, List.drop_zero, List.drop_succ_cons, List.take_zero, List.take_succ_cons, Nat.zero_add, Nat.add_zero, Nat.reduceAdd, List.cons_append, List.nil_append, List.eraseIdx_cons_zero, List.eraseIdx_cons_succ]))
        all_goals (refine W ?_)
        · rw [if_pos hc', ← List.append_assoc] at heq
          refine LS_ix (fun h' HL => hB.le HL.le) enI1 hbv (by omega) rfl rfl fun q2 o2 hrow2 => ?_
          try (dsimp only [st, setL, AV.cells, List.set_cons_zero, List.set_cons_succ, List.drop_zero, List.drop_succ_cons, List.take_zero, List.take_succ_cons, Nat.zero_add, Nat.add_zero, Nat.reduceAdd, List.cons_append, List.nil_append, List.eraseIdx_cons_zero, List.eraseIdx_cons_succ])
          refine W ?_
          refine LS_lt [bv] rfl rfl (by decide) rfl rfl rfl rfl enI1 rfl rfl fun w1 lw1 sw1 => ?_
          try (dsimp only [st, setL, AV.cells, List.set_cons_zero, List.set_cons_succ, List.drop_zero, List.drop_succ_cons, List.take_zero, List.take_succ_cons, Nat.zero_add, Nat.add_zero, Nat.reduceAdd, List.cons_append, List.nil_append, List.eraseIdx_cons_zero, List.eraseIdx_cons_succ])
          refine W ?_
          refine LS_ap 2 rfl (fun h' HL => HL.rdI 0 rfl enI1 (by decide)) enI1 (by decide) (by simp) (by simp; omega) (by simp; omega) rfl rfl rfl fun w2 lw2 sw2 => ?_
          try (dsimp only [st, setL, AV.cells, List.set_cons_zero, List.set_cons_succ, List.drop_zero, List.drop_succ_cons, List.take_zero, List.take_succ_cons, Nat.zero_add, Nat.add_zero, Nat.reduceAdd, List.cons_append, List.nil_append, List.eraseIdx_cons_zero, List.eraseIdx_cons_succ])
          refine W ?_
          refine LIL_drop 2 ?_
          refine IH (n - 1) _ _ (by omega) ⟨i + 1, _, _, exJ rfl, rfl, by omega, by omega, by rw [toNat_succ h0]; exact heq, by simp; omega⟩
        · rw [if_neg hc', List.nil_append] at heq
          refine LIL_drop 1 ?_
          refine IH (n - 1) _ _ (by omega) ⟨i + 1, _, _, exJ rfl, rfl, by omega, by omega, by rw [toNat_succ h0]; exact heq, by omega⟩
    · rw [List.drop_eq_nil_of_le (by omega), facT, List.append_nil] at heq
      refine RET fun h' HL => ?_
      try dsimp only [oneA]
      rw [heq]
      exact HL.ownI 0 rfl enI1 (by decide)

theorem duTurn_ac (p : PlanM) (v : AV) (h : AH) (hR : PlR h v p) (hk : planOk p = true) (hcan : canM p = true) :
    AC Try.prog 97 [v] h (fun r h' => (∃ u wo, r = .agg [.i .i64 p.outs.length, u, wo] ∧ lenA u = some (turnA p).length) ∧ h.le h') := by
  have hR0 := hR
  obtain ⟨vs, vo, rfl, hs, ho⟩ := hR
  obtain ⟨h1, h2, h3, h4, hf, h6⟩ := planOk_out hk
  refine e97 _ fun wf => ?_
  unfold c97
  refine LI_start wf ?_
  refine W ?_
  refine LS_bxn rfl (sc_cons rfl (sc_cons (rd_sc hs) (sc_cons (rd_sc ho) rfl))) fun b1 => ?_
  try (dsimp only [st, setL, AV.cells, List.set_cons_zero, List.set_cons_succ, List.drop_zero, List.drop_succ_cons, List.take_zero, List.take_succ_cons, Nat.zero_add, Nat.add_zero, Nat.reduceAdd, List.cons_append, List.nil_append, List.eraseIdx_cons_zero, List.eraseIdx_cons_succ])
  refine W ?_
  refine LS_al rfl fun b2 => ?_
  try (dsimp only [st, setL, AV.cells, List.set_cons_zero, List.set_cons_succ, List.drop_zero, List.drop_succ_cons, List.take_zero, List.take_succ_cons, Nat.zero_add, Nat.add_zero, Nat.reduceAdd, List.cons_append, List.nil_append, List.eraseIdx_cons_zero, List.eraseIdx_cons_succ])
  refine W ?_
  refine LS_al rfl fun b3 => ?_
  try (dsimp only [st, setL, AV.cells, List.set_cons_zero, List.set_cons_succ, List.drop_zero, List.drop_succ_cons, List.take_zero, List.take_succ_cons, Nat.zero_add, Nat.add_zero, Nat.reduceAdd, List.cons_append, List.nil_append, List.eraseIdx_cons_zero, List.eraseIdx_cons_succ])
  refine W ?_
  refine LS_mk 0 rfl rfl rfl rfl rfl (by omega) (by omega) (by omega) enI1 rfl fun b4 => ?_
  try (dsimp only [st, setL, AV.cells, List.set_cons_zero, List.set_cons_succ, List.drop_zero, List.drop_succ_cons, List.take_zero, List.take_succ_cons, Nat.zero_add, Nat.add_zero, Nat.reduceAdd, List.cons_append, List.nil_append, List.eraseIdx_cons_zero, List.eraseIdx_cons_succ])
  refine W ?_
  refine LS_ln (n := (p.n + p.steps.length).toNat) rfl rfl ?_
  try (dsimp only [st, setL, AV.cells, List.set_cons_zero, List.set_cons_succ, List.drop_zero, List.drop_succ_cons, List.take_zero, List.take_succ_cons, Nat.zero_add, Nat.add_zero, Nat.reduceAdd, List.cons_append, List.nil_append, List.eraseIdx_cons_zero, List.eraseIdx_cons_succ])
  refine W ?_
  refine LIL_nl (k := 2) ?_
  refine LIL_rot 2 rfl ?_
  try (dsimp only [st, setL, AV.cells, List.set_cons_zero, List.set_cons_succ, List.drop_zero, List.drop_succ_cons, List.take_zero, List.take_succ_cons, Nat.zero_add, Nat.add_zero, Nat.reduceAdd, List.cons_append, List.nil_append, List.eraseIdx_cons_zero, List.eraseIdx_cons_succ])
  refine LIL_ind (fun n a L => ∃ (x : Int) (u uo : AV) (ss : List (Int × Int)) (bel : List Int), (∃ r : Nat → AV, a = [r 0, .p b1 0, .p b2 0, .p b3 0, .sl b4 0 (p.n + p.steps.length).toNat true, .i .i64 x, r 6, r 7, r 8, r 9, r 10, r 11, r 12, r 13, r 14, r 15, r 16, r 17, r 18, r 19, r 20, r 21, r 22, r 23, r 24, r 25, r 26, r 27, r 28, r 29, r 30, r 31, r 32, r 33, r 34, r 35, r 36, r 37, r 38, r 39, r 40, r 41, r 42, r 43, r 44, r 45, r 46, r 47, r 48, r 49, r 50, r 51, r 52, r 53, r 54, r 55, r 56, r 57, r 58, r 59, r 60]) ∧ L = [.pt b3 [.i .i64 p.outs.length, u, uo], .sl u 2 (ss.flatMap enStep), .sl (.sl b4 0 (p.n + p.steps.length).toNat true) 1 (bel.flatMap enI), .pt b2 [.i .i64 0, .ns, .ns], .pt b1 [.i .i64 p.n, vs, vo]] ∧
      -1 ≤ x ∧ (n : Int) = x + 1 ∧ x < p.n + p.steps.length ∧ turnA p = (turnM p n (ss, bel)).1 ∧ (ss.length : Int) ≤ 86 * (p.n + p.steps.length - 1 - x) ∧ okS ss ∧ okV bel ∧ bel.length = (p.n + p.steps.length).toNat ∧ lenA u = some ss.length ∧ u.sc = true ∧ uo.sc = true)
    (p.n + p.steps.length).toNat ⟨((p.n + p.steps.length).toNat : Int) - 1, .ns, .ns, [], List.replicate (p.n + p.steps.length).toNat 0, exJ rfl, rfl, by omega, by omega, by omega, rfl, by simp; omega, (by intro s hs; cases hs), rep0_ok _, by simp, rfl, rfl, rfl⟩ ?_
  rintro n a L ⟨x, u, uo, ss, bel, ⟨r, rfl⟩, rfl, hx0, hn, hx1, heq, hsl, hss, hbv, hbl, lu, su, suo⟩ IH
  refine W ?_
  (first | refine LS_gt rfl ?_ ?_ | refine LS_gf rfl ?_ ?_ | refine LI_cond rfl ?_ ?_) <;> intro hc <;> have hc' := hc <;> try simp only [decide_eq_true_eq, decide_eq_false_iff_not, Bool.not_eq_true', Bool.not_eq_false', Bool.not_eq_true, Bool.not_eq_false, beq_iff_eq, bne_iff_ne, beq_eq_false_iff_ne, bne_eq_false_iff_eq, Int.not_lt, Int.not_le, ge_iff_le, gt_iff_lt, not_and, ne_eq, Decidable.not_not] at hc'
  all_goals (try (dsimp only [st, setL, AV.cells, List.set_cons_zero, List.set_cons_succ, List.drop_zero, List.drop_succ_cons, List.take_zero, List.take_succ_cons, Nat.zero_add, Nat.add_zero, Nat.reduceAdd, List.cons_append, List.nil_append, List.eraseIdx_cons_zero, List.eraseIdx_cons_succ]))
  all_goals (refine W ?_)
  · obtain ⟨k, rfl⟩ : ∃ k, n = k + 1 := ⟨n - 1, by omega⟩
    have hkx : ((k : Nat) : Int) = x := by omega
    have hxg := hc'
    have hne := facs_ne (bel := bel) hk hcan hc' hx1
    have hfl := facs_len hk x bel
    have hfo := facs_ok hk (x := x) hbv
    have hF := mkF_ok (m := p.outs.length) (by omega) (facs p x bel) (ss, -1) hfo hss (by show (-1 : Int) ≤ -1; omega) (by show (-1 : Int) ≤ 4096; omega) (by show ss.length + _ ≤ 4000; omega)
    rw [turnM, turnS] at heq
    simp only [hkx] at heq
    refine LS_co (fun h' HL wf => duFactors_ac p x bel _ _ h' (hR0.le HL.le) (HL.rdI 2 rfl enI1 (by decide)) hk hbl) enI1 rfl rfl fun w6 lw6 sw6 => ?_
    try (dsimp only [st, setL, AV.cells, List.set_cons_zero, List.set_cons_succ, List.drop_zero, List.drop_succ_cons, List.take_zero, List.take_succ_cons, Nat.zero_add, Nat.add_zero, Nat.reduceAdd, List.cons_append, List.nil_append, List.eraseIdx_cons_zero, List.eraseIdx_cons_succ])
    refine W ?_
    generalize hfs : facs p x bel = fs at *
    cases fs with
    | nil => exact absurd rfl hne
    | cons y0 D =>
      have hy0 := hfo y0 (by simp)
      refine LS_ix (n := 0) (y := y0) (fun h' HL => HL.rdI 0 rfl enI1 (by decide)) enI1 rfl (by decide) rfl rfl fun q0 o0 hrow0 => ?_
      try (dsimp only [st, setL, AV.cells, List.set_cons_zero, List.set_cons_succ, List.drop_zero, List.drop_succ_cons, List.take_zero, List.take_succ_cons, Nat.zero_add, Nat.add_zero, Nat.reduceAdd, List.cons_append, List.nil_append, List.eraseIdx_cons_zero, List.eraseIdx_cons_succ])
      refine W ?_
      refine LS_sz (u := (y0 :: D).length) (q := 1) (fun h' HL => HL.rdI 0 rfl enI1 (by decide)) enI1 (.inr ⟨_, _, _, rfl, rfl, by omega, rfl⟩) (.inl ⟨rfl, rfl⟩) (by simp) (by omega) rfl fun w7 hw7 sw7 rw7 => ?_
      try (dsimp only [st, setL, AV.cells, List.set_cons_zero, List.set_cons_succ, List.drop_zero, List.drop_succ_cons, List.take_zero, List.take_succ_cons, Nat.zero_add, Nat.add_zero, Nat.reduceAdd, List.cons_append, List.nil_append, List.eraseIdx_cons_zero, List.eraseIdx_cons_succ])
      refine W ?_
      simp only [List.take_length, List.drop_succ_cons, List.drop_zero] at rw7
      simp only [List.length_cons, Nat.add_sub_cancel] at hw7
      have hF0 : (y0 :: D).foldl (mkF p.outs.length) (ss, -1) = D.foldl (mkF p.outs.length) (ss, y0) := rfl
      have hDv : okV D := fun z hz => hfo z (by simp [hz])
      simp only [List.length_cons] at hfl
      generalize hTT : (y0 :: D).foldl (mkF p.outs.length) (ss, -1) = TT at *
      refine W ?_
      refine LIL_ind (fun n a L => ∃ (i z : Int) (u uo : AV) (s2 : List (Int × Int)), (∃ r : Nat → AV, a = [r 0, .p b1 0, .p b2 0, .p b3 0, .sl b4 0 (p.n + p.steps.length).toNat true, .i .i64 x, r 6, .i .i64 z, r 8, r 9, r 10, r 11, r 12, r 13, r 14, r 15, r 16, r 17, r 18, r 19, r 20, r 21, r 22, r 23, r 24, r 25, r 26, r 27, r 28, r 29, r 30, r 31, r 32, r 33, r 34, r 35, w7, .i .i64 D.length, .i .i64 i, r 39, r 40, r 41, r 42, r 43, r 44, r 45, r 46, r 47, r 48, r 49, r 50, r 51, r 52, r 53, r 54, r 55, r 56, r 57, r 58, r 59, r 60]) ∧ L = [.sl w6 1 ((y0 :: D).flatMap enI), .pt b3 [.i .i64 p.outs.length, u, uo], .sl u 2 (s2.flatMap enStep), .sl (.sl b4 0 (p.n + p.steps.length).toNat true) 1 (bel.flatMap enI), .pt b2 [.i .i64 0, .ns, .ns], .pt b1 [.i .i64 p.n, vs, vo]] ∧
          0 ≤ i ∧ i + n = D.length ∧ TT = (D.drop i.toNat).foldl (mkF p.outs.length) (s2, z) ∧ (s2.length : Int) = ss.length + i ∧ okS s2 ∧ 0 ≤ z ∧ z ≤ 4096 ∧ lenA u = some s2.length ∧ u.sc = true ∧ uo.sc = true)
        D.length ⟨0, y0, u, uo, ss, exJ rfl, rfl, by omega, by omega, hF0, by omega, hss, hy0.1, hy0.2, lu, su, suo⟩ ?_
      rintro n a L ⟨i, z, u, uo, s2, ⟨r, rfl⟩, rfl, h0, hn2, heq2, hs2l, hs2, hz0, hz1, lu, su, suo⟩ IH2
      refine W ?_
      (first | refine LS_gt rfl ?_ ?_ | refine LS_gf rfl ?_ ?_ | refine LI_cond rfl ?_ ?_) <;> intro hc <;> have hc' := hc <;> try simp only [decide_eq_true_eq, decide_eq_false_iff_not, Bool.not_eq_true', Bool.not_eq_false', Bool.not_eq_true, Bool.not_eq_false, beq_iff_eq, bne_iff_ne, beq_eq_false_iff_ne, bne_eq_false_iff_eq, Int.not_lt, Int.not_le, ge_iff_le, gt_iff_lt, not_and, ne_eq, Decidable.not_not] at hc'
      all_goals (try (dsimp only [st, setL, AV.cells, List.set_cons_zero, List.set_cons_succ, List.drop_zero, List.drop_succ_cons, List.take_zero, List.take_succ_cons, Nat.zero_add, Nat.add_zero, Nat.reduceAdd, List.cons_append, List.nil_append, List.eraseIdx_cons_zero, List.eraseIdx_cons_succ]))
      all_goals (refine W ?_)
      · obtain ⟨y, hy, hym, hd⟩ := drop_at (l := D) h0 hc'
        have hyb := hDv y hym
        rw [hd, List.foldl_cons, mkF, mkS_pos hz0] at heq2
        refine LS_ix (fun h' HL => rw7 h' (HL.rdI 0 rfl enI1 (by decide))) enI1 hy h0 rfl rfl fun q1 o1 hrow1 => ?_
        try (dsimp only [st, setL, AV.cells, List.set_cons_zero, List.set_cons_succ, List.drop_zero, List.drop_succ_cons, List.take_zero, List.take_succ_cons, Nat.zero_add, Nat.add_zero, Nat.reduceAdd, List.cons_append, List.nil_append, List.eraseIdx_cons_zero, List.eraseIdx_cons_succ])
        refine W ?_
        refine LS_c1 (fun h' HL wf => meTimes_ac p.outs.length s2 z y u uo h' (HL.rdI 2 rfl enStep2 (by decide)) suo (by omega) (by omega) (by omega)) rfl rfl ?_
        try (dsimp only [st, setL, AV.cells, List.set_cons_zero, List.set_cons_succ, List.drop_zero, List.drop_succ_cons, List.take_zero, List.take_succ_cons, Nat.zero_add, Nat.add_zero, Nat.reduceAdd, List.cons_append, List.nil_append, List.eraseIdx_cons_zero, List.eraseIdx_cons_succ])
        refine W ?_
        rintro _ _ ⟨w, rfl, lw, sw, rfl⟩
        try (dsimp only [st, setL, AV.cells, List.set_cons_zero, List.set_cons_succ, List.drop_zero, List.drop_succ_cons, List.take_zero, List.take_succ_cons, Nat.zero_add, Nat.add_zero, Nat.reduceAdd, List.cons_append, List.nil_append, List.eraseIdx_cons_zero, List.eraseIdx_cons_succ])
        refine W ?_
        refine LIL_conv (L' := [.sl w6 1 ((y0 :: D).flatMap enI), .pt b3 [.i .i64 p.outs.length, w, .ns], .sl w 2 ((s2 ++ [stepM z y]).flatMap enStep), .sl (.sl b4 0 (p.n + p.steps.length).toNat true) 1 (bel.flatMap enI), .pt b2 [.i .i64 0, .ns, .ns], .pt b1 [.i .i64 p.n, vs, vo]]) (fun h' HL => HL.sel [1, 2, 0, 4, 5, 6] (by decide)) ?_
        refine IH2 (n - 1) _ _ (by omega) ⟨i + 1, _, _, _, _, exJ rfl, rfl, by omega, by omega, by rw [toNat_succ h0]; exact heq2, by simp; omega, okS_snoc hs2 ⟨hz0, hz1⟩ hyb, by omega, by omega, lw, sw, rfl⟩
      · rw [List.drop_eq_nil_of_le (by omega), List.foldl_nil] at heq2
        rw [heq2] at heq
        refine LS_is (j := x) hxg (by omega) rfl rfl ?_
        try (dsimp only [st, setL, AV.cells, List.set_cons_zero, List.set_cons_succ, List.drop_zero, List.drop_succ_cons, List.take_zero, List.take_succ_cons, Nat.zero_add, Nat.add_zero, Nat.reduceAdd, List.cons_append, List.nil_append, List.eraseIdx_cons_zero, List.eraseIdx_cons_succ])
        refine W ?_
        refine LS_ss z 3 k rfl (by omega) (by omega) rfl enI1 (by decide) rfl rfl rfl ?_
        try (dsimp only [st, setL, AV.cells, List.set_cons_zero, List.set_cons_succ, List.drop_zero, List.drop_succ_cons, List.take_zero, List.take_succ_cons, Nat.zero_add, Nat.add_zero, Nat.reduceAdd, List.cons_append, List.nil_append, List.eraseIdx_cons_zero, List.eraseIdx_cons_succ])
        refine W ?_
        refine LIL_drop 1 ?_
        refine IH k _ _ (by omega) ⟨x - 1, u, uo, s2, bel.set k z, exJ rfl, rfl, by omega, by omega, by omega, heq, by omega, hs2, ?_, by simp [hbl], lu, su, suo⟩
        intro y hy
        rcases List.mem_or_eq_of_mem_set hy with hy | rfl
        · exact hbv y hy
        · exact ⟨hz0, hz1⟩
  · obtain rfl : n = 0 := by omega
    rw [turnM] at heq
    refine LS_sz (u := p.n.toNat) (q := 0) (fun h' HL => HL.rdI 2 rfl enI1 (by decide)) enI1 (.inl ⟨rfl, rfl⟩) (.inr ⟨_, _, _, rfl, rfl, by omega, rfl⟩) (by omega) (by omega) rfl fun w7 hw7 sw7 rw7 => ?_
    try (dsimp only [st, setL, AV.cells, List.set_cons_zero, List.set_cons_succ, List.drop_zero, List.drop_succ_cons, List.take_zero, List.take_succ_cons, Nat.zero_add, Nat.add_zero, Nat.reduceAdd, List.cons_append, List.nil_append, List.eraseIdx_cons_zero, List.eraseIdx_cons_succ])
    refine W ?_
    refine LS_co (fun h' HL wf => l1Own_ac _ w7 h' (rw7 h' (HL.rdI 2 rfl enI1 (by decide))) (by simp; omega)) enI1 rfl rfl fun w8 hw8 sw8 => ?_
    try (dsimp only [st, setL, AV.cells, List.set_cons_zero, List.set_cons_succ, List.drop_zero, List.drop_succ_cons, List.take_zero, List.take_succ_cons, Nat.zero_add, Nat.add_zero, Nat.reduceAdd, List.cons_append, List.nil_append, List.eraseIdx_cons_zero, List.eraseIdx_cons_succ])
    refine W ?_
    refine RET fun h' HL => ?_
    try dsimp only [oneA]
    exact ⟨⟨u, w8, rfl, by rw [heq]; exact lu⟩, HL.le⟩

theorem turned_ac (p : PlanM) (b : Nat) (vs vo : AV) (h : AH) (hp : PlP h b p vs vo) (hk : planOk p = true) (hcan : canM p = true) :
    AC Try.prog 99 [.p b 0] h (fun r h' => (∃ u wo, r = .agg [.i .i64 p.outs.length, u, wo] ∧ lenA u = some (turnA p).length) ∧ h.le h') := by
  have c0 := hp.c0
  have c1 := hp.c1
  have c2 := hp.c2
  have hs := hp.steps
  have ho := hp.outs
  obtain ⟨h1, h2, h3, h4, hf, h6⟩ := planOk_out hk
  refine e99 _ fun wf => ?_
  unfold c99
  refine LI_start wf ?_
  refine W ?_
  refine LS_al rfl fun b2 => ?_
  try (dsimp only [st, setL, AV.cells, List.set_cons_zero, List.set_cons_succ, List.drop_zero, List.drop_succ_cons, List.take_zero, List.take_succ_cons, Nat.zero_add, Nat.add_zero, Nat.reduceAdd, List.cons_append, List.nil_append, List.eraseIdx_cons_zero, List.eraseIdx_cons_succ])
  refine W ?_
  refine dz99_0 ?_
  refine WX ?_
  refine W ?_
  refine LX_c1 (fun h' HL wf => newMaker_ac p.outs.length h'.frz) rfl rfl noG ?_
  try (dsimp only [st, setL, AV.cells, List.set_cons_zero, List.set_cons_succ, List.drop_zero, List.drop_succ_cons, List.take_zero, List.take_succ_cons, Nat.zero_add, Nat.add_zero, Nat.reduceAdd, List.cons_append, List.nil_append, List.eraseIdx_cons_zero, List.eraseIdx_cons_succ])
  refine WX ?_
  refine W ?_
  rintro _ _ ⟨bm, rfl, rfl⟩
  try (dsimp only [st, setL, AV.cells, List.set_cons_zero, List.set_cons_succ, List.drop_zero, List.drop_succ_cons, List.take_zero, List.take_succ_cons, Nat.zero_add, Nat.add_zero, Nat.reduceAdd, List.cons_append, List.nil_append, List.eraseIdx_cons_zero, List.eraseIdx_cons_succ])
  refine WX ?_
  refine LX_c0 (fun h' HL wf => many_ac p b vs vo h'.frz (hp.le HL.le).frz (by omega) (by omega) (by omega)) rfl rfl noG ?_
  try (dsimp only [st, setL, AV.cells, List.set_cons_zero, List.set_cons_succ, List.drop_zero, List.drop_succ_cons, List.take_zero, List.take_succ_cons, Nat.zero_add, Nat.add_zero, Nat.reduceAdd, List.cons_append, List.nil_append, List.eraseIdx_cons_zero, List.eraseIdx_cons_succ])
  refine WX ?_
  refine W ?_
  refine LX_mk 0 rfl rfl rfl rfl rfl (by omega) (by omega) (by omega) enI1 rfl noG fun b4 => ?_
  try (dsimp only [st, setL, AV.cells, List.set_cons_zero, List.set_cons_succ, List.drop_zero, List.drop_succ_cons, List.take_zero, List.take_succ_cons, Nat.zero_add, Nat.add_zero, Nat.reduceAdd, List.cons_append, List.nil_append, List.eraseIdx_cons_zero, List.eraseIdx_cons_succ])
  refine WX ?_
  refine W ?_
  refine LS_c0 (fun h' HL wf => many_ac p b vs vo h' (hp.le HL.le) (by omega) (by omega) (by omega)) rfl rfl ?_
  try (dsimp only [st, setL, AV.cells, List.set_cons_zero, List.set_cons_succ, List.drop_zero, List.drop_succ_cons, List.take_zero, List.take_succ_cons, Nat.zero_add, Nat.add_zero, Nat.reduceAdd, List.cons_append, List.nil_append, List.eraseIdx_cons_zero, List.eraseIdx_cons_succ])
  refine W ?_
  refine LIL_nl (k := 2) ?_
  refine LIL_rot 2 rfl ?_
  try (dsimp only [st, setL, AV.cells, List.set_cons_zero, List.set_cons_succ, List.drop_zero, List.drop_succ_cons, List.take_zero, List.take_succ_cons, Nat.zero_add, Nat.add_zero, Nat.reduceAdd, List.cons_append, List.nil_append, List.eraseIdx_cons_zero, List.eraseIdx_cons_succ])
  refine LIL_ind (fun n a L => ∃ (x : Int) (u : AV) (ss : List (Int × Int)) (bel : List Int), (∃ r : Nat → AV, a = [.p b 0, r 1, .p b2 0, .p bm 0, .sl b4 0 (p.n + p.steps.length).toNat true, .i .i64 x, r 6, r 7, r 8, r 9, r 10, r 11, r 12, r 13, r 14, r 15, r 16, r 17, r 18, r 19, r 20, r 21, r 22, r 23, r 24, r 25, r 26, r 27, r 28, r 29, r 30, r 31, r 32, r 33, r 34, r 35, r 36, r 37, r 38, r 39, r 40, r 41, r 42, r 43, r 44, r 45, r 46, r 47, r 48, r 49, r 50, r 51, r 52, r 53, r 54, r 55, r 56, r 57, r 58, r 59, r 60, r 61, r 62, r 63, r 64, r 65, r 66, r 67, r 68, r 69, r 70, r 71, r 72, r 73, r 74, r 75, r 76, r 77, r 78, r 79, r 80, r 81, r 82, r 83, r 84, r 85, r 86, r 87, r 88, r 89, r 90, r 91, r 92, r 93, r 94, r 95, r 96, r 97, r 98, r 99]) ∧ L = [.pt bm [.i .i64 p.outs.length, u, .ns], .sl u 2 (ss.flatMap enStep), .sl (.sl b4 0 (p.n + p.steps.length).toNat true) 1 (bel.flatMap enI), .pt b2 [.i .i64 0, .ns, .ns]] ∧
      -1 ≤ x ∧ (n : Int) = x + 1 ∧ x < p.n + p.steps.length ∧ turnA p = (turnM p n (ss, bel)).1 ∧ (ss.length : Int) ≤ 86 * (p.n + p.steps.length - 1 - x) ∧ okS ss ∧ okV bel ∧ bel.length = (p.n + p.steps.length).toNat ∧ lenA u = some ss.length ∧ u.sc = true)
    (p.n + p.steps.length).toNat ⟨p.n + p.steps.length - 1, .ns, [], List.replicate (p.n + p.steps.length).toNat 0, exJ rfl, rfl, by omega, by omega, by omega, rfl, by simp, (by intro s hs; cases hs), rep0_ok _, by simp, rfl, rfl⟩ ?_
  rintro n a L ⟨x, u, ss, bel, ⟨r, rfl⟩, rfl, hx0, hn, hx1, heq, hsl, hss, hbv, hbl, lu, su⟩ IH
  refine W ?_
  (first | refine LS_gt rfl ?_ ?_ | refine LS_gf rfl ?_ ?_ | refine LI_cond rfl ?_ ?_) <;> intro hc <;> have hc' := hc <;> try simp only [decide_eq_true_eq, decide_eq_false_iff_not, Bool.not_eq_true', Bool.not_eq_false', Bool.not_eq_true, Bool.not_eq_false, beq_iff_eq, bne_iff_ne, beq_eq_false_iff_ne, bne_eq_false_iff_eq, Int.not_lt, Int.not_le, ge_iff_le, gt_iff_lt, not_and, ne_eq, Decidable.not_not] at hc'
  all_goals (try (dsimp only [st, setL, AV.cells, List.set_cons_zero, List.set_cons_succ, List.drop_zero, List.drop_succ_cons, List.take_zero, List.take_succ_cons, Nat.zero_add, Nat.add_zero, Nat.reduceAdd, List.cons_append, List.nil_append, List.eraseIdx_cons_zero, List.eraseIdx_cons_succ]))
  all_goals (refine W ?_)
  · obtain ⟨k, rfl⟩ : ∃ k, n = k + 1 := ⟨n - 1, by omega⟩
    have hkx : ((k : Nat) : Int) = x := by omega
    have hne := facs_ne (bel := bel) hk hcan hc' hx1
    have hfl := facs_len hk x bel
    have hfo := facs_ok hk (x := x) hbv
    have hF := mkF_ok (m := p.outs.length) (by omega) (facs p x bel) (ss, -1) hfo hss (by show (-1 : Int) ≤ -1; omega) (by show (-1 : Int) ≤ 4096; omega) (by show ss.length + _ ≤ 4000; omega)
    rw [turnM, turnS] at heq
    simp only [hkx] at heq
    have hxg := hc'
    -- the outputs
    refine LIL_ind (fun n a L => ∃ (i z : Int) (u : AV) (s2 : List (Int × Int)), (∃ r : Nat → AV, a = [.p b 0, r 1, .p b2 0, .p bm 0, .sl b4 0 (p.n + p.steps.length).toNat true, .i .i64 x, .i .i64 z, r 7, r 8, r 9, r 10, r 11, r 12, r 13, r 14, r 15, r 16, r 17, r 18, r 19, r 20, r 21, r 22, r 23, r 24, r 25, r 26, r 27, r 28, r 29, r 30, r 31, vo, .i .i64 p.outs.length, .i .i64 i, r 35, r 36, r 37, r 38, r 39, r 40, r 41, r 42, r 43, r 44, r 45, r 46, r 47, r 48, r 49, r 50, r 51, r 52, r 53, r 54, r 55, r 56, r 57, r 58, r 59, r 60, r 61, r 62, r 63, r 64, r 65, r 66, r 67, r 68, r 69, r 70, r 71, r 72, r 73, r 74, r 75, r 76, r 77, r 78, r 79, r 80, r 81, r 82, r 83, r 84, r 85, r 86, r 87, r 88, r 89, r 90, r 91, r 92, r 93, r 94, r 95, r 96, r 97, r 98, r 99]) ∧ L = [.pt bm [.i .i64 p.outs.length, u, .ns], .sl u 2 (s2.flatMap enStep), .sl (.sl b4 0 (p.n + p.steps.length).toNat true) 1 (bel.flatMap enI), .pt b2 [.i .i64 0, .ns, .ns]] ∧
        0 ≤ i ∧ i + n = p.outs.length ∧ (facs p x bel).foldl (mkF p.outs.length) (ss, -1) = (facO x i.toNat (p.outs.drop i.toNat) ++ facT x p.n bel 0 p.steps).foldl (mkF p.outs.length) (s2, z) ∧ (s2.length : Int) ≤ ss.length + i ∧ okS s2 ∧ -1 ≤ z ∧ z ≤ 4096 ∧ lenA u = some s2.length ∧ u.sc = true)
      p.outs.length ⟨0, -1, u, ss, exJ rfl, rfl, by omega, by omega, rfl, by omega, hss, by omega, by omega, lu, su⟩ ?_
    rintro n a L ⟨i, z, u, s2, ⟨r, rfl⟩, rfl, h0, hn2, heq2, hs2l, hs2, hz0, hz1, lu, su⟩ IH2
    refine W ?_
    (first | refine LS_gt rfl ?_ ?_ | refine LS_gf rfl ?_ ?_ | refine LI_cond rfl ?_ ?_) <;> intro hc <;> have hc' := hc <;> try simp only [decide_eq_true_eq, decide_eq_false_iff_not, Bool.not_eq_true', Bool.not_eq_false', Bool.not_eq_true, Bool.not_eq_false, beq_iff_eq, bne_iff_ne, beq_eq_false_iff_ne, bne_eq_false_iff_eq, Int.not_lt, Int.not_le, ge_iff_le, gt_iff_lt, not_and, ne_eq, Decidable.not_not] at hc'
    all_goals (try (dsimp only [st, setL, AV.cells, List.set_cons_zero, List.set_cons_succ, List.drop_zero, List.drop_succ_cons, List.take_zero, List.take_succ_cons, Nat.zero_add, Nat.add_zero, Nat.reduceAdd, List.cons_append, List.nil_append, List.eraseIdx_cons_zero, List.eraseIdx_cons_succ]))
    all_goals (refine W ?_)
    · obtain ⟨y, hy, hym, hd⟩ := drop_at (l := p.outs) h0 hc'
      have hii : ((i.toNat : Nat) : Int) = i := by omega
      rw [hd, facO, hii] at heq2
      refine LS_ix (fun h' HL => ho.le HL.le) enI1 hy h0 rfl rfl fun q1 o1 hrow1 => ?_
      try (dsimp only [st, setL, AV.cells, List.set_cons_zero, List.set_cons_succ, List.drop_zero, List.drop_succ_cons, List.take_zero, List.take_succ_cons, Nat.zero_add, Nat.add_zero, Nat.reduceAdd, List.cons_append, List.nil_append, List.eraseIdx_cons_zero, List.eraseIdx_cons_succ])
      refine W ?_
      (first | refine LS_gt rfl ?_ ?_ | refine LS_gf rfl ?_ ?_ | refine LI_cond rfl ?_ ?_) <;> intro hc <;> have hc' := hc <;> try simp only [decide_eq_true_eq, decide_eq_false_iff_not, Bool.not_eq_true', Bool.not_eq_false', Bool.not_eq_true, Bool.not_eq_false, beq_iff_eq, bne_iff_ne, beq_eq_false_iff_ne, bne_eq_false_iff_eq, Int.not_lt, Int.not_le, ge_iff_le, gt_iff_lt, not_and, ne_eq, Decidable.not_not] at hc'
      all_goals (try (dsimp only [st, setL, AV.cells, List.set_cons_zero, List.set_cons_succ, List.drop_zero, List.drop_succ_cons, List.take_zero, List.take_succ_cons, Nat.zero_add, Nat.add_zero, Nat.reduceAdd, List.cons_append, List.nil_append, List.eraseIdx_cons_zero, List.eraseIdx_cons_succ]))
      all_goals (refine W ?_)
      · rw [if_pos hc', List.append_assoc, List.singleton_append, List.foldl_cons, mkF] at heq2
        refine LS_cm (.refl _) (fun h' HL wf => times_ac p.outs.length s2 u .ns z i bm h h' _ HL lu su (by omega) (by omega) (by omega)) rfl rfl ?_
        try (dsimp only [st, setL, AV.cells, List.set_cons_zero, List.set_cons_succ, List.drop_zero, List.drop_succ_cons, List.take_zero, List.take_succ_cons, Nat.zero_add, Nat.add_zero, Nat.reduceAdd, List.cons_append, List.nil_append, List.eraseIdx_cons_zero, List.eraseIdx_cons_succ])
        refine W ?_
        rintro _ _ ⟨w, rfl, lw, sw, rfl⟩
        try (dsimp only [st, setL, AV.cells, List.set_cons_zero, List.set_cons_succ, List.drop_zero, List.drop_succ_cons, List.take_zero, List.take_succ_cons, Nat.zero_add, Nat.add_zero, Nat.reduceAdd, List.cons_append, List.nil_append, List.eraseIdx_cons_zero, List.eraseIdx_cons_succ])
        refine W ?_
        refine IH2 (n - 1) _ _ (by omega) ⟨i + 1, _, _, _, exJ rfl, rfl, by omega, by omega, by rw [toNat_succ h0]; exact heq2, ?_, okS_mkS hs2 hz1 (by omega), ?_, ?_, lw, sw⟩
        all_goals (unfold mkS; split <;> simp <;> omega)
      · rw [if_neg hc', List.nil_append] at heq2
        refine IH2 (n - 1) _ _ (by omega) ⟨i + 1, _, _, _, exJ rfl, rfl, by omega, by omega, by rw [toNat_succ h0]; exact heq2, by omega, hs2, hz0, hz1, lu, su⟩
    · rw [List.drop_eq_nil_of_le (by omega), facO, List.nil_append] at heq2
      clear IH2
      refine W ?_
      -- the steps
      refine LIL_ind (fun n a L => ∃ (i z : Int) (u : AV) (s2 : List (Int × Int)), (∃ r : Nat → AV, a = [.p b 0, r 1, .p b2 0, .p bm 0, .sl b4 0 (p.n + p.steps.length).toNat true, .i .i64 x, .i .i64 z, r 7, r 8, r 9, r 10, r 11, r 12, r 13, r 14, r 15, r 16, r 17, r 18, r 19, r 20, r 21, r 22, r 23, r 24, r 25, r 26, r 27, r 28, r 29, r 30, r 31, r 32, r 33, r 34, r 35, r 36, r 37, r 38, r 39, r 40, r 41, r 42, r 43, r 44, r 45, r 46, r 47, r 48, r 49, vs, .i .i64 p.steps.length, .i .i64 i, r 53, r 54, r 55, r 56, r 57, r 58, r 59, r 60, r 61, r 62, r 63, r 64, r 65, r 66, r 67, r 68, r 69, r 70, r 71, r 72, r 73, r 74, r 75, r 76, r 77, r 78, r 79, r 80, r 81, r 82, r 83, r 84, r 85, r 86, r 87, r 88, r 89, r 90, r 91, r 92, r 93, r 94, r 95, r 96, r 97, r 98, r 99]) ∧ L = [.pt bm [.i .i64 p.outs.length, u, .ns], .sl u 2 (s2.flatMap enStep), .sl (.sl b4 0 (p.n + p.steps.length).toNat true) 1 (bel.flatMap enI), .pt b2 [.i .i64 0, .ns, .ns]] ∧
          0 ≤ i ∧ i + n = p.steps.length ∧ (facs p x bel).foldl (mkF p.outs.length) (ss, -1) = (facT x p.n bel i.toNat (p.steps.drop i.toNat)).foldl (mkF p.outs.length) (s2, z) ∧ (s2.length : Int) ≤ ss.length + 6 + 2 * i ∧ okS s2 ∧ -1 ≤ z ∧ z ≤ 4096 ∧ lenA u = some s2.length ∧ u.sc = true)
        p.steps.length ⟨0, z, u, s2, exJ rfl, rfl, by omega, by omega, heq2, by omega, hs2, hz0, hz1, lu, su⟩ ?_
      rintro n a L ⟨i, z, u, s2, ⟨r, rfl⟩, rfl, h0, hn2, heq2, hs2l, hs2, hz0, hz1, lu, su⟩ IH2
      refine W ?_
      (first | refine LS_gt rfl ?_ ?_ | refine LS_gf rfl ?_ ?_ | refine LI_cond rfl ?_ ?_) <;> intro hc <;> have hc' := hc <;> try simp only [decide_eq_true_eq, decide_eq_false_iff_not, Bool.not_eq_true', Bool.not_eq_false', Bool.not_eq_true, Bool.not_eq_false, beq_iff_eq, bne_iff_ne, beq_eq_false_iff_ne, bne_eq_false_iff_eq, Int.not_lt, Int.not_le, ge_iff_le, gt_iff_lt, not_and, ne_eq, Decidable.not_not] at hc'
      all_goals (try (dsimp only [st, setL, AV.cells, List.set_cons_zero, List.set_cons_succ, List.drop_zero, List.drop_succ_cons, List.take_zero, List.take_succ_cons, Nat.zero_add, Nat.add_zero, Nat.reduceAdd, List.cons_append, List.nil_append, List.eraseIdx_cons_zero, List.eraseIdx_cons_succ]))
      all_goals (refine W ?_)
      · obtain ⟨s, hs', hsm, hd⟩ := drop_at (l := p.steps) h0 hc'
        have hii : ((i.toNat : Nat) : Int) = i := by omega
        have hil := hc'
        have hbv' := getD_g0 (l := bel) (i := (p.n + i).toNat) (by omega)
        have hbo := getD_ok hbv (p.n + i).toNat
        rw [hd, facT] at heq2
        refine LS_ix (fun h' HL => hs.le HL.le) enStep2 hs' h0 rfl rfl fun q1 o1 hrow1 => ?_
        try (dsimp only [st, setL, AV.cells, List.set_cons_zero, List.set_cons_succ, List.drop_zero, List.drop_succ_cons, List.take_zero, List.take_succ_cons, Nat.zero_add, Nat.add_zero, Nat.reduceAdd, List.cons_append, List.nil_append, List.eraseIdx_cons_zero, List.eraseIdx_cons_succ])
        refine W ?_
        refine LS_al rfl fun b3 => ?_
        try (dsimp only [st, setL, AV.cells, List.set_cons_zero, List.set_cons_succ, List.drop_zero, List.drop_succ_cons, List.take_zero, List.take_succ_cons, Nat.zero_add, Nat.add_zero, Nat.reduceAdd, List.cons_append, List.nil_append, List.eraseIdx_cons_zero, List.eraseIdx_cons_succ])
        refine W ?_
        refine LS_lt [s.1, s.2] rfl rfl (by decide) rfl rfl rfl rfl enI1 rfl rfl fun lit llit slit => ?_
        try (dsimp only [st, setL, AV.cells, List.set_cons_zero, List.set_cons_succ, List.drop_zero, List.drop_succ_cons, List.take_zero, List.take_succ_cons, Nat.zero_add, Nat.add_zero, Nat.reduceAdd, List.cons_append, List.nil_append, List.eraseIdx_cons_zero, List.eraseIdx_cons_succ])
        refine W ?_
        refine LIL_rot 3 rfl (LIL_rot 3 rfl ?_)
        try (dsimp only [st, setL, AV.cells, List.set_cons_zero, List.set_cons_succ, List.drop_zero, List.drop_succ_cons, List.take_zero, List.take_succ_cons, Nat.zero_add, Nat.add_zero, Nat.reduceAdd, List.cons_append, List.nil_append, List.eraseIdx_cons_zero, List.eraseIdx_cons_succ])
        generalize hY : [s.1, s.2] = Y at *
        have hYl : Y.length = 2 := by rw [← hY]; rfl
        refine LIL_ind (fun n a L => ∃ (j z : Int) (u : AV) (s3 : List (Int × Int)), (∃ r : Nat → AV, a = [.p b 0, r 1, .p b2 0, .p bm 0, .sl b4 0 (p.n + p.steps.length).toNat true, .i .i64 x, .i .i64 z, r 7, r 8, .i .i64 i, r 10, r 11, r 12, r 13, r 14, r 15, r 16, r 17, r 18, r 19, r 20, r 21, r 22, r 23, r 24, r 25, r 26, r 27, r 28, r 29, r 30, r 31, r 32, r 33, r 34, r 35, r 36, r 37, r 38, r 39, r 40, r 41, r 42, r 43, r 44, r 45, r 46, r 47, r 48, r 49, vs, .i .i64 p.steps.length, .i .i64 i, r 53, r 54, r 55, r 56, r 57, r 58, r 59, r 60, lit, .i .i64 2, .i .i64 j, r 64, r 65, r 66, r 67, r 68, r 69, r 70, r 71, r 72, r 73, r 74, r 75, r 76, r 77, r 78, r 79, r 80, r 81, r 82, r 83, r 84, r 85, r 86, r 87, r 88, r 89, r 90, r 91, r 92, r 93, r 94, r 95, r 96, r 97, r 98, r 99]) ∧ L = [.pt bm [.i .i64 p.outs.length, u, .ns], .sl u 2 (s3.flatMap enStep), .sl lit 1 (Y.flatMap enI), .pt b3 (enStep s), .sl (.sl b4 0 (p.n + p.steps.length).toNat true) 1 (bel.flatMap enI), .pt b2 [.i .i64 0, .ns, .ns]] ∧
            0 ≤ j ∧ j + n = 2 ∧ (facs p x bel).foldl (mkF p.outs.length) (ss, -1) = ((Y.drop j.toNat).flatMap (facG x p.n bel i.toNat) ++ facT x p.n bel (i.toNat + 1) (p.steps.drop (i.toNat + 1))).foldl (mkF p.outs.length) (s3, z) ∧ (s3.length : Int) ≤ ss.length + 6 + 2 * i + j ∧ okS s3 ∧ -1 ≤ z ∧ z ≤ 4096 ∧ lenA u = some s3.length ∧ u.sc = true)
          2 ⟨0, z, u, s2, exJ rfl, rfl, by omega, by omega, heq2, by omega, hs2, hz0, hz1, lu, su⟩ ?_
        rintro n3 a L ⟨j, z, u, s3, ⟨r, rfl⟩, rfl, hj0, hn3, heq3, hs3l, hs3, hz0, hz1, lu, su⟩ IH3
        refine W ?_
        (first | refine LS_gt rfl ?_ ?_ | refine LS_gf rfl ?_ ?_ | refine LI_cond rfl ?_ ?_) <;> intro hc <;> have hc' := hc <;> try simp only [decide_eq_true_eq, decide_eq_false_iff_not, Bool.not_eq_true', Bool.not_eq_false', Bool.not_eq_true, Bool.not_eq_false, beq_iff_eq, bne_iff_ne, beq_eq_false_iff_ne, bne_eq_false_iff_eq, Int.not_lt, Int.not_le, ge_iff_le, gt_iff_lt, not_and, ne_eq, Decidable.not_not] at hc'
        all_goals (try (dsimp only [st, setL, AV.cells, List.set_cons_zero, List.set_cons_succ, List.drop_zero, List.drop_succ_cons, List.take_zero, List.take_succ_cons, Nat.zero_add, Nat.add_zero, Nat.reduceAdd, List.cons_append, List.nil_append, List.eraseIdx_cons_zero, List.eraseIdx_cons_succ]))
        all_goals (refine W ?_)
        · obtain ⟨y, hy, hym, hd3⟩ := drop_at (l := Y) hj0 (by omega)
          rw [hd3, List.flatMap_cons] at heq3
          refine LS_ix (fun h' HL => HL.rdI 2 rfl enI1 (by decide)) enI1 hy hj0 rfl rfl fun q2 o2 hrow2 => ?_
          try (dsimp only [st, setL, AV.cells, List.set_cons_zero, List.set_cons_succ, List.drop_zero, List.drop_succ_cons, List.take_zero, List.take_succ_cons, Nat.zero_add, Nat.add_zero, Nat.reduceAdd, List.cons_append, List.nil_append, List.eraseIdx_cons_zero, List.eraseIdx_cons_succ])
          refine W ?_
          (first | refine LS_gt rfl ?_ ?_ | refine LS_gf rfl ?_ ?_ | refine LI_cond rfl ?_ ?_) <;> intro hc <;> have hc' := hc <;> try simp only [decide_eq_true_eq, decide_eq_false_iff_not, Bool.not_eq_true', Bool.not_eq_false', Bool.not_eq_true, Bool.not_eq_false, beq_iff_eq, bne_iff_ne, beq_eq_false_iff_ne, bne_eq_false_iff_eq, Int.not_lt, Int.not_le, ge_iff_le, gt_iff_lt, not_and, ne_eq, Decidable.not_not] at hc'
          all_goals (try (dsimp only [st, setL, AV.cells, List.set_cons_zero, List.set_cons_succ, List.drop_zero, List.drop_succ_cons, List.take_zero, List.take_succ_cons, Nat.zero_add, Nat.add_zero, Nat.reduceAdd, List.cons_append, List.nil_append, List.eraseIdx_cons_zero, List.eraseIdx_cons_succ]))
          all_goals (refine W ?_)
          · rw [facG, if_pos hc', hii, List.append_assoc, List.singleton_append, List.foldl_cons, mkF] at heq3
            generalize bel.getD (p.n + i).toNat 0 = bv at *
            refine LS_ix (fun h' HL => HL.rdI 4 rfl enI1 (by decide)) enI1 hbv' (by omega) rfl rfl fun q3 o3 hrow3 => ?_
            try (dsimp only [st, setL, AV.cells, List.set_cons_zero, List.set_cons_succ, List.drop_zero, List.drop_succ_cons, List.take_zero, List.take_succ_cons, Nat.zero_add, Nat.add_zero, Nat.reduceAdd, List.cons_append, List.nil_append, List.eraseIdx_cons_zero, List.eraseIdx_cons_succ])
            refine W ?_
            refine LS_cm (.refl _) (fun h' HL wf => times_ac p.outs.length s3 u .ns z bv bm h h' _ HL lu su (by omega) (by omega) (by omega)) rfl rfl ?_
            try (dsimp only [st, setL, AV.cells, List.set_cons_zero, List.set_cons_succ, List.drop_zero, List.drop_succ_cons, List.take_zero, List.take_succ_cons, Nat.zero_add, Nat.add_zero, Nat.reduceAdd, List.cons_append, List.nil_append, List.eraseIdx_cons_zero, List.eraseIdx_cons_succ])
            refine W ?_
            rintro _ _ ⟨w, rfl, lw, sw, rfl⟩
            try (dsimp only [st, setL, AV.cells, List.set_cons_zero, List.set_cons_succ, List.drop_zero, List.drop_succ_cons, List.take_zero, List.take_succ_cons, Nat.zero_add, Nat.add_zero, Nat.reduceAdd, List.cons_append, List.nil_append, List.eraseIdx_cons_zero, List.eraseIdx_cons_succ])
            refine W ?_
            refine IH3 (n3 - 1) _ _ (by omega) ⟨j + 1, _, _, _, exJ rfl, rfl, by omega, by omega, by rw [toNat_succ hj0]; exact heq3, ?_, okS_mkS hs3 hz1 hbo, ?_, ?_, lw, sw⟩
            all_goals (unfold mkS; split <;> simp <;> omega)
          · rw [facG, if_neg hc', List.nil_append] at heq3
            refine IH3 (n3 - 1) _ _ (by omega) ⟨j + 1, _, _, _, exJ rfl, rfl, by omega, by omega, by rw [toNat_succ hj0]; exact heq3, by omega, hs3, hz0, hz1, lu, su⟩
        · rw [List.drop_eq_nil_of_le (by omega), List.flatMap_nil, List.nil_append] at heq3
          refine LIL_rm 2 (LIL_rm 2 ?_)
          refine IH2 (n - 1) _ _ (by omega) ⟨i + 1, z, u, s3, exJ rfl, rfl, by omega, by omega, by rw [toNat_succ h0]; exact heq3, by omega, hs3, hz0, hz1, lu, su⟩
      · rw [List.drop_eq_nil_of_le (by omega), facT, List.foldl_nil] at heq2
        have hz2 := hF.2 (.inl hne)
        rw [heq2] at heq hz2
        dsimp only at hz2
        refine LS_is (j := x) hxg (by omega) rfl rfl ?_
        try (dsimp only [st, setL, AV.cells, List.set_cons_zero, List.set_cons_succ, List.drop_zero, List.drop_succ_cons, List.take_zero, List.take_succ_cons, Nat.zero_add, Nat.add_zero, Nat.reduceAdd, List.cons_append, List.nil_append, List.eraseIdx_cons_zero, List.eraseIdx_cons_succ])
        refine W ?_
        refine LS_ss z 2 k rfl (by omega) (by omega) rfl enI1 (by decide) rfl rfl rfl ?_
        try (dsimp only [st, setL, AV.cells, List.set_cons_zero, List.set_cons_succ, List.drop_zero, List.drop_succ_cons, List.take_zero, List.take_succ_cons, Nat.zero_add, Nat.add_zero, Nat.reduceAdd, List.cons_append, List.nil_append, List.eraseIdx_cons_zero, List.eraseIdx_cons_succ])
        refine W ?_
        refine IH k _ _ (by omega) ⟨x - 1, u, s2, bel.set k z, exJ rfl, rfl, by omega, by omega, by omega, heq, by omega, hs2, ?_, by simp [hbl], lu, su⟩
        intro y hy
        rcases List.mem_or_eq_of_mem_set hy with hy | rfl
        · exact hbv y hy
        · exact ⟨hz2, hz1⟩
  · obtain rfl : n = 0 := by omega
    rw [turnM] at heq
    refine dy99_1 ?_
    refine WX ?_
    refine W ?_
    refine LX_v noG (OpV_s3 rfl rfl rfl (by omega) (by omega)) ?_
    try (dsimp only [st, setL, AV.cells, List.set_cons_zero, List.set_cons_succ, List.drop_zero, List.drop_succ_cons, List.take_zero, List.take_succ_cons, Nat.zero_add, Nat.add_zero, Nat.reduceAdd, List.cons_append, List.nil_append, List.eraseIdx_cons_zero, List.eraseIdx_cons_succ])
    refine WX ?_
    refine W ?_
    refine LX_f noG (LO_cm (.refl _) (fun h' HL wf => makerPlan_ac p.outs.length u .ns _ bm h h' _ HL su rfl) rfl rfl ?_)
    try (dsimp only [st, setL, AV.cells, List.set_cons_zero, List.set_cons_succ, List.drop_zero, List.drop_succ_cons, List.take_zero, List.take_succ_cons, Nat.zero_add, Nat.add_zero, Nat.reduceAdd, List.cons_append, List.nil_append, List.eraseIdx_cons_zero, List.eraseIdx_cons_succ])
    refine WX ?_
    refine W ?_
    rintro _ _ ⟨rfl, rfl⟩
    try (dsimp only [st, setL, AV.cells, List.set_cons_zero, List.set_cons_succ, List.drop_zero, List.drop_succ_cons, List.take_zero, List.take_succ_cons, Nat.zero_add, Nat.add_zero, Nat.reduceAdd, List.cons_append, List.nil_append, List.eraseIdx_cons_zero, List.eraseIdx_cons_succ])
    refine WX ?_
    refine W ?_
    refine RET fun h' HL => ?_
    try dsimp only [oneA]
    exact ⟨⟨u, _, rfl, by rw [heq]; exact lu⟩, HL.le⟩

def turnOk (p : PlanM) : Bool := planOk p && canM p

def turnR (p : PlanM) : Int := if turnOk p = true then ((turnA p).length : Int) else 0

theorem specTurned_ac (p : PlanM) (v : AV) (h : AH) (hR : PlR h v p) (hw : PSm p) : AC Try.prog 40 [v] h (fun r h' => r = .tup [.i .i64 (turnR p), .b (turnOk p)] ∧ h.le h') := by
  have hR0 := hR
  obtain ⟨vs, vo, rfl, hs, ho⟩ := hR
  refine e40 _ fun wf => ?_
  unfold c40
  refine LI_start wf ?_
  refine W ?_
  refine LS_bxn rfl (sc_cons rfl (sc_cons (rd_sc hs) (sc_cons (rd_sc ho) rfl))) fun b1 => ?_
  try (dsimp only [st, setL, AV.cells, List.set_cons_zero, List.set_cons_succ, List.drop_zero, List.drop_succ_cons, List.take_zero, List.take_succ_cons, Nat.zero_add, Nat.add_zero, Nat.reduceAdd, List.cons_append, List.nil_append, List.eraseIdx_cons_zero, List.eraseIdx_cons_succ])
  refine W ?_
  refine LS_c0 (fun h' HL wf => good_ac p _ h' (hR0.le HL.le) hw) rfl rfl ?_
  try (dsimp only [st, setL, AV.cells, List.set_cons_zero, List.set_cons_succ, List.drop_zero, List.drop_succ_cons, List.take_zero, List.take_succ_cons, Nat.zero_add, Nat.add_zero, Nat.reduceAdd, List.cons_append, List.nil_append, List.eraseIdx_cons_zero, List.eraseIdx_cons_succ])
  refine W ?_
  (first | refine LS_gt rfl ?_ ?_ | refine LS_gf rfl ?_ ?_ | refine LI_cond rfl ?_ ?_) <;> intro hc <;> have hc' := hc <;> try simp only [decide_eq_true_eq, decide_eq_false_iff_not, Bool.not_eq_true', Bool.not_eq_false', Bool.not_eq_true, Bool.not_eq_false, beq_iff_eq, bne_iff_ne, beq_eq_false_iff_ne, bne_eq_false_iff_eq, Int.not_lt, Int.not_le, ge_iff_le, gt_iff_lt, not_and, ne_eq, Decidable.not_not] at hc'
  all_goals (try (dsimp only [st, setL, AV.cells, List.set_cons_zero, List.set_cons_succ, List.drop_zero, List.drop_succ_cons, List.take_zero, List.take_succ_cons, Nat.zero_add, Nat.add_zero, Nat.reduceAdd, List.cons_append, List.nil_append, List.eraseIdx_cons_zero, List.eraseIdx_cons_succ]))
  all_goals (refine W ?_)
  · have hk := nf hc
    refine LS_c0 (fun h' HL wf => duCan_ac p _ h' (hR0.le HL.le) hk) rfl rfl ?_
    try (dsimp only [st, setL, AV.cells, List.set_cons_zero, List.set_cons_succ, List.drop_zero, List.drop_succ_cons, List.take_zero, List.take_succ_cons, Nat.zero_add, Nat.add_zero, Nat.reduceAdd, List.cons_append, List.nil_append, List.eraseIdx_cons_zero, List.eraseIdx_cons_succ])
    refine W ?_
    (first | refine LS_gt rfl ?_ ?_ | refine LS_gf rfl ?_ ?_ | refine LI_cond rfl ?_ ?_) <;> intro hc <;> have hc' := hc <;> try simp only [decide_eq_true_eq, decide_eq_false_iff_not, Bool.not_eq_true', Bool.not_eq_false', Bool.not_eq_true, Bool.not_eq_false, beq_iff_eq, bne_iff_ne, beq_eq_false_iff_ne, bne_eq_false_iff_eq, Int.not_lt, Int.not_le, ge_iff_le, gt_iff_lt, not_and, ne_eq, Decidable.not_not] at hc'
    all_goals (try (dsimp only [st, setL, AV.cells, List.set_cons_zero, List.set_cons_succ, List.drop_zero, List.drop_succ_cons, List.take_zero, List.take_succ_cons, Nat.zero_add, Nat.add_zero, Nat.reduceAdd, List.cons_append, List.nil_append, List.eraseIdx_cons_zero, List.eraseIdx_cons_succ]))
    all_goals (refine W ?_)
    · have hx : turnOk p = false := by rw [turnOk, nt hc, Bool.and_false]
      rw [turnR, hx, if_neg (by simp)]
      refine RET fun h' HL => ?_
      try dsimp only [oneA]
      exact ⟨rfl, HL.le⟩
    · have hcan := nf hc
      have hx : turnOk p = true := by rw [turnOk, hk, hcan]; rfl
      rw [turnR, hx, if_pos rfl]
      refine LS_cq (fun h' HL wf => duTurn_ac p _ h' (hR0.le HL.le) hk hcan) rfl rfl ?_
      try (dsimp only [st, setL, AV.cells, List.set_cons_zero, List.set_cons_succ, List.drop_zero, List.drop_succ_cons, List.take_zero, List.take_succ_cons, Nat.zero_add, Nat.add_zero, Nat.reduceAdd, List.cons_append, List.nil_append, List.eraseIdx_cons_zero, List.eraseIdx_cons_succ])
      refine W ?_
      rintro _ ⟨u, wo, rfl, lu⟩
      try (dsimp only [st, setL, AV.cells, List.set_cons_zero, List.set_cons_succ, List.drop_zero, List.drop_succ_cons, List.take_zero, List.take_succ_cons, Nat.zero_add, Nat.add_zero, Nat.reduceAdd, List.cons_append, List.nil_append, List.eraseIdx_cons_zero, List.eraseIdx_cons_succ])
      refine W ?_
      refine RET fun h' HL => ?_
      try dsimp only [oneA]
      exact ⟨rfl, HL.le⟩
  · have hx : turnOk p = false := by rw [turnOk, nt hc, Bool.false_and]
    rw [turnR, hx, if_neg (by simp)]
    refine RET fun h' HL => ?_
    try dsimp only [oneA]
    exact ⟨rfl, HL.le⟩

theorem implTurned_ac (p : PlanM) (v : AV) (h : AH) (hR : PlR h v p) (hw : PSm p) : AC Try.prog 41 [v] h (fun r h' => r = .tup [.i .i64 (turnR p), .b (turnOk p)] ∧ h.le h') := by
  have hR0 := hR
  obtain ⟨vs, vo, rfl, hs, ho⟩ := hR
  refine e41 _ fun wf => ?_
  unfold c41
  refine LI_start wf ?_
  refine W ?_
  refine LS_bxn rfl (sc_cons rfl (sc_cons (rd_sc hs) (sc_cons (rd_sc ho) rfl))) fun b1 => ?_
  try (dsimp only [st, setL, AV.cells, List.set_cons_zero, List.set_cons_succ, List.drop_zero, List.drop_succ_cons, List.take_zero, List.take_succ_cons, Nat.zero_add, Nat.add_zero, Nat.reduceAdd, List.cons_append, List.nil_append, List.eraseIdx_cons_zero, List.eraseIdx_cons_succ])
  refine W ?_
  refine LS_c0 (fun h' HL wf => isPlan_ac p _ h' (hR0.le HL.le) hw) rfl rfl ?_
  try (dsimp only [st, setL, AV.cells, List.set_cons_zero, List.set_cons_succ, List.drop_zero, List.drop_succ_cons, List.take_zero, List.take_succ_cons, Nat.zero_add, Nat.add_zero, Nat.reduceAdd, List.cons_append, List.nil_append, List.eraseIdx_cons_zero, List.eraseIdx_cons_succ])
  refine W ?_
  (first | refine LS_gt rfl ?_ ?_ | refine LS_gf rfl ?_ ?_ | refine LI_cond rfl ?_ ?_) <;> intro hc <;> have hc' := hc <;> try simp only [decide_eq_true_eq, decide_eq_false_iff_not, Bool.not_eq_true', Bool.not_eq_false', Bool.not_eq_true, Bool.not_eq_false, beq_iff_eq, bne_iff_ne, beq_eq_false_iff_ne, bne_eq_false_iff_eq, Int.not_lt, Int.not_le, ge_iff_le, gt_iff_lt, not_and, ne_eq, Decidable.not_not] at hc'
  all_goals (try (dsimp only [st, setL, AV.cells, List.set_cons_zero, List.set_cons_succ, List.drop_zero, List.drop_succ_cons, List.take_zero, List.take_succ_cons, Nat.zero_add, Nat.add_zero, Nat.reduceAdd, List.cons_append, List.nil_append, List.eraseIdx_cons_zero, List.eraseIdx_cons_succ]))
  all_goals (refine W ?_)
  · have hk := nf hc
    refine LS_c0 (fun h' HL wf => canTurn_ac p b1 vs vo h' ⟨HL.rowsP 0 rfl (Nat.le_refl 3) rfl, hs.le HL.le, ho.le HL.le⟩ hk) rfl rfl ?_
    try (dsimp only [st, setL, AV.cells, List.set_cons_zero, List.set_cons_succ, List.drop_zero, List.drop_succ_cons, List.take_zero, List.take_succ_cons, Nat.zero_add, Nat.add_zero, Nat.reduceAdd, List.cons_append, List.nil_append, List.eraseIdx_cons_zero, List.eraseIdx_cons_succ])
    refine W ?_
    (first | refine LS_gt rfl ?_ ?_ | refine LS_gf rfl ?_ ?_ | refine LI_cond rfl ?_ ?_) <;> intro hc <;> have hc' := hc <;> try simp only [decide_eq_true_eq, decide_eq_false_iff_not, Bool.not_eq_true', Bool.not_eq_false', Bool.not_eq_true, Bool.not_eq_false, beq_iff_eq, bne_iff_ne, beq_eq_false_iff_ne, bne_eq_false_iff_eq, Int.not_lt, Int.not_le, ge_iff_le, gt_iff_lt, not_and, ne_eq, Decidable.not_not] at hc'
    all_goals (try (dsimp only [st, setL, AV.cells, List.set_cons_zero, List.set_cons_succ, List.drop_zero, List.drop_succ_cons, List.take_zero, List.take_succ_cons, Nat.zero_add, Nat.add_zero, Nat.reduceAdd, List.cons_append, List.nil_append, List.eraseIdx_cons_zero, List.eraseIdx_cons_succ]))
    all_goals (refine W ?_)
    · have hx : turnOk p = false := by rw [turnOk, nt hc, Bool.and_false]
      rw [turnR, hx, if_neg (by simp)]
      refine RET fun h' HL => ?_
      try dsimp only [oneA]
      exact ⟨rfl, HL.le⟩
    · have hcan := nf hc
      have hx : turnOk p = true := by rw [turnOk, hk, hcan]; rfl
      rw [turnR, hx, if_pos rfl]
      refine LS_cq (fun h' HL wf => turned_ac p b1 vs vo h' ⟨HL.rowsP 0 rfl (Nat.le_refl 3) rfl, hs.le HL.le, ho.le HL.le⟩ hk hcan) rfl rfl ?_
      try (dsimp only [st, setL, AV.cells, List.set_cons_zero, List.set_cons_succ, List.drop_zero, List.drop_succ_cons, List.take_zero, List.take_succ_cons, Nat.zero_add, Nat.add_zero, Nat.reduceAdd, List.cons_append, List.nil_append, List.eraseIdx_cons_zero, List.eraseIdx_cons_succ])
      refine W ?_
      rintro _ ⟨u, wo, rfl, lu⟩
      try (dsimp only [st, setL, AV.cells, List.set_cons_zero, List.set_cons_succ, List.drop_zero, List.drop_succ_cons, List.take_zero, List.take_succ_cons, Nat.zero_add, Nat.add_zero, Nat.reduceAdd, List.cons_append, List.nil_append, List.eraseIdx_cons_zero, List.eraseIdx_cons_succ])
      refine W ?_
      refine RET fun h' HL => ?_
      try dsimp only [oneA]
      exact ⟨rfl, HL.le⟩
  · have hx : turnOk p = false := by rw [turnOk, nt hc, Bool.false_and]
    rw [turnR, hx, if_neg (by simp)]
    refine RET fun h' HL => ?_
    try dsimp only [oneA]
    exact ⟨rfl, HL.le⟩

theorem lawFnExactTurnedCost_ac (p : PlanM) (v : AV)  (h : AH) (hR : PlR h v p) (hw0 : p.wf) : AC Try.prog 11 [v] h (fun r h' => r = .b true) := by
  have hR0 := hR
  obtain ⟨vs, vo, rfl, hs, ho⟩ := hR
  refine e11 _ fun wf => ?_
  unfold c11
  refine LI_start wf ?_
  refine W ?_
  refine LS_bxn rfl (sc_cons rfl (sc_cons (rd_sc hs) (sc_cons (rd_sc ho) rfl))) fun b1 => ?_
  try (dsimp only [st, setL, AV.cells, List.set_cons_zero, List.set_cons_succ, List.drop_zero, List.drop_succ_cons, List.take_zero, List.take_succ_cons, Nat.zero_add, Nat.add_zero, Nat.reduceAdd, List.cons_append, List.nil_append, List.eraseIdx_cons_zero, List.eraseIdx_cons_succ])
  refine W ?_
  refine LS_cq (fun h' HL wf => szPlan_ac p _ 1048576 h' (hR0.le HL.le) (by omega) (by omega) hw0.ls hw0.lo) rfl rfl ?_
  try (dsimp only [st, setL, AV.cells, List.set_cons_zero, List.set_cons_succ, List.drop_zero, List.drop_succ_cons, List.take_zero, List.take_succ_cons, Nat.zero_add, Nat.add_zero, Nat.reduceAdd, List.cons_append, List.nil_append, List.eraseIdx_cons_zero, List.eraseIdx_cons_succ])
  refine W ?_
  rintro _ ⟨z, rfl, hz⟩
  try (dsimp only [st, setL, AV.cells, List.set_cons_zero, List.set_cons_succ, List.drop_zero, List.drop_succ_cons, List.take_zero, List.take_succ_cons, Nat.zero_add, Nat.add_zero, Nat.reduceAdd, List.cons_append, List.nil_append, List.eraseIdx_cons_zero, List.eraseIdx_cons_succ])
  refine W ?_
  (first | refine LS_gt rfl ?_ ?_ | refine LS_gf rfl ?_ ?_ | refine LI_cond rfl ?_ ?_) <;> intro hc <;> have hc' := hc <;> try simp only [decide_eq_true_eq, decide_eq_false_iff_not, Bool.not_eq_true', Bool.not_eq_false', Bool.not_eq_true, Bool.not_eq_false, beq_iff_eq, bne_iff_ne, beq_eq_false_iff_ne, bne_eq_false_iff_eq, Int.not_lt, Int.not_le, ge_iff_le, gt_iff_lt, not_and, ne_eq, Decidable.not_not] at hc'
  all_goals (try (dsimp only [st, setL, AV.cells, List.set_cons_zero, List.set_cons_succ, List.drop_zero, List.drop_succ_cons, List.take_zero, List.take_succ_cons, Nat.zero_add, Nat.add_zero, Nat.reduceAdd, List.cons_append, List.nil_append, List.eraseIdx_cons_zero, List.eraseIdx_cons_succ]))
  all_goals (refine W ?_)
  · refine RET fun h' HL => ?_
    try dsimp only [oneA]
  · have hw := psm_of hw0 hz hc'
    refine LS_c1 (fun h' HL wf => toPlanX_ac p _ h' (hR0.le HL.le) hw) rfl rfl ?_
    try (dsimp only [st, setL, AV.cells, List.set_cons_zero, List.set_cons_succ, List.drop_zero, List.drop_succ_cons, List.take_zero, List.take_succ_cons, Nat.zero_add, Nat.add_zero, Nat.reduceAdd, List.cons_append, List.nil_append, List.eraseIdx_cons_zero, List.eraseIdx_cons_succ])
    refine W ?_
    rintro _ _ ⟨vs1, vo1, ⟨rfl, l1, l2, s1, s2⟩, rfl⟩
    try (dsimp only [st, setL, AV.cells, List.set_cons_zero, List.set_cons_succ, List.drop_zero, List.drop_succ_cons, List.take_zero, List.take_succ_cons, Nat.zero_add, Nat.add_zero, Nat.reduceAdd, List.cons_append, List.nil_append, List.eraseIdx_cons_zero, List.eraseIdx_cons_succ])
    refine W ?_
    refine LS_c0 (fun h' HL wf => specTurned_ac p _ h' (plr_of HL 0 1 rfl rfl) hw) rfl rfl ?_
    try (dsimp only [st, setL, AV.cells, List.set_cons_zero, List.set_cons_succ, List.drop_zero, List.drop_succ_cons, List.take_zero, List.take_succ_cons, Nat.zero_add, Nat.add_zero, Nat.reduceAdd, List.cons_append, List.nil_append, List.eraseIdx_cons_zero, List.eraseIdx_cons_succ])
    refine W ?_
    refine LS_c1 (fun h' HL wf => toPlanX_ac p _ h' (hR0.le HL.le) hw) rfl rfl ?_
    try (dsimp only [st, setL, AV.cells, List.set_cons_zero, List.set_cons_succ, List.drop_zero, List.drop_succ_cons, List.take_zero, List.take_succ_cons, Nat.zero_add, Nat.add_zero, Nat.reduceAdd, List.cons_append, List.nil_append, List.eraseIdx_cons_zero, List.eraseIdx_cons_succ])
    refine W ?_
    rintro _ _ ⟨vs2, vo2, ⟨rfl, l3, l4, s3, s4⟩, rfl⟩
    try (dsimp only [st, setL, AV.cells, List.set_cons_zero, List.set_cons_succ, List.drop_zero, List.drop_succ_cons, List.take_zero, List.take_succ_cons, Nat.zero_add, Nat.add_zero, Nat.reduceAdd, List.cons_append, List.nil_append, List.eraseIdx_cons_zero, List.eraseIdx_cons_succ])
    refine W ?_
    refine LS_al rfl fun b2 => ?_
    try (dsimp only [st, setL, AV.cells, List.set_cons_zero, List.set_cons_succ, List.drop_zero, List.drop_succ_cons, List.take_zero, List.take_succ_cons, Nat.zero_add, Nat.add_zero, Nat.reduceAdd, List.cons_append, List.nil_append, List.eraseIdx_cons_zero, List.eraseIdx_cons_succ])
    refine W ?_
    refine LS_c0 (fun h' HL wf => implTurned_ac p _ h' (plr_of HL 1 2 rfl rfl) hw) rfl rfl ?_
    try (dsimp only [st, setL, AV.cells, List.set_cons_zero, List.set_cons_succ, List.drop_zero, List.drop_succ_cons, List.take_zero, List.take_succ_cons, Nat.zero_add, Nat.add_zero, Nat.reduceAdd, List.cons_append, List.nil_append, List.eraseIdx_cons_zero, List.eraseIdx_cons_succ])
    refine W ?_
    first | (refine LS_gyH rfl (by simp) ?_; intro hg) | (refine LI_cond_tH rfl (by simp) ?_; intro hg)
    refine W ?_
    first | (refine LS_gtnH rfl (by simp) ?_; intro hg; try (dsimp only [st, setL, AV.cells, List.set_cons_zero, List.set_cons_succ, List.drop_zero, List.drop_succ_cons, List.take_zero, List.take_succ_cons, Nat.zero_add, Nat.add_zero, Nat.reduceAdd, List.cons_append, List.nil_append, List.eraseIdx_cons_zero, List.eraseIdx_cons_succ])) | (refine LS_gfnH rfl (by simp) ?_; intro hg; try (dsimp only [st, setL, AV.cells, List.set_cons_zero, List.set_cons_succ, List.drop_zero, List.drop_succ_cons, List.take_zero, List.take_succ_cons, Nat.zero_add, Nat.add_zero, Nat.reduceAdd, List.cons_append, List.nil_append, List.eraseIdx_cons_zero, List.eraseIdx_cons_succ])) | (refine LI_cond_fH rfl (by simp) ?_; intro hg)
    refine W ?_
    refine dz11_0 ?_
    refine WX ?_
    refine W ?_
    refine LX_c1 (fun h' HL wf => toPlanX_ac p _ h'.frz (hR0.le HL.le).frz hw) rfl rfl noG ?_
    try (dsimp only [st, setL, AV.cells, List.set_cons_zero, List.set_cons_succ, List.drop_zero, List.drop_succ_cons, List.take_zero, List.take_succ_cons, Nat.zero_add, Nat.add_zero, Nat.reduceAdd, List.cons_append, List.nil_append, List.eraseIdx_cons_zero, List.eraseIdx_cons_succ])
    refine WX ?_
    refine W ?_
    rintro _ _ ⟨vs3, vo3, ⟨rfl, l5, l6, s5, s6⟩, rfl⟩
    try (dsimp only [st, setL, AV.cells, List.set_cons_zero, List.set_cons_succ, List.drop_zero, List.drop_succ_cons, List.take_zero, List.take_succ_cons, Nat.zero_add, Nat.add_zero, Nat.reduceAdd, List.cons_append, List.nil_append, List.eraseIdx_cons_zero, List.eraseIdx_cons_succ])
    refine WX ?_
    refine LX_c0 (fun h' HL wf => eqPlan_same p _ _ h'.frz (plr_of HL 3 4 rfl rfl).frz (plr_of HL 0 1 rfl rfl).frz hw.ls hw.lo) rfl rfl noG ?_
    try (dsimp only [st, setL, AV.cells, List.set_cons_zero, List.set_cons_succ, List.drop_zero, List.drop_succ_cons, List.take_zero, List.take_succ_cons, Nat.zero_add, Nat.add_zero, Nat.reduceAdd, List.cons_append, List.nil_append, List.eraseIdx_cons_zero, List.eraseIdx_cons_succ])
    refine WX ?_
    refine W ?_
    refine RET fun h' HL => ?_
    try dsimp only [oneA]
end Go.Proofs.Ytdcliofmdlhmaaa
