/- The walk of the law FnExactCollapseInputs, part 2: what each function that it reaches computes. -/
import Derived.Test.YtdcliofmdlhmaaaXFnExactCollapseInputsa
namespace Go.Proofs.Ytdcliofmdlhmaaa
open Go.AL
set_option linter.unusedVariables false
set_option linter.unusedSimpArgs false
set_option maxRecDepth 100000
set_option maxHeartbeats 1000000
attribute [local irreducible] AS AI AIL OpR AC CW AWP ALoop LS LI LIL LThen LLoop LBlk LRet Lh AX OpV OpF

theorem behind_ac (n : Int) (ss : List (Int × Int)) (q : PlanM) (ins : List Int) (vs vo qs qo w : AV) (bp bq : Nat) (h0 h : AH) (L : List It) (HL : Loq h0 h (.pt bp [.i .i64 n, vs, vo] :: .sl vs 2 (ss.flatMap enStep) :: .pt bq [.i .i64 q.n, qs, qo] :: L)) (hqs : RdG 2 enStep h0 qs q.steps)
    (hin : ∀ h', Loq h0 h' (.pt bp [.i .i64 n, vs, vo] :: .sl vs 2 (ss.flatMap enStep) :: .pt bq [.i .i64 q.n, qs, qo] :: L) → Rd h' w ins) (lvs : lenA vs = some ss.length) (svs : vs.sc = true) (hk : planOk q = true) (hil : (ins.length : Int) = q.n) (hib : okV ins) (hss : okS ss) (hsl : ss.length ≤ 1024) (hn : 0 ≤ n ∧ n ≤ 64) :
    AC Try.prog 84 [.p bp 0, .p bq 0, w] h (fun r h' => ∃ M, (∃ u pl, r = pl ∧ lenA u = some (thenM n ss ins q.steps).1.length ∧ u.sc = true ∧ lenA pl = some (thenM n ss ins q.steps).2.length ∧ pl.sc = true ∧ M = .pt bp [.i .i64 n, u, vo] :: .sl u 2 ((thenM n ss ins q.steps).1.flatMap enStep) :: .sl pl 1 ((thenM n ss ins q.steps).2.flatMap enI) :: .pt bq [.i .i64 q.n, qs, qo] :: L) ∧ Loq h0 h' M) := by
  obtain ⟨h1, h2, h3, h4, hf, h6⟩ := planOk_out hk
  refine e84 _ _ _ fun wf => ?_
  unfold c84
  refine LI_startL HL ?_
  refine W ?_
  refine LS_co (fun h' HL wf => Clone_int_ac ins w h' (hin h' HL) (by omega)) enI1 rfl rfl fun w1 lw1 sw1 => ?_
  try (dsimp only [st, setL, AV.cells, List.set_cons_zero, List.set_cons_succ, List.drop_zero, List.drop_succ_cons, List.take_zero, List.take_succ_cons, Nat.zero_add, Nat.add_zero, Nat.reduceAdd, List.cons_append, List.nil_append, List.eraseIdx_cons_zero, List.eraseIdx_cons_succ])
  refine W ?_
  refine LIL_rot 2 rfl (LIL_rot 2 rfl ?_)
  try (dsimp only [st, setL, AV.cells, List.set_cons_zero, List.set_cons_succ, List.drop_zero, List.drop_succ_cons, List.take_zero, List.take_succ_cons, Nat.zero_add, Nat.add_zero, Nat.reduceAdd, List.cons_append, List.nil_append, List.eraseIdx_cons_zero, List.eraseIdx_cons_succ])
  refine LIL_ind (fun m a L' => ∃ (i : Int) (u pl : AV) (s : List (Int × Int) × List Int), (∃ r : Nat → AV, a = [.p bp 0, r 1, r 2, r 3, r 4, r 5, r 6, pl, r 8, r 9, r 10, r 11, r 12, r 13, r 14, qs, .i .i64 q.steps.length, .i .i64 i, r 18, r 19, r 20, r 21, r 22, r 23, r 24, r 25, r 26, r 27, r 28, r 29, r 30, r 31, r 32, r 33, r 34, r 35, r 36, r 37, r 38, r 39, r 40, r 41, r 42, r 43, r 44, r 45, r 46, r 47]) ∧ L' = .pt bp [.i .i64 n, u, vo] :: .sl u 2 (s.1.flatMap enStep) :: .sl pl 1 (s.2.flatMap enI) :: .pt bq [.i .i64 q.n, qs, qo] :: L ∧ 0 ≤ i ∧ i + m = q.steps.length ∧ thenM n ss ins q.steps = (q.steps.drop i.toNat).foldl (thenS n) s ∧ ThenI q.n n ss.length i.toNat s ∧ lenA u = some s.1.length ∧ u.sc = true ∧ lenA pl = some s.2.length ∧ pl.sc = true)
    q.steps.length ⟨0, vs, w1, (ss, ins), exJ rfl, rfl, by omega, by omega, rfl, ⟨by simp, by simp; omega, hss, hib⟩, lvs, svs, lw1, sw1⟩ ?_
  rintro m a L' ⟨i, u, pl, ⟨s1, s2⟩, ⟨r, rfl⟩, rfl, h0', hm, heq, hT, lu, su, lp, sp⟩ IH
  have hTl := hT.ls
  have hTv := hT.lv
  dsimp only at hTl hTv lu lp
  refine W ?_
  (first | refine LS_gt rfl ?_ ?_ | refine LS_gf rfl ?_ ?_ | refine LI_cond rfl ?_ ?_) <;> intro hc <;> have hc' := hc <;> try simp only [decide_eq_true_eq, decide_eq_false_iff_not, Bool.not_eq_true', Bool.not_eq_false', Bool.not_eq_true, Bool.not_eq_false, beq_iff_eq, bne_iff_ne, beq_eq_false_iff_ne, bne_eq_false_iff_eq, Int.not_lt, Int.not_le, ge_iff_le, gt_iff_lt, not_and, ne_eq, Decidable.not_not] at hc'
  all_goals (try (dsimp only [st, setL, AV.cells, List.set_cons_zero, List.set_cons_succ, List.drop_zero, List.drop_succ_cons, List.take_zero, List.take_succ_cons, Nat.zero_add, Nat.add_zero, Nat.reduceAdd, List.cons_append, List.nil_append, List.eraseIdx_cons_zero, List.eraseIdx_cons_succ]))
  all_goals (refine W ?_)
  · obtain ⟨t, ht, _, hd⟩ := drop_at (l := q.steps) h0' hc'
    have hb := formedS_get hf ht
    have l1 : t.1.toNat < s2.length := by omega
    have l2 : t.2.toNat < s2.length := by omega
    have g1 : s2[t.1.toNat]? = some s2[t.1.toNat] := List.getElem?_eq_getElem l1
    have g2 : s2[t.2.toNat]? = some s2[t.2.toNat] := List.getElem?_eq_getElem l2
    have hT' := thenM_ok h1 hn.1 hn.2 hsl [t] i.toNat (s1, s2) (by simp [formedS]; omega) (by simp; omega) hT
    rw [hd, List.foldl_cons, thenS_eq g1 g2] at heq
    simp only [List.foldl_cons, List.foldl_nil, thenS_eq g1 g2, List.length_cons, List.length_nil] at hT'
    generalize s2[t.1.toNat] = x at *
    generalize s2[t.2.toNat] = y at *
    have g1' : (s2 ++ [n + s1.length])[t.1.toNat]? = some x := by rw [List.getElem?_append_left l1]; exact g1
    have g2' : (s2 ++ [n + s1.length])[t.2.toNat]? = some y := by rw [List.getElem?_append_left l2]; exact g2
    refine LS_ix (fun h' HL => hqs.le HL.le) enStep2 ht h0' rfl rfl fun q1 o1 hrow1 => ?_
    try (dsimp only [st, setL, AV.cells, List.set_cons_zero, List.set_cons_succ, List.drop_zero, List.drop_succ_cons, List.take_zero, List.take_succ_cons, Nat.zero_add, Nat.add_zero, Nat.reduceAdd, List.cons_append, List.nil_append, List.eraseIdx_cons_zero, List.eraseIdx_cons_succ])
    refine W ?_
    refine LS_al rfl fun b9 => ?_
    try (dsimp only [st, setL, AV.cells, List.set_cons_zero, List.set_cons_succ, List.drop_zero, List.drop_succ_cons, List.take_zero, List.take_succ_cons, Nat.zero_add, Nat.add_zero, Nat.reduceAdd, List.cons_append, List.nil_append, List.eraseIdx_cons_zero, List.eraseIdx_cons_succ])
    refine W ?_
    refine LS_c0 (fun h' HL wf => manyC_ac n _ bp u h' (HL.cellP 1 rfl rfl) (HL.cellP 1 rfl rfl) lu (by omega) (by omega) (by omega)) rfl rfl ?_
    try (dsimp only [st, setL, AV.cells, List.set_cons_zero, List.set_cons_succ, List.drop_zero, List.drop_succ_cons, List.take_zero, List.take_succ_cons, Nat.zero_add, Nat.add_zero, Nat.reduceAdd, List.cons_append, List.nil_append, List.eraseIdx_cons_zero, List.eraseIdx_cons_succ])
    refine W ?_
    refine LS_lt [n + s1.length] rfl rfl (by decide) rfl rfl rfl rfl enI1 rfl rfl fun w2 lw2 sw2 => ?_
    try (dsimp only [st, setL, AV.cells, List.set_cons_zero, List.set_cons_succ, List.drop_zero, List.drop_succ_cons, List.take_zero, List.take_succ_cons, Nat.zero_add, Nat.add_zero, Nat.reduceAdd, List.cons_append, List.nil_append, List.eraseIdx_cons_zero, List.eraseIdx_cons_succ])
    refine W ?_
    refine LS_ap 4 rfl (fun h' HL => HL.rdI 0 rfl enI1 (by decide)) enI1 (by decide) (by simp) (by simp; omega) (by simp; omega) rfl rfl rfl fun w3 lw3 sw3 => ?_
    try (dsimp only [st, setL, AV.cells, List.set_cons_zero, List.set_cons_succ, List.drop_zero, List.drop_succ_cons, List.take_zero, List.take_succ_cons, Nat.zero_add, Nat.add_zero, Nat.reduceAdd, List.cons_append, List.nil_append, List.eraseIdx_cons_zero, List.eraseIdx_cons_succ])
    refine W ?_
    refine dz84_0 ?_
    refine WX ?_
    refine W ?_
    refine LX_ix (fun h' HL => HL.rdI 4 rfl enI1 (by decide)) enI1 g1' (by omega) rfl rfl noG fun q2 o2 hrow2 => ?_
    try (dsimp only [st, setL, AV.cells, List.set_cons_zero, List.set_cons_succ, List.drop_zero, List.drop_succ_cons, List.take_zero, List.take_succ_cons, Nat.zero_add, Nat.add_zero, Nat.reduceAdd, List.cons_append, List.nil_append, List.eraseIdx_cons_zero, List.eraseIdx_cons_succ])
    refine WX ?_
    refine W ?_
    refine LX_ix (fun h' HL => HL.rdI 4 rfl enI1 (by decide)) enI1 g2' (by omega) rfl rfl noG fun q3 o3 hrow3 => ?_
    try (dsimp only [st, setL, AV.cells, List.set_cons_zero, List.set_cons_succ, List.drop_zero, List.drop_succ_cons, List.take_zero, List.take_succ_cons, Nat.zero_add, Nat.add_zero, Nat.reduceAdd, List.cons_append, List.nil_append, List.eraseIdx_cons_zero, List.eraseIdx_cons_succ])
    refine WX ?_
    refine W ?_
    refine LX_c0 (fun h' HL wf => step_ac x y h'.frz) rfl rfl noG ?_
    try (dsimp only [st, setL, AV.cells, List.set_cons_zero, List.set_cons_succ, List.drop_zero, List.drop_succ_cons, List.take_zero, List.take_succ_cons, Nat.zero_add, Nat.add_zero, Nat.reduceAdd, List.cons_append, List.nil_append, List.eraseIdx_cons_zero, List.eraseIdx_cons_succ])
    refine WX ?_
    refine W ?_
    refine LX_lt [stepM x y] rfl rfl (by decide) rfl rfl rfl rfl enStep2 rfl rfl noG fun w4 lw4 sw4 => ?_
    try (dsimp only [st, setL, AV.cells, List.set_cons_zero, List.set_cons_succ, List.drop_zero, List.drop_succ_cons, List.take_zero, List.take_succ_cons, Nat.zero_add, Nat.add_zero, Nat.reduceAdd, List.cons_append, List.nil_append, List.eraseIdx_cons_zero, List.eraseIdx_cons_succ])
    refine WX ?_
    refine W ?_
    refine LX_f noG (LO_ap 4 rfl (fun h' HL => HL.rdI 0 rfl enStep2 (by decide)) enStep2 (by decide) (by simp) (by simp; omega) (by simp; omega) rfl rfl rfl fun w5 lw5 sw5 => ?_)
    try (dsimp only [st, setL, AV.cells, List.set_cons_zero, List.set_cons_succ, List.drop_zero, List.drop_succ_cons, List.take_zero, List.take_succ_cons, Nat.zero_add, Nat.add_zero, Nat.reduceAdd, List.cons_append, List.nil_append, List.eraseIdx_cons_zero, List.eraseIdx_cons_succ])
    refine WX ?_
    refine W ?_
    refine LIL_drop 3 ?_
    refine IH (m - 1) _ _ (by omega) ⟨i + 1, w5, w3, (s1 ++ [stepM x y], s2 ++ [n + s1.length]), exJ rfl, rfl, by omega, by omega, by rw [toNat_succ h0']; exact heq, by rw [toNat_succ h0']; exact hT', lw5, sw5, lw3, sw3⟩
  · rw [List.drop_eq_nil_of_le (by omega), List.foldl_nil] at heq
    rw [heq]
    refine RET fun h' HL => ?_
    try dsimp only [oneA]
    exact ⟨_, ⟨u, pl, rfl, lu, su, lp, sp, rfl⟩, HL⟩

theorem plThen_ac (n : Int) (ss : List (Int × Int)) (q : PlanM) (ins : List Int) (vs v w : AV) (h : AH) (hvs : RdG 2 enStep h vs ss) (hR : PlR h v q) (hin : Rd h w ins) (hk : planOk q = true) (hil : (ins.length : Int) = q.n) (hib : okV ins) (hss : okS ss) (hsl : ss.length ≤ 1024) (hn : 0 ≤ n ∧ n ≤ 64) (hob : ∀ i ∈ q.outs, 0 ≤ i ∧ i < (thenM n ss ins q.steps).2.length) :
    AC Try.prog 86 [vs, .i .i64 n, v, w] h (fun r h' => ∃ M, (∃ u z, r = .tup [u, z] ∧ lenA u = some (thenM n ss ins q.steps).1.length ∧ u.sc = true ∧ lenA z = some (pickM (thenM n ss ins q.steps).2 q.outs).length ∧ z.sc = true ∧ M = [.sl u 2 ((thenM n ss ins q.steps).1.flatMap enStep), .sl z 1 ((pickM (thenM n ss ins q.steps).2 q.outs).flatMap enI)]) ∧ Loq h h' M) := by
  obtain ⟨qs, qo, rfl, hqs, hqo⟩ := hR
  obtain ⟨h1, h2, h3, h4, hf, h6⟩ := planOk_out hk
  refine e86 _ _ _ _ fun wf => ?_
  unfold c86
  refine LI_start wf ?_
  refine W ?_
  refine LS_bxn rfl (sc_cons rfl (sc_cons (rd_sc hqs) (sc_cons (rd_sc hqo) rfl))) fun b1 => ?_
  try (dsimp only [st, setL, AV.cells, List.set_cons_zero, List.set_cons_succ, List.drop_zero, List.drop_succ_cons, List.take_zero, List.take_succ_cons, Nat.zero_add, Nat.add_zero, Nat.reduceAdd, List.cons_append, List.nil_append, List.eraseIdx_cons_zero, List.eraseIdx_cons_succ])
  refine W ?_
  refine LS_co (fun h' HL wf => l1Own_ac ins w h' (hin.le HL.le) (by omega)) enI1 rfl rfl fun w1 lw1 sw1 => ?_
  try (dsimp only [st, setL, AV.cells, List.set_cons_zero, List.set_cons_succ, List.drop_zero, List.drop_succ_cons, List.take_zero, List.take_succ_cons, Nat.zero_add, Nat.add_zero, Nat.reduceAdd, List.cons_append, List.nil_append, List.eraseIdx_cons_zero, List.eraseIdx_cons_succ])
  refine W ?_
  refine LS_lt ([] : List (Int × Int)) rfl rfl (by decide) rfl rfl rfl rfl enStep2 rfl rfl fun w2 lw2 sw2 => ?_
  try (dsimp only [st, setL, AV.cells, List.set_cons_zero, List.set_cons_succ, List.drop_zero, List.drop_succ_cons, List.take_zero, List.take_succ_cons, Nat.zero_add, Nat.add_zero, Nat.reduceAdd, List.cons_append, List.nil_append, List.eraseIdx_cons_zero, List.eraseIdx_cons_succ])
  refine W ?_
  refine LS_ap0 0 rfl (fun h' HL => hvs.le HL.le) enStep2 (by decide) (by simp; omega) (by simp; omega) rfl rfl rfl fun w3 lw3 sw3 => ?_
  try (dsimp only [st, setL, AV.cells, List.set_cons_zero, List.set_cons_succ, List.drop_zero, List.drop_succ_cons, List.take_zero, List.take_succ_cons, Nat.zero_add, Nat.add_zero, Nat.reduceAdd, List.cons_append, List.nil_append, List.eraseIdx_cons_zero, List.eraseIdx_cons_succ])
  refine W ?_
  refine LIL_ind (fun m a L' => ∃ (i : Int) (u pl : AV) (s : List (Int × Int) × List Int), (∃ r : Nat → AV, a = [r 0, .i .i64 n, r 2, r 3, r 4, r 5, .p b1 0, r 7, r 8, r 9, pl, u, r 12, r 13, r 14, r 15, r 16, r 17, r 18, r 19, r 20, r 21, r 22, qs, .i .i64 q.steps.length, .i .i64 i, r 26, r 27, r 28, r 29, r 30, r 31, r 32, r 33, r 34, r 35, r 36, r 37, r 38, r 39, r 40, r 41, r 42, r 43, r 44, r 45, r 46, r 47, r 48, r 49, r 50, r 51, r 52, r 53, r 54, r 55, r 56, r 57, r 58, r 59, r 60, r 61, r 62, r 63, r 64, r 65, r 66, r 67, r 68]) ∧ L' = [.sl u 2 (s.1.flatMap enStep), .sl pl 1 (s.2.flatMap enI), .pt b1 [.i .i64 q.n, qs, qo]] ∧ 0 ≤ i ∧ i + m = q.steps.length ∧ thenM n ss ins q.steps = (q.steps.drop i.toNat).foldl (thenS n) s ∧ ThenI q.n n ss.length i.toNat s ∧ lenA u = some s.1.length ∧ u.sc = true ∧ lenA pl = some s.2.length ∧ pl.sc = true)
    q.steps.length ⟨0, w3, w1, (ss, ins), exJ rfl, rfl, by omega, by omega, rfl, ⟨by simp, by simp; omega, hss, hib⟩, by simpa using lw3, sw3, lw1, sw1⟩ ?_
  rintro m a L' ⟨i, u, pl, ⟨s1, s2⟩, ⟨r, rfl⟩, rfl, h0', hm, heq, hT, lu, su, lp, sp⟩ IH
  have hTl := hT.ls
  have hTv := hT.lv
  dsimp only at hTl hTv lu lp
  refine W ?_
  (first | refine LS_gt rfl ?_ ?_ | refine LS_gf rfl ?_ ?_ | refine LI_cond rfl ?_ ?_) <;> intro hc <;> have hc' := hc <;> try simp only [decide_eq_true_eq, decide_eq_false_iff_not, Bool.not_eq_true', Bool.not_eq_false', Bool.not_eq_true, Bool.not_eq_false, beq_iff_eq, bne_iff_ne, beq_eq_false_iff_ne, bne_eq_false_iff_eq, Int.not_lt, Int.not_le, ge_iff_le, gt_iff_lt, not_and, ne_eq, Decidable.not_not] at hc'
  all_goals (try (dsimp only [st, setL, AV.cells, List.set_cons_zero, List.set_cons_succ, List.drop_zero, List.drop_succ_cons, List.take_zero, List.take_succ_cons, Nat.zero_add, Nat.add_zero, Nat.reduceAdd, List.cons_append, List.nil_append, List.eraseIdx_cons_zero, List.eraseIdx_cons_succ]))
  all_goals (refine W ?_)
  · obtain ⟨t, ht, _, hd⟩ := drop_at (l := q.steps) h0' hc'
    have hb := formedS_get hf ht
    have l1 : t.1.toNat < s2.length := by omega
    have l2 : t.2.toNat < s2.length := by omega
    have g1 : s2[t.1.toNat]? = some s2[t.1.toNat] := List.getElem?_eq_getElem l1
    have g2 : s2[t.2.toNat]? = some s2[t.2.toNat] := List.getElem?_eq_getElem l2
    have hT' := thenM_ok h1 hn.1 hn.2 hsl [t] i.toNat (s1, s2) (by simp [formedS]; omega) (by simp; omega) hT
    rw [hd, List.foldl_cons, thenS_eq g1 g2] at heq
    simp only [List.foldl_cons, List.foldl_nil, thenS_eq g1 g2, List.length_cons, List.length_nil] at hT'
    generalize s2[t.1.toNat] = x at *
    generalize s2[t.2.toNat] = y at *
    refine LS_ix (fun h' HL => hqs.le HL.le) enStep2 ht h0' rfl rfl fun q1 o1 hrow1 => ?_
    try (dsimp only [st, setL, AV.cells, List.set_cons_zero, List.set_cons_succ, List.drop_zero, List.drop_succ_cons, List.take_zero, List.take_succ_cons, Nat.zero_add, Nat.add_zero, Nat.reduceAdd, List.cons_append, List.nil_append, List.eraseIdx_cons_zero, List.eraseIdx_cons_succ])
    refine W ?_
    refine LS_al rfl fun b9 => ?_
    try (dsimp only [st, setL, AV.cells, List.set_cons_zero, List.set_cons_succ, List.drop_zero, List.drop_succ_cons, List.take_zero, List.take_succ_cons, Nat.zero_add, Nat.add_zero, Nat.reduceAdd, List.cons_append, List.nil_append, List.eraseIdx_cons_zero, List.eraseIdx_cons_succ])
    refine W ?_
    refine dz86_0 ?_
    refine WX ?_
    refine W ?_
    refine LX_ix (fun h' HL => HL.rdI 2 rfl enI1 (by decide)) enI1 g1 (by omega) rfl rfl noG fun q2 o2 hrow2 => ?_
    try (dsimp only [st, setL, AV.cells, List.set_cons_zero, List.set_cons_succ, List.drop_zero, List.drop_succ_cons, List.take_zero, List.take_succ_cons, Nat.zero_add, Nat.add_zero, Nat.reduceAdd, List.cons_append, List.nil_append, List.eraseIdx_cons_zero, List.eraseIdx_cons_succ])
    refine WX ?_
    refine W ?_
    refine LX_ix (fun h' HL => HL.rdI 2 rfl enI1 (by decide)) enI1 g2 (by omega) rfl rfl noG fun q3 o3 hrow3 => ?_
    try (dsimp only [st, setL, AV.cells, List.set_cons_zero, List.set_cons_succ, List.drop_zero, List.drop_succ_cons, List.take_zero, List.take_succ_cons, Nat.zero_add, Nat.add_zero, Nat.reduceAdd, List.cons_append, List.nil_append, List.eraseIdx_cons_zero, List.eraseIdx_cons_succ])
    refine WX ?_
    refine W ?_
    refine LX_c0 (fun h' HL wf => plStep_ac x y h'.frz) rfl rfl noG ?_
    try (dsimp only [st, setL, AV.cells, List.set_cons_zero, List.set_cons_succ, List.drop_zero, List.drop_succ_cons, List.take_zero, List.take_succ_cons, Nat.zero_add, Nat.add_zero, Nat.reduceAdd, List.cons_append, List.nil_append, List.eraseIdx_cons_zero, List.eraseIdx_cons_succ])
    refine WX ?_
    refine W ?_
    refine LX_lt [stepM x y] rfl rfl (by decide) rfl rfl rfl rfl enStep2 rfl rfl noG fun w4 lw4 sw4 => ?_
    try (dsimp only [st, setL, AV.cells, List.set_cons_zero, List.set_cons_succ, List.drop_zero, List.drop_succ_cons, List.take_zero, List.take_succ_cons, Nat.zero_add, Nat.add_zero, Nat.reduceAdd, List.cons_append, List.nil_append, List.eraseIdx_cons_zero, List.eraseIdx_cons_succ])
    refine WX ?_
    refine W ?_
    refine LX_f noG (LO_ap 2 rfl (fun h' HL => HL.rdI 0 rfl enStep2 (by decide)) enStep2 (by decide) (by simp) (by simp; omega) (by simp; omega) rfl rfl rfl fun w5 lw5 sw5 => ?_)
    try (dsimp only [st, setL, AV.cells, List.set_cons_zero, List.set_cons_succ, List.drop_zero, List.drop_succ_cons, List.take_zero, List.take_succ_cons, Nat.zero_add, Nat.add_zero, Nat.reduceAdd, List.cons_append, List.nil_append, List.eraseIdx_cons_zero, List.eraseIdx_cons_succ])
    refine WX ?_
    refine W ?_
    have hln : (s1 ++ [stepM x y]).length = s1.length + 1 := by simp
    have hz : n + ((s1 ++ [stepM x y]).length : Int) - 1 = n + s1.length := by rw [hln]; omega
    refine W ?_
    rw [hz]
    refine LS_lt [n + s1.length] rfl rfl (by decide) rfl rfl rfl rfl enI1 rfl rfl fun w6 lw6 sw6 => ?_
    try (dsimp only [st, setL, AV.cells, List.set_cons_zero, List.set_cons_succ, List.drop_zero, List.drop_succ_cons, List.take_zero, List.take_succ_cons, Nat.zero_add, Nat.add_zero, Nat.reduceAdd, List.cons_append, List.nil_append, List.eraseIdx_cons_zero, List.eraseIdx_cons_succ])
    refine W ?_
    refine LS_ap 4 rfl (fun h' HL => HL.rdI 0 rfl enI1 (by decide)) enI1 (by decide) (by simp) (by simp; omega) (by simp; omega) rfl rfl rfl fun w7 lw7 sw7 => ?_
    try (dsimp only [st, setL, AV.cells, List.set_cons_zero, List.set_cons_succ, List.drop_zero, List.drop_succ_cons, List.take_zero, List.take_succ_cons, Nat.zero_add, Nat.add_zero, Nat.reduceAdd, List.cons_append, List.nil_append, List.eraseIdx_cons_zero, List.eraseIdx_cons_succ])
    refine W ?_
    refine LIL_drop 3 ?_
    refine IH (m - 1) _ _ (by omega) ⟨i + 1, w5, w7, (s1 ++ [stepM x y], s2 ++ [n + s1.length]), exJ rfl, rfl, by omega, by omega, by rw [toNat_succ h0']; exact heq, by rw [toNat_succ h0']; exact hT', lw5, sw5, lw7, sw7⟩
  · rw [List.drop_eq_nil_of_le (by omega), List.foldl_nil] at heq
    rw [heq] at hob ⊢
    clear IH
    refine W ?_
    refine LIL_nl (k := 1) ?_
    refine LIL_ind (fun m a L' => ∃ (i : Int) (z : AV), (∃ r : Nat → AV, a = [r 0, r 1, r 2, r 3, r 4, r 5, r 6, r 7, r 8, r 9, pl, u, r 12, r 13, z, r 15, r 16, r 17, r 18, r 19, r 20, r 21, r 22, r 23, r 24, r 25, r 26, r 27, r 28, r 29, r 30, r 31, r 32, r 33, r 34, r 35, r 36, r 37, r 38, r 39, r 40, r 41, r 42, r 43, r 44, r 45, r 46, r 47, r 48, r 49, r 50, r 51, r 52, qo, .i .i64 q.outs.length, .i .i64 i, r 56, r 57, r 58, r 59, r 60, r 61, r 62, r 63, r 64, r 65, r 66, r 67, r 68]) ∧ L' = [.sl z 1 ((pickM s2 (q.outs.take i.toNat)).flatMap enI), .sl u 2 (s1.flatMap enStep), .sl pl 1 (s2.flatMap enI), .pt b1 [.i .i64 q.n, qs, qo]] ∧ 0 ≤ i ∧ i + m = q.outs.length ∧ lenA z = some (pickM s2 (q.outs.take i.toNat)).length ∧ z.sc = true)
      q.outs.length ⟨0, _, exJ rfl, rfl, by omega, by omega, rfl, rfl⟩ ?_
    rintro m a L' ⟨i, z, ⟨r, rfl⟩, rfl, h0'', hm', lz, sz⟩ IH
    have hel := pickM_len s2 (q.outs.take i.toNat)
    rw [List.length_take] at hel
    refine W ?_
    (first | refine LS_gt rfl ?_ ?_ | refine LS_gf rfl ?_ ?_ | refine LI_cond rfl ?_ ?_) <;> intro hc <;> have hc' := hc <;> try simp only [decide_eq_true_eq, decide_eq_false_iff_not, Bool.not_eq_true', Bool.not_eq_false', Bool.not_eq_true, Bool.not_eq_false, beq_iff_eq, bne_iff_ne, beq_eq_false_iff_ne, bne_eq_false_iff_eq, Int.not_lt, Int.not_le, ge_iff_le, gt_iff_lt, not_and, ne_eq, Decidable.not_not] at hc'
    all_goals (try (dsimp only [st, setL, AV.cells, List.set_cons_zero, List.set_cons_succ, List.drop_zero, List.drop_succ_cons, List.take_zero, List.take_succ_cons, Nat.zero_add, Nat.add_zero, Nat.reduceAdd, List.cons_append, List.nil_append, List.eraseIdx_cons_zero, List.eraseIdx_cons_succ]))
    all_goals (refine W ?_)
    · obtain ⟨y, hy, hym, hd⟩ := drop_at (l := q.outs) h0'' hc'
      have hyb := hob y hym
      dsimp only at hyb
      have l1 : y.toNat < s2.length := by omega
      have g1 : s2[y.toNat]? = some s2[y.toNat] := List.getElem?_eq_getElem l1
      have e : pickM s2 (q.outs.take (i + 1).toNat) = pickM s2 (q.outs.take i.toNat) ++ [s2[y.toNat]] := by
        rw [toNat_succ h0'', take_snoc hy, pickM, List.filterMap_append]
        simp [g1, pickM]
      refine LS_ix (fun h' HL => hqo.le HL.le) enI1 hy h0'' rfl rfl fun q1 o1 hrow1 => ?_
      try (dsimp only [st, setL, AV.cells, List.set_cons_zero, List.set_cons_succ, List.drop_zero, List.drop_succ_cons, List.take_zero, List.take_succ_cons, Nat.zero_add, Nat.add_zero, Nat.reduceAdd, List.cons_append, List.nil_append, List.eraseIdx_cons_zero, List.eraseIdx_cons_succ])
      refine W ?_
      refine LS_ix (fun h' HL => HL.rdI 2 rfl enI1 (by decide)) enI1 g1 hyb.1 rfl rfl fun q2 o2 hrow2 => ?_
      try (dsimp only [st, setL, AV.cells, List.set_cons_zero, List.set_cons_succ, List.drop_zero, List.drop_succ_cons, List.take_zero, List.take_succ_cons, Nat.zero_add, Nat.add_zero, Nat.reduceAdd, List.cons_append, List.nil_append, List.eraseIdx_cons_zero, List.eraseIdx_cons_succ])
      refine W ?_
      refine LS_lt [s2[y.toNat]] rfl rfl (by decide) rfl rfl rfl rfl enI1 rfl rfl fun lit4 hlit4 slit4 => ?_
      try (dsimp only [st, setL, AV.cells, List.set_cons_zero, List.set_cons_succ, List.drop_zero, List.drop_succ_cons, List.take_zero, List.take_succ_cons, Nat.zero_add, Nat.add_zero, Nat.reduceAdd, List.cons_append, List.nil_append, List.eraseIdx_cons_zero, List.eraseIdx_cons_succ])
      refine W ?_
      refine LS_ap 1 rfl (fun h' HL => HL.rdI 0 rfl enI1 (by decide)) enI1 (by decide) (by simp) (by simp; omega) (by simp; omega) rfl rfl rfl fun w5 hw5 sw5 => ?_
      try (dsimp only [st, setL, AV.cells, List.set_cons_zero, List.set_cons_succ, List.drop_zero, List.drop_succ_cons, List.take_zero, List.take_succ_cons, Nat.zero_add, Nat.add_zero, Nat.reduceAdd, List.cons_append, List.nil_append, List.eraseIdx_cons_zero, List.eraseIdx_cons_succ])
      refine W ?_
      refine LIL_drop 1 ?_
      refine IH (m - 1) _ _ (by omega) ⟨i + 1, _, exJ rfl, by rw [e]; rfl, by omega, by omega, by rw [e]; exact hw5, sw5⟩
    · have ei : i.toNat = q.outs.length := by omega
      rw [ei, List.take_length] at lz ⊢
      refine RET fun h' HL => ?_
      try dsimp only [oneA]
      exact ⟨_, ⟨u, z, rfl, lu, su, lz, sz, rfl⟩, HL.sel [1, 0] (by decide)⟩

def collQ (p : PlanM) : PlanM := ⟨1, (thenM 1 [] (List.replicate p.n.toNat 0) p.steps).1, pickM (thenM 1 [] (List.replicate p.n.toNat 0) p.steps).2 p.outs⟩

def collOk (p : PlanM) : Bool := planOk p && planOk (collQ p)

def collR (p : PlanM) : PlanM := if collOk p = true then collQ p else emptyPlan

theorem pickM_in {α : Type} {l : List α} {ix : List Int} {x : α} (h : x ∈ pickM l ix) : x ∈ l := by
  obtain ⟨i, _, hi⟩ := List.mem_filterMap.1 h
  exact List.mem_of_getElem? hi

theorem thenI0 {p : PlanM} {n : Int} {ss : List (Int × Int)} {ins : List Int} (hk : planOk p = true) (hn : 0 ≤ n ∧ n ≤ 64) (hl : (ins.length : Int) = p.n) (hi : okV ins) (hss : okS ss) (hsl : ss.length ≤ 1024) : ThenI p.n n ss.length p.steps.length (thenM n ss ins p.steps) := by
  obtain ⟨h1, h2, h3, h4, hf, h6⟩ := planOk_out hk
  have := thenM_ok h1 hn.1 hn.2 hsl p.steps 0 (ss, ins) hf (by omega) ⟨by simp, by simp; omega, hss, hi⟩
  rwa [Nat.zero_add] at this

theorem rep0_ok (n : Nat) : okV (List.replicate n 0) := fun x hx => by rw [(List.mem_replicate.1 hx).2]; omega

theorem then_outs {p : PlanM} {n : Int} {ss : List (Int × Int)} {ins : List Int} (hk : planOk p = true) (H : ThenI p.n n ss.length p.steps.length (thenM n ss ins p.steps)) : ∀ i ∈ p.outs, 0 ≤ i ∧ i < (thenM n ss ins p.steps).2.length := by
  obtain ⟨h1, h2, h3, h4, hf, h6⟩ := planOk_out hk
  intro i hi
  have := of_decide_eq_true (List.all_eq_true.1 h6 i hi)
  have := H.lv
  omega

theorem collQ_sm {p : PlanM} (hk : planOk p = true) (H : ThenI p.n 1 0 p.steps.length (thenM 1 [] (List.replicate p.n.toNat 0) p.steps)) : PSm (collQ p) := by
  obtain ⟨h1, h2, h3, h4, hf, h6⟩ := planOk_out hk
  have hls := H.ls
  have hpl := pickM_len (thenM 1 [] (List.replicate p.n.toNat 0) p.steps).2 p.outs
  exact psm_q ⟨by show (0 : Int) ≤ 1; omega, by show (1 : Int) ≤ 4096; omega⟩ H.os (by show (thenM 1 [] (List.replicate p.n.toNat 0) p.steps).1.length ≤ 4096; omega) (fun v hv => H.ov v (pickM_in hv)) (by show (pickM (thenM 1 [] (List.replicate p.n.toNat 0) p.steps).2 p.outs).length ≤ 4096; omega)

theorem specColl_ac (p : PlanM) (v : AV) (h : AH) (hR : PlR h v p) (hw : PSm p) : AC Try.prog 35 [v] h (fun r h' => ∃ M, TupP (collR p) (collOk p) r M ∧ Loq h h' M) := by
  have hR0 := hR
  obtain ⟨vs, vo, rfl, hs, ho⟩ := hR
  refine e35 _ fun wf => ?_
  unfold c35
  refine LI_start wf ?_
  refine W ?_
  refine LS_bxn rfl (sc_cons rfl (sc_cons (rd_sc hs) (sc_cons (rd_sc ho) rfl))) fun b1 => ?_
  try (dsimp only [st, setL, AV.cells, List.set_cons_zero, List.set_cons_succ, List.drop_zero, List.drop_succ_cons, List.take_zero, List.take_succ_cons, Nat.zero_add, Nat.add_zero, Nat.reduceAdd, List.cons_append, List.nil_append, List.eraseIdx_cons_zero, List.eraseIdx_cons_succ])
  refine W ?_
  refine LS_al rfl fun b2 => ?_
  try (dsimp only [st, setL, AV.cells, List.set_cons_zero, List.set_cons_succ, List.drop_zero, List.drop_succ_cons, List.take_zero, List.take_succ_cons, Nat.zero_add, Nat.add_zero, Nat.reduceAdd, List.cons_append, List.nil_append, List.eraseIdx_cons_zero, List.eraseIdx_cons_succ])
  refine W ?_
  refine LS_c0 (fun h' HL wf => good_ac p _ h' (hR0.le HL.le) hw) rfl rfl ?_
  try (dsimp only [st, setL, AV.cells, List.set_cons_zero, List.set_cons_succ, List.drop_zero, List.drop_succ_cons, List.take_zero, List.take_succ_cons, Nat.zero_add, Nat.add_zero, Nat.reduceAdd, List.cons_append, List.nil_append, List.eraseIdx_cons_zero, List.eraseIdx_cons_succ])
  refine W ?_
  (first | refine LS_gt rfl ?_ ?_ | refine LS_gf rfl ?_ ?_ | refine LI_cond rfl ?_ ?_) <;> intro hc <;> have hc' := hc <;> try simp only [decide_eq_true_eq, decide_eq_false_iff_not, Bool.not_eq_true', Bool.not_eq_false', Bool.not_eq_true, Bool.not_eq_false, beq_iff_eq, bne_iff_ne, beq_eq_false_iff_ne, bne_eq_false_iff_eq, Int.not_lt, Int.not_le, ge_iff_le, gt_iff_lt, not_and, ne_eq, Decidable.not_not] at hc'
  all_goals (try (dsimp only [st, setL, AV.cells, List.set_cons_zero, List.set_cons_succ, List.drop_zero, List.drop_succ_cons, List.take_zero, List.take_succ_cons, Nat.zero_add, Nat.add_zero, Nat.reduceAdd, List.cons_append, List.nil_append, List.eraseIdx_cons_zero, List.eraseIdx_cons_succ]))
  all_goals (refine W ?_)
  · have hx : collOk p = false := by rw [collOk, nt hc]; rfl
    rw [collR, hx, if_neg (by simp)]
    refine RET fun h' HL => ?_
    try dsimp only [oneA]
    exact TupP.none HL
  · have hk := nf hc
    obtain ⟨h1, h2, h3, h4, hf, h6⟩ := planOk_out hk
    have hT := thenI0 (ss := []) (n := 1) hk (by omega) (by simp; omega) (rep0_ok p.n.toNat) (by intro s hs; cases hs) (by simp)
    have hpq := collQ_sm hk hT
    refine dz35_0 ?_
    refine WX ?_
    refine W ?_
    refine LX_mk 0 rfl rfl rfl rfl rfl (by omega) (by omega) (by omega) enI1 rfl noG fun b5 => ?_
    try (dsimp only [st, setL, AV.cells, List.set_cons_zero, List.set_cons_succ, List.drop_zero, List.drop_succ_cons, List.take_zero, List.take_succ_cons, Nat.zero_add, Nat.add_zero, Nat.reduceAdd, List.cons_append, List.nil_append, List.eraseIdx_cons_zero, List.eraseIdx_cons_succ])
    refine WX ?_
    refine W ?_
    refine LX_c1 (fun h' HL wf => plThen_ac 1 [] p (List.replicate p.n.toNat 0) .ns _ _ h'.frz (RdG.nil _ _ _) (hR0.le HL.le).frz (HL.rdI 0 rfl enI1 (by decide)).frz hk (by simp; omega) (rep0_ok _) (by intro s hs; cases hs) (by simp) (by omega) (then_outs hk hT)) rfl rfl noG ?_
    try (dsimp only [st, setL, AV.cells, List.set_cons_zero, List.set_cons_succ, List.drop_zero, List.drop_succ_cons, List.take_zero, List.take_succ_cons, Nat.zero_add, Nat.add_zero, Nat.reduceAdd, List.cons_append, List.nil_append, List.eraseIdx_cons_zero, List.eraseIdx_cons_succ])
    refine WX ?_
    refine W ?_
    rintro _ _ ⟨u, wq, rfl, lu, su, lq, sq, rfl⟩
    try (dsimp only [st, setL, AV.cells, List.set_cons_zero, List.set_cons_succ, List.drop_zero, List.drop_succ_cons, List.take_zero, List.take_succ_cons, Nat.zero_add, Nat.add_zero, Nat.reduceAdd, List.cons_append, List.nil_append, List.eraseIdx_cons_zero, List.eraseIdx_cons_succ])
    refine WX ?_
    refine W ?_
    cases hq : planOk (collQ p)
    · have hx : collOk p = false := by rw [collOk, hq]; simp
      rw [collR, hx, if_neg (by simp)]
      refine LS_c0 (fun h' HL wf => plIf_f (collQ p) _ h' (plr_of (p := collQ p) HL 0 1 rfl rfl) hpq hq) rfl rfl ?_
      try (dsimp only [st, setL, AV.cells, List.set_cons_zero, List.set_cons_succ, List.drop_zero, List.drop_succ_cons, List.take_zero, List.take_succ_cons, Nat.zero_add, Nat.add_zero, Nat.reduceAdd, List.cons_append, List.nil_append, List.eraseIdx_cons_zero, List.eraseIdx_cons_succ])
      refine W ?_
      refine RET fun h' HL => ?_
      try dsimp only [oneA]
      exact TupP.none HL
    · have hx : collOk p = true := by rw [collOk, hk, hq]; rfl
      rw [collR, hx, if_pos rfl]
      refine LS_c0 (fun h' HL wf => plIf_t (collQ p) _ h' (plr_of (p := collQ p) HL 0 1 rfl rfl) hpq hq) rfl rfl ?_
      try (dsimp only [st, setL, AV.cells, List.set_cons_zero, List.set_cons_succ, List.drop_zero, List.drop_succ_cons, List.take_zero, List.take_succ_cons, Nat.zero_add, Nat.add_zero, Nat.reduceAdd, List.cons_append, List.nil_append, List.eraseIdx_cons_zero, List.eraseIdx_cons_succ])
      refine W ?_
      refine RET fun h' HL => ?_
      try dsimp only [oneA]
      exact ⟨_, ⟨u, wq, rfl, lu, su, lq, sq, rfl⟩, HL.sel [0, 1] (by decide)⟩

theorem implColl_ac (p : PlanM) (v : AV) (h : AH) (hR : PlR h v p) (hw : PSm p) : AC Try.prog 37 [v] h (fun r h' => ∃ M, TupP (collR p) (collOk p) r M ∧ Loq h h' M) := by
  have hR0 := hR
  obtain ⟨vs, vo, rfl, hs, ho⟩ := hR
  refine e37 _ fun wf => ?_
  unfold c37
  refine LI_start wf ?_
  refine W ?_
  refine LS_bxn rfl (sc_cons rfl (sc_cons (rd_sc hs) (sc_cons (rd_sc ho) rfl))) fun b1 => ?_
  try (dsimp only [st, setL, AV.cells, List.set_cons_zero, List.set_cons_succ, List.drop_zero, List.drop_succ_cons, List.take_zero, List.take_succ_cons, Nat.zero_add, Nat.add_zero, Nat.reduceAdd, List.cons_append, List.nil_append, List.eraseIdx_cons_zero, List.eraseIdx_cons_succ])
  refine W ?_
  refine LS_al rfl fun b2 => ?_
  try (dsimp only [st, setL, AV.cells, List.set_cons_zero, List.set_cons_succ, List.drop_zero, List.drop_succ_cons, List.take_zero, List.take_succ_cons, Nat.zero_add, Nat.add_zero, Nat.reduceAdd, List.cons_append, List.nil_append, List.eraseIdx_cons_zero, List.eraseIdx_cons_succ])
  refine W ?_
  refine LS_c0 (fun h' HL wf => isPlan_ac p _ h' (hR0.le HL.le) hw) rfl rfl ?_
  try (dsimp only [st, setL, AV.cells, List.set_cons_zero, List.set_cons_succ, List.drop_zero, List.drop_succ_cons, List.take_zero, List.take_succ_cons, Nat.zero_add, Nat.add_zero, Nat.reduceAdd, List.cons_append, List.nil_append, List.eraseIdx_cons_zero, List.eraseIdx_cons_succ])
  refine W ?_
  (first | refine LS_gt rfl ?_ ?_ | refine LS_gf rfl ?_ ?_ | refine LI_cond rfl ?_ ?_) <;> intro hc <;> have hc' := hc <;> try simp only [decide_eq_true_eq, decide_eq_false_iff_not, Bool.not_eq_true', Bool.not_eq_false', Bool.not_eq_true, Bool.not_eq_false, beq_iff_eq, bne_iff_ne, beq_eq_false_iff_ne, bne_eq_false_iff_eq, Int.not_lt, Int.not_le, ge_iff_le, gt_iff_lt, not_and, ne_eq, Decidable.not_not] at hc'
  all_goals (try (dsimp only [st, setL, AV.cells, List.set_cons_zero, List.set_cons_succ, List.drop_zero, List.drop_succ_cons, List.take_zero, List.take_succ_cons, Nat.zero_add, Nat.add_zero, Nat.reduceAdd, List.cons_append, List.nil_append, List.eraseIdx_cons_zero, List.eraseIdx_cons_succ]))
  all_goals (refine W ?_)
  · have hx : collOk p = false := by rw [collOk, nt hc]; rfl
    rw [collR, hx, if_neg (by simp)]
    refine RET fun h' HL => ?_
    try dsimp only [oneA]
    exact TupP.none HL
  · have hk := nf hc
    obtain ⟨h1, h2, h3, h4, hf, h6⟩ := planOk_out hk
    have hT := thenI0 (ss := []) (n := 1) hk (by omega) (by simp; omega) (rep0_ok p.n.toNat) (by intro s hs; cases hs) (by simp)
    have hpq := collQ_sm hk hT
    have hob := then_outs hk hT
    refine LS_al rfl fun b4 => ?_
    try (dsimp only [st, setL, AV.cells, List.set_cons_zero, List.set_cons_succ, List.drop_zero, List.drop_succ_cons, List.take_zero, List.take_succ_cons, Nat.zero_add, Nat.add_zero, Nat.reduceAdd, List.cons_append, List.nil_append, List.eraseIdx_cons_zero, List.eraseIdx_cons_succ])
    refine W ?_
    refine LI_nil (k := 2) ?_
    refine LI_post (fun a L => ∃ (u wq : AV), (∃ r : Nat → AV, a = [r 0, r 1, .p b2 0, r 3, .p b4 0, r 5, r 6, r 7, r 8, r 9, r 10, r 11, r 12, r 13, r 14, r 15, r 16, r 17, r 18, r 19, r 20, r 21]) ∧ lenA u = some (collQ p).steps.length ∧ u.sc = true ∧ lenA wq = some (collQ p).outs.length ∧ wq.sc = true ∧ ∀ h', Loq h h' L → Loq h h' [.pt b4 [.i .i64 1, u, wq], .sl u 2 ((collQ p).steps.flatMap enStep), .sl wq 1 ((collQ p).outs.flatMap enI), .pt b2 [.i .i64 0, .ns, .ns]]) ?_ ?_
    · refine db37_0 [] (by simp) ?_
      refine WX ?_
      refine LX_two ?_ ?_
      · refine WX ?_
        refine LX_l1e 3 noG rfl rfl rfl ?_
        try (dsimp only [st, setL, AV.cells, List.set_cons_zero, List.set_cons_succ, List.drop_zero, List.drop_succ_cons, List.take_zero, List.take_succ_cons, Nat.zero_add, Nat.add_zero, Nat.reduceAdd, List.cons_append, List.nil_append, List.eraseIdx_cons_zero, List.eraseIdx_cons_succ])
        refine WX ?_
        refine W ?_
        refine LX_f noG (LO_mk 0 rfl rfl rfl rfl rfl (by omega) (by omega) (by omega) enI1 rfl fun b5 => ?_)
        try (dsimp only [st, setL, AV.cells, List.set_cons_zero, List.set_cons_succ, List.drop_zero, List.drop_succ_cons, List.take_zero, List.take_succ_cons, Nat.zero_add, Nat.add_zero, Nat.reduceAdd, List.cons_append, List.nil_append, List.eraseIdx_cons_zero, List.eraseIdx_cons_succ])
        refine WX ?_
        refine W ?_
        refine LX_rot 4 rfl ?_
        try (dsimp only [st, setL, AV.cells, List.set_cons_zero, List.set_cons_succ, List.drop_zero, List.drop_succ_cons, List.take_zero, List.take_succ_cons, Nat.zero_add, Nat.add_zero, Nat.reduceAdd, List.cons_append, List.nil_append, List.eraseIdx_cons_zero, List.eraseIdx_cons_succ])
        refine WX ?_
        refine W ?_
        refine LX_rot 2 rfl ?_
        try (dsimp only [st, setL, AV.cells, List.set_cons_zero, List.set_cons_succ, List.drop_zero, List.drop_succ_cons, List.take_zero, List.take_succ_cons, Nat.zero_add, Nat.add_zero, Nat.reduceAdd, List.cons_append, List.nil_append, List.eraseIdx_cons_zero, List.eraseIdx_cons_succ])
        refine WX ?_
        refine W ?_
        refine LX_rot 3 rfl ?_
        try (dsimp only [st, setL, AV.cells, List.set_cons_zero, List.set_cons_succ, List.drop_zero, List.drop_succ_cons, List.take_zero, List.take_succ_cons, Nat.zero_add, Nat.add_zero, Nat.reduceAdd, List.cons_append, List.nil_append, List.eraseIdx_cons_zero, List.eraseIdx_cons_succ])
        refine WX ?_
        refine W ?_
        refine LX_f noG (LO_cm (.refl _) (fun h' HL wf => behind_ac 1 [] p (List.replicate p.n.toNat 0) .ns .ns vs vo (.sl b5 0 p.n.toNat true) b4 b1 h h' _ HL hs (fun h' HL => HL.rdI 3 rfl enI1 (by decide)) rfl rfl hk (by simp; omega) (rep0_ok _) (by intro s hs; cases hs) (by decide) (by omega)) rfl rfl ?_)
        try (dsimp only [st, setL, AV.cells, List.set_cons_zero, List.set_cons_succ, List.drop_zero, List.drop_succ_cons, List.take_zero, List.take_succ_cons, Nat.zero_add, Nat.add_zero, Nat.reduceAdd, List.cons_append, List.nil_append, List.eraseIdx_cons_zero, List.eraseIdx_cons_succ])
        refine WX ?_
        refine W ?_
        rintro pl _ ⟨u, _, rfl, lu, su, lp, sp, rfl⟩
        try (dsimp only [st, setL, AV.cells, List.set_cons_zero, List.set_cons_succ, List.drop_zero, List.drop_succ_cons, List.take_zero, List.take_succ_cons, Nat.zero_add, Nat.add_zero, Nat.reduceAdd, List.cons_append, List.nil_append, List.eraseIdx_cons_zero, List.eraseIdx_cons_succ])
        refine WX ?_
        refine LX_f noG (LO_co (fun h' HL wf => renamed_ac _ p.outs pl vo h' (HL.rdI 2 rfl enI1 (by decide)) (ho.le HL.le) hw.lo hob) enI1 rfl rfl fun wq lq sq => ?_)
        try (dsimp only [st, setL, AV.cells, List.set_cons_zero, List.set_cons_succ, List.drop_zero, List.drop_succ_cons, List.take_zero, List.take_succ_cons, Nat.zero_add, Nat.add_zero, Nat.reduceAdd, List.cons_append, List.nil_append, List.eraseIdx_cons_zero, List.eraseIdx_cons_succ])
        refine WX ?_
        refine W ?_
        exact ⟨rfl, u, wq, exJ rfl, lu, su, lq, sq, fun h' HL => HL.sel [1, 2, 0, 6] (by decide)⟩
      · refine WX ?_
        refine LX_f noG (LO_mk 0 rfl rfl rfl rfl rfl (by omega) (by omega) (by omega) enI1 rfl fun b5 => ?_)
        try (dsimp only [st, setL, AV.cells, List.set_cons_zero, List.set_cons_succ, List.drop_zero, List.drop_succ_cons, List.take_zero, List.take_succ_cons, Nat.zero_add, Nat.add_zero, Nat.reduceAdd, List.cons_append, List.nil_append, List.eraseIdx_cons_zero, List.eraseIdx_cons_succ])
        refine WX ?_
        refine W ?_
        refine LX_two ?_ ?_
        · refine WX ?_
          refine LX_l1e 4 noG rfl rfl rfl ?_
          try (dsimp only [st, setL, AV.cells, List.set_cons_zero, List.set_cons_succ, List.drop_zero, List.drop_succ_cons, List.take_zero, List.take_succ_cons, Nat.zero_add, Nat.add_zero, Nat.reduceAdd, List.cons_append, List.nil_append, List.eraseIdx_cons_zero, List.eraseIdx_cons_succ])
          refine WX ?_
          refine W ?_
          refine LX_rot 4 rfl ?_
          try (dsimp only [st, setL, AV.cells, List.set_cons_zero, List.set_cons_succ, List.drop_zero, List.drop_succ_cons, List.take_zero, List.take_succ_cons, Nat.zero_add, Nat.add_zero, Nat.reduceAdd, List.cons_append, List.nil_append, List.eraseIdx_cons_zero, List.eraseIdx_cons_succ])
          refine WX ?_
          refine W ?_
          refine LX_rot 2 rfl ?_
          try (dsimp only [st, setL, AV.cells, List.set_cons_zero, List.set_cons_succ, List.drop_zero, List.drop_succ_cons, List.take_zero, List.take_succ_cons, Nat.zero_add, Nat.add_zero, Nat.reduceAdd, List.cons_append, List.nil_append, List.eraseIdx_cons_zero, List.eraseIdx_cons_succ])
          refine WX ?_
          refine W ?_
          refine LX_rot 3 rfl ?_
          try (dsimp only [st, setL, AV.cells, List.set_cons_zero, List.set_cons_succ, List.drop_zero, List.drop_succ_cons, List.take_zero, List.take_succ_cons, Nat.zero_add, Nat.add_zero, Nat.reduceAdd, List.cons_append, List.nil_append, List.eraseIdx_cons_zero, List.eraseIdx_cons_succ])
          refine WX ?_
          refine W ?_
          refine LX_f noG (LO_cm (.refl _) (fun h' HL wf => behind_ac 1 [] p (List.replicate p.n.toNat 0) .ns .ns vs vo (.sl b5 0 p.n.toNat true) b4 b1 h h' _ HL hs (fun h' HL => HL.rdI 3 rfl enI1 (by decide)) rfl rfl hk (by simp; omega) (rep0_ok _) (by intro s hs; cases hs) (by decide) (by omega)) rfl rfl ?_)
          try (dsimp only [st, setL, AV.cells, List.set_cons_zero, List.set_cons_succ, List.drop_zero, List.drop_succ_cons, List.take_zero, List.take_succ_cons, Nat.zero_add, Nat.add_zero, Nat.reduceAdd, List.cons_append, List.nil_append, List.eraseIdx_cons_zero, List.eraseIdx_cons_succ])
          refine WX ?_
          refine W ?_
          rintro pl _ ⟨u, _, rfl, lu, su, lp, sp, rfl⟩
          try (dsimp only [st, setL, AV.cells, List.set_cons_zero, List.set_cons_succ, List.drop_zero, List.drop_succ_cons, List.take_zero, List.take_succ_cons, Nat.zero_add, Nat.add_zero, Nat.reduceAdd, List.cons_append, List.nil_append, List.eraseIdx_cons_zero, List.eraseIdx_cons_succ])
          refine WX ?_
          refine LX_f noG (LO_co (fun h' HL wf => renamed_ac _ p.outs pl vo h' (HL.rdI 2 rfl enI1 (by decide)) (ho.le HL.le) hw.lo hob) enI1 rfl rfl fun wq lq sq => ?_)
          try (dsimp only [st, setL, AV.cells, List.set_cons_zero, List.set_cons_succ, List.drop_zero, List.drop_succ_cons, List.take_zero, List.take_succ_cons, Nat.zero_add, Nat.add_zero, Nat.reduceAdd, List.cons_append, List.nil_append, List.eraseIdx_cons_zero, List.eraseIdx_cons_succ])
          refine WX ?_
          refine W ?_
          exact ⟨rfl, u, wq, exJ rfl, lu, su, lq, sq, fun h' HL => HL.sel [1, 2, 0, 6] (by decide)⟩
        · refine WX ?_
          refine LX_rot 4 rfl ?_
          try (dsimp only [st, setL, AV.cells, List.set_cons_zero, List.set_cons_succ, List.drop_zero, List.drop_succ_cons, List.take_zero, List.take_succ_cons, Nat.zero_add, Nat.add_zero, Nat.reduceAdd, List.cons_append, List.nil_append, List.eraseIdx_cons_zero, List.eraseIdx_cons_succ])
          refine WX ?_
          refine W ?_
          refine LX_rot 2 rfl ?_
          try (dsimp only [st, setL, AV.cells, List.set_cons_zero, List.set_cons_succ, List.drop_zero, List.drop_succ_cons, List.take_zero, List.take_succ_cons, Nat.zero_add, Nat.add_zero, Nat.reduceAdd, List.cons_append, List.nil_append, List.eraseIdx_cons_zero, List.eraseIdx_cons_succ])
          refine WX ?_
          refine W ?_
          refine LX_rot 3 rfl ?_
          try (dsimp only [st, setL, AV.cells, List.set_cons_zero, List.set_cons_succ, List.drop_zero, List.drop_succ_cons, List.take_zero, List.take_succ_cons, Nat.zero_add, Nat.add_zero, Nat.reduceAdd, List.cons_append, List.nil_append, List.eraseIdx_cons_zero, List.eraseIdx_cons_succ])
          refine WX ?_
          refine W ?_
          refine LX_f noG (LO_cm (.refl _) (fun h' HL wf => behind_ac 1 [] p (List.replicate p.n.toNat 0) .ns .ns vs vo (.sl b5 0 p.n.toNat true) b4 b1 h h' _ HL hs (fun h' HL => HL.rdI 3 rfl enI1 (by decide)) rfl rfl hk (by simp; omega) (rep0_ok _) (by intro s hs; cases hs) (by decide) (by omega)) rfl rfl ?_)
          try (dsimp only [st, setL, AV.cells, List.set_cons_zero, List.set_cons_succ, List.drop_zero, List.drop_succ_cons, List.take_zero, List.take_succ_cons, Nat.zero_add, Nat.add_zero, Nat.reduceAdd, List.cons_append, List.nil_append, List.eraseIdx_cons_zero, List.eraseIdx_cons_succ])
          refine WX ?_
          refine W ?_
          rintro pl _ ⟨u, _, rfl, lu, su, lp, sp, rfl⟩
          try (dsimp only [st, setL, AV.cells, List.set_cons_zero, List.set_cons_succ, List.drop_zero, List.drop_succ_cons, List.take_zero, List.take_succ_cons, Nat.zero_add, Nat.add_zero, Nat.reduceAdd, List.cons_append, List.nil_append, List.eraseIdx_cons_zero, List.eraseIdx_cons_succ])
          refine WX ?_
          refine LX_l1e 3 noG rfl rfl rfl ?_
          try (dsimp only [st, setL, AV.cells, List.set_cons_zero, List.set_cons_succ, List.drop_zero, List.drop_succ_cons, List.take_zero, List.take_succ_cons, Nat.zero_add, Nat.add_zero, Nat.reduceAdd, List.cons_append, List.nil_append, List.eraseIdx_cons_zero, List.eraseIdx_cons_succ])
          refine WX ?_
          refine W ?_
          refine LX_f noG (LO_co (fun h' HL wf => renamed_ac _ p.outs pl vo h' (HL.rdI 2 rfl enI1 (by decide)) (ho.le HL.le) hw.lo hob) enI1 rfl rfl fun wq lq sq => ?_)
          try (dsimp only [st, setL, AV.cells, List.set_cons_zero, List.set_cons_succ, List.drop_zero, List.drop_succ_cons, List.take_zero, List.take_succ_cons, Nat.zero_add, Nat.add_zero, Nat.reduceAdd, List.cons_append, List.nil_append, List.eraseIdx_cons_zero, List.eraseIdx_cons_succ])
          refine WX ?_
          refine W ?_
          exact ⟨rfl, u, wq, exJ rfl, lu, su, lq, sq, fun h' HL => HL.sel [1, 2, 0, 6] (by decide)⟩
    · rintro _ L ⟨u, wq, ⟨r, rfl⟩, lu, su, lq, sq, hL⟩
      refine LThen_n (LI_conv hL ?_)
      refine W ?_
      cases hq : planOk (collQ p)
      · have hx : collOk p = false := by rw [collOk, hq]; simp
        rw [collR, hx, if_neg (by simp)]
        refine LS_c0 (fun h' HL wf => told_f (collQ p) _ h' (plr_of (p := collQ p) HL 1 2 rfl rfl) hpq hq) rfl rfl ?_
        try (dsimp only [st, setL, AV.cells, List.set_cons_zero, List.set_cons_succ, List.drop_zero, List.drop_succ_cons, List.take_zero, List.take_succ_cons, Nat.zero_add, Nat.add_zero, Nat.reduceAdd, List.cons_append, List.nil_append, List.eraseIdx_cons_zero, List.eraseIdx_cons_succ])
        refine W ?_
        refine RET fun h' HL => ?_
        try dsimp only [oneA]
        exact TupP.none HL
      · have hx : collOk p = true := by rw [collOk, hk, hq]; rfl
        rw [collR, hx, if_pos rfl]
        refine LS_c0 (fun h' HL wf => told_t (collQ p) _ h' (plr_of (p := collQ p) HL 1 2 rfl rfl) hpq hq) rfl rfl ?_
        try (dsimp only [st, setL, AV.cells, List.set_cons_zero, List.set_cons_succ, List.drop_zero, List.drop_succ_cons, List.take_zero, List.take_succ_cons, Nat.zero_add, Nat.add_zero, Nat.reduceAdd, List.cons_append, List.nil_append, List.eraseIdx_cons_zero, List.eraseIdx_cons_succ])
        refine W ?_
        refine RET fun h' HL => ?_
        try dsimp only [oneA]
        exact ⟨_, ⟨u, wq, rfl, lu, su, lq, sq, rfl⟩, HL.sel [1, 2] (by decide)⟩

theorem collR_len {p : PlanM} : (collR p).steps.length ≤ 1048576 ∧ (collR p).outs.length ≤ 1048576 := by
  unfold collR
  split
  · rename_i e
    simp only [collOk, Bool.and_eq_true] at e
    obtain ⟨h1, h2, h3, h4, hf, h6⟩ := planOk_out e.2
    omega
  · exact ⟨by simp [emptyPlan], by simp [emptyPlan]⟩

theorem lawFnExactCollapseInputs_ac (p : PlanM) (v : AV) (h : AH) (hR : PlR h v p) (hw0 : p.wf) : AC Try.prog 9 [v] h (fun r h' => r = .b true) := by
  have hR0 := hR
  obtain ⟨vs, vo, rfl, hs, ho⟩ := hR
  refine e9 _ fun wf => ?_
  unfold c9
  refine LI_start wf ?_
  refine W ?_
  refine LS_bxn rfl (sc_cons rfl (sc_cons (rd_sc hs) (sc_cons (rd_sc ho) rfl))) fun b1 => ?_
  try (dsimp only [st, setL, AV.cells, List.set_cons_zero, List.set_cons_succ, List.drop_zero, List.drop_succ_cons, List.take_zero, List.take_succ_cons, Nat.zero_add, Nat.add_zero, Nat.reduceAdd, List.cons_append, List.nil_append, List.eraseIdx_cons_zero, List.eraseIdx_cons_succ])
  refine W ?_
  refine LS_cq (fun h' HL wf => szPlan_ac p _ 1048576 h' (hR0.le HL.le) (by omega) (by omega) hw0.ls hw0.lo) rfl rfl ?_
  try (dsimp only [st, setL, AV.cells, List.set_cons_zero, List.set_cons_succ, List.drop_zero, List.drop_succ_cons, List.take_zero, List.take_succ_cons, Nat.zero_add, Nat.add_zero, Nat.reduceAdd, List.cons_append, List.nil_append, List.eraseIdx_cons_zero, List.eraseIdx_cons_succ])
  refine W ?_
  rintro _ ⟨z, rfl, hz⟩
  try (dsimp only [st, setL, AV.cells, List.set_cons_zero, List.set_cons_succ, List.drop_zero, List.drop_succ_cons, List.take_zero, List.take_succ_cons, Nat.zero_add, Nat.add_zero, Nat.reduceAdd, List.cons_append, List.nil_append, List.eraseIdx_cons_zero, List.eraseIdx_cons_succ])
  refine W ?_
  (first | refine LS_gt rfl ?_ ?_ | refine LS_gf rfl ?_ ?_ | refine LI_cond rfl ?_ ?_) <;> intro hc <;> have hc' := hc <;> try simp only [decide_eq_true_eq, decide_eq_false_iff_not, Bool.not_eq_true', Bool.not_eq_false', Bool.not_eq_true, Bool.not_eq_false, beq_iff_eq, bne_iff_ne, beq_eq_false_iff_ne, bne_eq_false_iff_eq, Int.not_lt, Int.not_le, ge_iff_le, gt_iff_lt, not_and, ne_eq, Decidable.not_not] at hc'
  all_goals (try (dsimp only [st, setL, AV.cells, List.set_cons_zero, List.set_cons_succ, List.drop_zero, List.drop_succ_cons, List.take_zero, List.take_succ_cons, Nat.zero_add, Nat.add_zero, Nat.reduceAdd, List.cons_append, List.nil_append, List.eraseIdx_cons_zero, List.eraseIdx_cons_succ]))
  all_goals (refine W ?_)
  · refine RET fun h' HL => ?_
    try dsimp only [oneA]
  · have hw := psm_of hw0 hz hc'
    have hls := hw.ls
    have hlo := hw.lo
    have hrl : (collR p).steps.length ≤ 1048576 ∧ (collR p).outs.length ≤ 1048576 := collR_len
    generalize hQ : collR p = Q at *
    refine LS_c1 (fun h' HL wf => toPlanX_ac p _ h' (hR0.le HL.le) hw) rfl rfl ?_
    try (dsimp only [st, setL, AV.cells, List.set_cons_zero, List.set_cons_succ, List.drop_zero, List.drop_succ_cons, List.take_zero, List.take_succ_cons, Nat.zero_add, Nat.add_zero, Nat.reduceAdd, List.cons_append, List.nil_append, List.eraseIdx_cons_zero, List.eraseIdx_cons_succ])
    refine W ?_
    rintro _ _ ⟨vs1, vo1, ⟨rfl, l1, l2, s1, s2⟩, rfl⟩
    try (dsimp only [st, setL, AV.cells, List.set_cons_zero, List.set_cons_succ, List.drop_zero, List.drop_succ_cons, List.take_zero, List.take_succ_cons, Nat.zero_add, Nat.add_zero, Nat.reduceAdd, List.cons_append, List.nil_append, List.eraseIdx_cons_zero, List.eraseIdx_cons_succ])
    refine W ?_
    refine LS_c1 (fun h' HL wf => specColl_ac p _ h' (plr_of HL 0 1 rfl rfl) hw) rfl rfl ?_
    try (dsimp only [st, setL, AV.cells, List.set_cons_zero, List.set_cons_succ, List.drop_zero, List.drop_succ_cons, List.take_zero, List.take_succ_cons, Nat.zero_add, Nat.add_zero, Nat.reduceAdd, List.cons_append, List.nil_append, List.eraseIdx_cons_zero, List.eraseIdx_cons_succ])
    refine W ?_
    rw [hQ]
    rintro _ _ ⟨ws, wo, rfl, lw1, sw1, lw2, sw2, rfl⟩
    try (dsimp only [st, setL, AV.cells, List.set_cons_zero, List.set_cons_succ, List.drop_zero, List.drop_succ_cons, List.take_zero, List.take_succ_cons, Nat.zero_add, Nat.add_zero, Nat.reduceAdd, List.cons_append, List.nil_append, List.eraseIdx_cons_zero, List.eraseIdx_cons_succ])
    refine W ?_
    refine LS_al rfl fun b4 => ?_
    try (dsimp only [st, setL, AV.cells, List.set_cons_zero, List.set_cons_succ, List.drop_zero, List.drop_succ_cons, List.take_zero, List.take_succ_cons, Nat.zero_add, Nat.add_zero, Nat.reduceAdd, List.cons_append, List.nil_append, List.eraseIdx_cons_zero, List.eraseIdx_cons_succ])
    refine W ?_
    refine LS_rm 3 (LS_rm 3 ?_)
    refine LS_c1 (fun h' HL wf => toPlanX_ac p _ h' (hR0.le HL.le) hw) rfl rfl ?_
    try (dsimp only [st, setL, AV.cells, List.set_cons_zero, List.set_cons_succ, List.drop_zero, List.drop_succ_cons, List.take_zero, List.take_succ_cons, Nat.zero_add, Nat.add_zero, Nat.reduceAdd, List.cons_append, List.nil_append, List.eraseIdx_cons_zero, List.eraseIdx_cons_succ])
    refine W ?_
    rintro _ _ ⟨vs2, vo2, ⟨rfl, l3, l4, s3, s4⟩, rfl⟩
    try (dsimp only [st, setL, AV.cells, List.set_cons_zero, List.set_cons_succ, List.drop_zero, List.drop_succ_cons, List.take_zero, List.take_succ_cons, Nat.zero_add, Nat.add_zero, Nat.reduceAdd, List.cons_append, List.nil_append, List.eraseIdx_cons_zero, List.eraseIdx_cons_succ])
    refine W ?_
    refine LS_al rfl fun b6 => ?_
    try (dsimp only [st, setL, AV.cells, List.set_cons_zero, List.set_cons_succ, List.drop_zero, List.drop_succ_cons, List.take_zero, List.take_succ_cons, Nat.zero_add, Nat.add_zero, Nat.reduceAdd, List.cons_append, List.nil_append, List.eraseIdx_cons_zero, List.eraseIdx_cons_succ])
    refine W ?_
    refine LS_c1 (fun h' HL wf => implColl_ac p _ h' (plr_of HL 1 2 rfl rfl) hw) rfl rfl ?_
    try (dsimp only [st, setL, AV.cells, List.set_cons_zero, List.set_cons_succ, List.drop_zero, List.drop_succ_cons, List.take_zero, List.take_succ_cons, Nat.zero_add, Nat.add_zero, Nat.reduceAdd, List.cons_append, List.nil_append, List.eraseIdx_cons_zero, List.eraseIdx_cons_succ])
    refine W ?_
    rw [hQ]
    rintro _ _ ⟨gs, go, rfl, lg1, sg1, lg2, sg2, rfl⟩
    try (dsimp only [st, setL, AV.cells, List.set_cons_zero, List.set_cons_succ, List.drop_zero, List.drop_succ_cons, List.take_zero, List.take_succ_cons, Nat.zero_add, Nat.add_zero, Nat.reduceAdd, List.cons_append, List.nil_append, List.eraseIdx_cons_zero, List.eraseIdx_cons_succ])
    refine W ?_
    refine LS_al rfl fun b7 => ?_
    try (dsimp only [st, setL, AV.cells, List.set_cons_zero, List.set_cons_succ, List.drop_zero, List.drop_succ_cons, List.take_zero, List.take_succ_cons, Nat.zero_add, Nat.add_zero, Nat.reduceAdd, List.cons_append, List.nil_append, List.eraseIdx_cons_zero, List.eraseIdx_cons_succ])
    refine W ?_
    refine LS_c0 (fun h' HL wf => eqPlan_same Q _ _ h' (plr_of HL 1 2 rfl rfl) (plr_of HL 7 8 rfl rfl) hrl.1 hrl.2) rfl rfl ?_
    try (dsimp only [st, setL, AV.cells, List.set_cons_zero, List.set_cons_succ, List.drop_zero, List.drop_succ_cons, List.take_zero, List.take_succ_cons, Nat.zero_add, Nat.add_zero, Nat.reduceAdd, List.cons_append, List.nil_append, List.eraseIdx_cons_zero, List.eraseIdx_cons_succ])
    refine W ?_
    first | (refine LS_gtnH rfl (by simp) ?_; intro hg; try (dsimp only [st, setL, AV.cells, List.set_cons_zero, List.set_cons_succ, List.drop_zero, List.drop_succ_cons, List.take_zero, List.take_succ_cons, Nat.zero_add, Nat.add_zero, Nat.reduceAdd, List.cons_append, List.nil_append, List.eraseIdx_cons_zero, List.eraseIdx_cons_succ])) | (refine LS_gfnH rfl (by simp) ?_; intro hg; try (dsimp only [st, setL, AV.cells, List.set_cons_zero, List.set_cons_succ, List.drop_zero, List.drop_succ_cons, List.take_zero, List.take_succ_cons, Nat.zero_add, Nat.add_zero, Nat.reduceAdd, List.cons_append, List.nil_append, List.eraseIdx_cons_zero, List.eraseIdx_cons_succ])) | (refine LI_cond_fH rfl (by simp) ?_; intro hg)
    refine W ?_
    refine dz9_0 ?_
    refine WX ?_
    refine W ?_
    refine LX_c1 (fun h' HL wf => toPlanX_ac p _ h'.frz (hR0.le HL.le).frz hw) rfl rfl noG ?_
    try (dsimp only [st, setL, AV.cells, List.set_cons_zero, List.set_cons_succ, List.drop_zero, List.drop_succ_cons, List.take_zero, List.take_succ_cons, Nat.zero_add, Nat.add_zero, Nat.reduceAdd, List.cons_append, List.nil_append, List.eraseIdx_cons_zero, List.eraseIdx_cons_succ])
    refine WX ?_
    refine W ?_
    rintro _ _ ⟨vs3, vo3, ⟨rfl, l5, l6, s5, s6⟩, rfl⟩
    try (dsimp only [st, setL, AV.cells, List.set_cons_zero, List.set_cons_succ, List.drop_zero, List.drop_succ_cons, List.take_zero, List.take_succ_cons, Nat.zero_add, Nat.add_zero, Nat.reduceAdd, List.cons_append, List.nil_append, List.eraseIdx_cons_zero, List.eraseIdx_cons_succ])
    refine WX ?_
    refine LX_c0 (fun h' HL wf => eqPlan_same p _ _ h'.frz (plr_of HL 6 7 rfl rfl).frz (plr_of HL 0 1 rfl rfl).frz hw.ls hw.lo) rfl rfl noG ?_
    try (dsimp only [st, setL, AV.cells, List.set_cons_zero, List.set_cons_succ, List.drop_zero, List.drop_succ_cons, List.take_zero, List.take_succ_cons, Nat.zero_add, Nat.add_zero, Nat.reduceAdd, List.cons_append, List.nil_append, List.eraseIdx_cons_zero, List.eraseIdx_cons_succ])
    refine WX ?_
    refine W ?_
    refine LS_drop 2 (LS_rot 5 rfl (LS_rot 5 rfl ?_))
    refine LS_cm (.refl _) (fun h' HL wf => markPlan_ac p vs2 vo2 1 h h' _ HL (by omega) (by omega)) rfl rfl ?_
    try (dsimp only [st, setL, AV.cells, List.set_cons_zero, List.set_cons_succ, List.drop_zero, List.drop_succ_cons, List.take_zero, List.take_succ_cons, Nat.zero_add, Nat.add_zero, Nat.reduceAdd, List.cons_append, List.nil_append, List.eraseIdx_cons_zero, List.eraseIdx_cons_succ])
    refine W ?_
    rintro _ _ ⟨rfl, rfl⟩
    try (dsimp only [st, setL, AV.cells, List.set_cons_zero, List.set_cons_succ, List.drop_zero, List.drop_succ_cons, List.take_zero, List.take_succ_cons, Nat.zero_add, Nat.add_zero, Nat.reduceAdd, List.cons_append, List.nil_append, List.eraseIdx_cons_zero, List.eraseIdx_cons_succ])
    refine W ?_
    first | (refine LS_gyH rfl (by simp; omega) ?_; intro hg) | (refine LI_cond_tH rfl (by simp; omega) ?_; intro hg)
    refine W ?_
    refine LS_c0 (fun h' HL wf => eqPlan_same Q _ _ h' (plr_of HL 3 4 rfl rfl) (plr_of HL 7 8 rfl rfl) hrl.1 hrl.2) rfl rfl ?_
    try (dsimp only [st, setL, AV.cells, List.set_cons_zero, List.set_cons_succ, List.drop_zero, List.drop_succ_cons, List.take_zero, List.take_succ_cons, Nat.zero_add, Nat.add_zero, Nat.reduceAdd, List.cons_append, List.nil_append, List.eraseIdx_cons_zero, List.eraseIdx_cons_succ])
    refine W ?_
    try ((first | (refine LS_gtnH rfl (by simp) ?_; intro hg; try (dsimp only [st, setL, AV.cells, List.set_cons_zero, List.set_cons_succ, List.drop_zero, List.drop_succ_cons, List.take_zero, List.take_succ_cons, Nat.zero_add, Nat.add_zero, Nat.reduceAdd, List.cons_append, List.nil_append, List.eraseIdx_cons_zero, List.eraseIdx_cons_succ])) | (refine LS_gfnH rfl (by simp) ?_; intro hg; try (dsimp only [st, setL, AV.cells, List.set_cons_zero, List.set_cons_succ, List.drop_zero, List.drop_succ_cons, List.take_zero, List.take_succ_cons, Nat.zero_add, Nat.add_zero, Nat.reduceAdd, List.cons_append, List.nil_append, List.eraseIdx_cons_zero, List.eraseIdx_cons_succ])) | (refine LI_cond_fH rfl (by simp) ?_; intro hg)); refine W ?_)
    refine LS_rot 4 rfl (LS_rot 4 rfl ?_)
    refine LS_cm (.refl _) (fun h' HL wf => markPlan_ac Q gs go 1 h h' _ HL (by omega) (by omega)) rfl rfl ?_
    try (dsimp only [st, setL, AV.cells, List.set_cons_zero, List.set_cons_succ, List.drop_zero, List.drop_succ_cons, List.take_zero, List.take_succ_cons, Nat.zero_add, Nat.add_zero, Nat.reduceAdd, List.cons_append, List.nil_append, List.eraseIdx_cons_zero, List.eraseIdx_cons_succ])
    refine W ?_
    rintro _ _ ⟨rfl, rfl⟩
    try (dsimp only [st, setL, AV.cells, List.set_cons_zero, List.set_cons_succ, List.drop_zero, List.drop_succ_cons, List.take_zero, List.take_succ_cons, Nat.zero_add, Nat.add_zero, Nat.reduceAdd, List.cons_append, List.nil_append, List.eraseIdx_cons_zero, List.eraseIdx_cons_succ])
    refine W ?_
    refine LS_c0 (fun h' HL wf => heldPlan_ac Q.steps.length Q.outs.length Q.n gs go 1 h' (HL.rdI 0 rfl enStep2 (by decide)) (HL.rdI 1 rfl enI1 (by decide)) (by omega) (by omega)) rfl rfl ?_
    try (dsimp only [st, setL, AV.cells, List.set_cons_zero, List.set_cons_succ, List.drop_zero, List.drop_succ_cons, List.take_zero, List.take_succ_cons, Nat.zero_add, Nat.add_zero, Nat.reduceAdd, List.cons_append, List.nil_append, List.eraseIdx_cons_zero, List.eraseIdx_cons_succ])
    refine W ?_
    try ((first | (refine LS_gtnH rfl (by simp; omega) ?_; intro hg; try (dsimp only [st, setL, AV.cells, List.set_cons_zero, List.set_cons_succ, List.drop_zero, List.drop_succ_cons, List.take_zero, List.take_succ_cons, Nat.zero_add, Nat.add_zero, Nat.reduceAdd, List.cons_append, List.nil_append, List.eraseIdx_cons_zero, List.eraseIdx_cons_succ])) | (refine LS_gfnH rfl (by simp; omega) ?_; intro hg; try (dsimp only [st, setL, AV.cells, List.set_cons_zero, List.set_cons_succ, List.drop_zero, List.drop_succ_cons, List.take_zero, List.take_succ_cons, Nat.zero_add, Nat.add_zero, Nat.reduceAdd, List.cons_append, List.nil_append, List.eraseIdx_cons_zero, List.eraseIdx_cons_succ])) | (refine LI_cond_fH rfl (by simp; omega) ?_; intro hg)); refine W ?_)
    try ((first | (refine LS_gtnH rfl (by simp) ?_; intro hg; try (dsimp only [st, setL, AV.cells, List.set_cons_zero, List.set_cons_succ, List.drop_zero, List.drop_succ_cons, List.take_zero, List.take_succ_cons, Nat.zero_add, Nat.add_zero, Nat.reduceAdd, List.cons_append, List.nil_append, List.eraseIdx_cons_zero, List.eraseIdx_cons_succ])) | (refine LS_gfnH rfl (by simp) ?_; intro hg; try (dsimp only [st, setL, AV.cells, List.set_cons_zero, List.set_cons_succ, List.drop_zero, List.drop_succ_cons, List.take_zero, List.take_succ_cons, Nat.zero_add, Nat.add_zero, Nat.reduceAdd, List.cons_append, List.nil_append, List.eraseIdx_cons_zero, List.eraseIdx_cons_succ])) | (refine LI_cond_fH rfl (by simp) ?_; intro hg)); refine W ?_)
    refine LS_c1 (fun h' HL wf => toPlanX_ac p _ h' (hR0.le HL.le) hw) rfl rfl ?_
    try (dsimp only [st, setL, AV.cells, List.set_cons_zero, List.set_cons_succ, List.drop_zero, List.drop_succ_cons, List.take_zero, List.take_succ_cons, Nat.zero_add, Nat.add_zero, Nat.reduceAdd, List.cons_append, List.nil_append, List.eraseIdx_cons_zero, List.eraseIdx_cons_succ])
    refine W ?_
    rintro _ _ ⟨vs4, vo4, ⟨rfl, l7, l8, s7, s8⟩, rfl⟩
    try (dsimp only [st, setL, AV.cells, List.set_cons_zero, List.set_cons_succ, List.drop_zero, List.drop_succ_cons, List.take_zero, List.take_succ_cons, Nat.zero_add, Nat.add_zero, Nat.reduceAdd, List.cons_append, List.nil_append, List.eraseIdx_cons_zero, List.eraseIdx_cons_succ])
    refine W ?_
    refine LS_c1 (fun h' HL wf => implColl_ac p _ h' (plr_of HL 0 1 rfl rfl) hw) rfl rfl ?_
    try (dsimp only [st, setL, AV.cells, List.set_cons_zero, List.set_cons_succ, List.drop_zero, List.drop_succ_cons, List.take_zero, List.take_succ_cons, Nat.zero_add, Nat.add_zero, Nat.reduceAdd, List.cons_append, List.nil_append, List.eraseIdx_cons_zero, List.eraseIdx_cons_succ])
    refine W ?_
    rw [hQ]
    rintro _ _ ⟨gs2, go2, rfl, lg3, sg3, lg4, sg4, rfl⟩
    try (dsimp only [st, setL, AV.cells, List.set_cons_zero, List.set_cons_succ, List.drop_zero, List.drop_succ_cons, List.take_zero, List.take_succ_cons, Nat.zero_add, Nat.add_zero, Nat.reduceAdd, List.cons_append, List.nil_append, List.eraseIdx_cons_zero, List.eraseIdx_cons_succ])
    refine W ?_
    refine LS_al rfl fun b12 => ?_
    try (dsimp only [st, setL, AV.cells, List.set_cons_zero, List.set_cons_succ, List.drop_zero, List.drop_succ_cons, List.take_zero, List.take_succ_cons, Nat.zero_add, Nat.add_zero, Nat.reduceAdd, List.cons_append, List.nil_append, List.eraseIdx_cons_zero, List.eraseIdx_cons_succ])
    refine W ?_
    refine LS_rm 3 (LS_rm 3 ?_)
    try (dsimp only [st, setL, AV.cells, List.set_cons_zero, List.set_cons_succ, List.drop_zero, List.drop_succ_cons, List.take_zero, List.take_succ_cons, Nat.zero_add, Nat.add_zero, Nat.reduceAdd, List.cons_append, List.nil_append, List.eraseIdx_cons_zero, List.eraseIdx_cons_succ])
    refine W ?_
    refine LS_c0 (fun h' HL wf => eqPlan_same Q _ _ h' (plr_of HL 1 2 rfl rfl) (plr_of HL 10 11 rfl rfl) hrl.1 hrl.2) rfl rfl ?_
    try (dsimp only [st, setL, AV.cells, List.set_cons_zero, List.set_cons_succ, List.drop_zero, List.drop_succ_cons, List.take_zero, List.take_succ_cons, Nat.zero_add, Nat.add_zero, Nat.reduceAdd, List.cons_append, List.nil_append, List.eraseIdx_cons_zero, List.eraseIdx_cons_succ])
    refine W ?_
    try ((first | (refine LS_gtnH rfl (by simp) ?_; intro hg; try (dsimp only [st, setL, AV.cells, List.set_cons_zero, List.set_cons_succ, List.drop_zero, List.drop_succ_cons, List.take_zero, List.take_succ_cons, Nat.zero_add, Nat.add_zero, Nat.reduceAdd, List.cons_append, List.nil_append, List.eraseIdx_cons_zero, List.eraseIdx_cons_succ])) | (refine LS_gfnH rfl (by simp) ?_; intro hg; try (dsimp only [st, setL, AV.cells, List.set_cons_zero, List.set_cons_succ, List.drop_zero, List.drop_succ_cons, List.take_zero, List.take_succ_cons, Nat.zero_add, Nat.add_zero, Nat.reduceAdd, List.cons_append, List.nil_append, List.eraseIdx_cons_zero, List.eraseIdx_cons_succ])) | (refine LI_cond_fH rfl (by simp) ?_; intro hg)); refine W ?_)
    refine LS_c0 (fun h' HL wf => heldPlan_ac Q.steps.length Q.outs.length Q.n gs go 1 h' (HL.rdI 3 rfl enStep2 (by decide)) (HL.rdI 4 rfl enI1 (by decide)) (by omega) (by omega)) rfl rfl ?_
    try (dsimp only [st, setL, AV.cells, List.set_cons_zero, List.set_cons_succ, List.drop_zero, List.drop_succ_cons, List.take_zero, List.take_succ_cons, Nat.zero_add, Nat.add_zero, Nat.reduceAdd, List.cons_append, List.nil_append, List.eraseIdx_cons_zero, List.eraseIdx_cons_succ])
    refine W ?_
    try ((first | (refine LS_gtnH rfl (by simp; omega) ?_; intro hg; try (dsimp only [st, setL, AV.cells, List.set_cons_zero, List.set_cons_succ, List.drop_zero, List.drop_succ_cons, List.take_zero, List.take_succ_cons, Nat.zero_add, Nat.add_zero, Nat.reduceAdd, List.cons_append, List.nil_append, List.eraseIdx_cons_zero, List.eraseIdx_cons_succ])) | (refine LS_gfnH rfl (by simp; omega) ?_; intro hg; try (dsimp only [st, setL, AV.cells, List.set_cons_zero, List.set_cons_succ, List.drop_zero, List.drop_succ_cons, List.take_zero, List.take_succ_cons, Nat.zero_add, Nat.add_zero, Nat.reduceAdd, List.cons_append, List.nil_append, List.eraseIdx_cons_zero, List.eraseIdx_cons_succ])) | (refine LI_cond_fH rfl (by simp; omega) ?_; intro hg)); refine W ?_)
    try ((first | (refine LS_gtnH rfl (by simp) ?_; intro hg; try (dsimp only [st, setL, AV.cells, List.set_cons_zero, List.set_cons_succ, List.drop_zero, List.drop_succ_cons, List.take_zero, List.take_succ_cons, Nat.zero_add, Nat.add_zero, Nat.reduceAdd, List.cons_append, List.nil_append, List.eraseIdx_cons_zero, List.eraseIdx_cons_succ])) | (refine LS_gfnH rfl (by simp) ?_; intro hg; try (dsimp only [st, setL, AV.cells, List.set_cons_zero, List.set_cons_succ, List.drop_zero, List.drop_succ_cons, List.take_zero, List.take_succ_cons, Nat.zero_add, Nat.add_zero, Nat.reduceAdd, List.cons_append, List.nil_append, List.eraseIdx_cons_zero, List.eraseIdx_cons_succ])) | (refine LI_cond_fH rfl (by simp) ?_; intro hg)); refine W ?_)
    refine RET fun h' HL => ?_
    try dsimp only [oneA]
end Go.Proofs.Ytdcliofmdlhmaaa
