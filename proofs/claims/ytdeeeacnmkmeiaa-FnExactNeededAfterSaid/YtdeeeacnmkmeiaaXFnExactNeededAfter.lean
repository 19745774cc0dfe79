/- The walk of the law FnExactNeededAfter, part 2: what each function that it reaches computes. -/
import Derived.Test.YtdeeeacnmkmeiaaXFnExactNeededAftera
namespace Go.Proofs.Ytdeeeacnmkmeiaa
open Go.AL
set_option linter.unusedVariables false
set_option linter.unusedSimpArgs false
set_option maxRecDepth 100000
set_option maxHeartbeats 1000000
attribute [local irreducible] AS AI AIL OpR AC CW AWP ALoop LS LI LIL LThen LLoop LBlk LRet Lh AX OpV OpF

theorem needed_ac (p : PlanM) (D : List Int) (b : Nat) (vs vo w : AV) (h : AH) (hp : PlP h b p vs vo) (hk : planOk p = true) (hD : RdG 1 enB h w (fnL p.steps.length (hasL D))) :
    AC Try.prog 86 [.p b 0, w] h (fun r h' => Own h 1 enB h' r (fnL (p.n + p.steps.length).toNat (ndK p D))) := by
  have c0 := hp.c0
  have c1 := hp.c1
  have c2 := hp.c2
  have hs := hp.steps
  have ho := hp.outs
  have hDl := hD.len
  rw [fnL_len] at hDl
  obtain ⟨h1, h2, h3, h4, hf, h6⟩ := planOk_out hk
  refine e86 _ _ fun wf => ?_
  unfold c86
  refine LI_start wf ?_
  refine W ?_
  refine LS_c0 (fun h' HL wf => many_ac p b vs vo h' (hp.le HL.le) (by omega) (by omega) (by omega)) rfl rfl ?_
  try (dsimp only [st, AV.cells, List.set_cons_zero, List.set_cons_succ, List.drop_zero, List.drop_succ_cons, List.take_zero, List.take_succ_cons, Nat.zero_add, Nat.add_zero, Nat.reduceAdd, List.cons_append, List.nil_append, List.eraseIdx_cons_zero, List.eraseIdx_cons_succ])
  refine W ?_
  refine LS_mk false rfl rfl rfl rfl rfl (by omega) (by omega) (by omega) enB1 rfl fun b2 => ?_
  try (dsimp only [st, AV.cells, List.set_cons_zero, List.set_cons_succ, List.drop_zero, List.drop_succ_cons, List.take_zero, List.take_succ_cons, Nat.zero_add, Nat.add_zero, Nat.reduceAdd, List.cons_append, List.nil_append, List.eraseIdx_cons_zero, List.eraseIdx_cons_succ])
  refine W ?_
  refine LIL_ind (fun n a L => ∃ (i : Int), (∃ r : Nat → AV, a = [.p b 0, w, r 2, r 3, r 4, .sl b2 0 (p.n + p.steps.length).toNat true, r 6, r 7, r 8, r 9, r 10, r 11, r 12, r 13, r 14, r 15, r 16, r 17, vo, .i .i64 p.outs.length, .i .i64 i, r 21, r 22, r 23, r 24, r 25, r 26, r 27, r 28, r 29, r 30, r 31, r 32, r 33, r 34, r 35, r 36, r 37, r 38, r 39, r 40, r 41, r 42, r 43, r 44, r 45, r 46, r 47, r 48, r 49, r 50, r 51, r 52, r 53, r 54, r 55, r 56, r 57, r 58, r 59, r 60, r 61, r 62, r 63, r 64, r 65, r 66, r 67, r 68, r 69, r 70, r 71, r 72, r 73, r 74, r 75, r 76, r 77, r 78, r 79, r 80]) ∧ L = [.sl (.sl b2 0 (p.n + p.steps.length).toNat true) 1 ((fnL (p.n + p.steps.length).toNat (hasL (p.outs.take i.toNat))).flatMap enB)] ∧ 0 ≤ i ∧ i + n = p.outs.length)
    p.outs.length ⟨0, exJ rfl, by rw [fnL_rep]; rfl, by omega, by omega⟩ ?_
  rintro n a L ⟨i, ⟨r, rfl⟩, rfl, h0, hn⟩ IH
  refine W ?_
  (first | refine LS_gt rfl ?_ ?_ | refine LS_gf rfl ?_ ?_ | refine LI_cond rfl ?_ ?_) <;> intro hc <;> have hc' := hc <;> try simp only [decide_eq_true_eq, decide_eq_false_iff_not, Bool.not_eq_true', Bool.not_eq_false', Bool.not_eq_true, Bool.not_eq_false, beq_iff_eq, bne_iff_ne, beq_eq_false_iff_ne, bne_eq_false_iff_eq, Int.not_lt, Int.not_le, ge_iff_le, gt_iff_lt, not_and, ne_eq, Decidable.not_not] at hc'
  all_goals (try (dsimp only [st, AV.cells, List.set_cons_zero, List.set_cons_succ, List.drop_zero, List.drop_succ_cons, List.take_zero, List.take_succ_cons, Nat.zero_add, Nat.add_zero, Nat.reduceAdd, List.cons_append, List.nil_append, List.eraseIdx_cons_zero, List.eraseIdx_cons_succ]))
  all_goals (refine W ?_)
  · obtain ⟨y, hy, hym, hd⟩ := drop_at (l := p.outs) h0 hc'
    have hyb := used_bd hk (k := 0) (x := y) (List.mem_append_right _ hym)
    refine LS_ix (fun h' HL => ho.le HL.le) enI1 hy h0 rfl rfl fun q o hrow => ?_
    try (dsimp only [st, AV.cells, List.set_cons_zero, List.set_cons_succ, List.drop_zero, List.drop_succ_cons, List.take_zero, List.take_succ_cons, Nat.zero_add, Nat.add_zero, Nat.reduceAdd, List.cons_append, List.nil_append, List.eraseIdx_cons_zero, List.eraseIdx_cons_succ])
    refine W ?_
    refine LS_is hyb.1 (by omega) rfl rfl ?_
    try (dsimp only [st, AV.cells, List.set_cons_zero, List.set_cons_succ, List.drop_zero, List.drop_succ_cons, List.take_zero, List.take_succ_cons, Nat.zero_add, Nat.add_zero, Nat.reduceAdd, List.cons_append, List.nil_append, List.eraseIdx_cons_zero, List.eraseIdx_cons_succ])
    refine W ?_
    refine LS_ss true 0 y.toNat rfl (by rw [fnL_len]; omega) (by omega) rfl enB1 (by decide) rfl rfl rfl ?_
    try (dsimp only [st, AV.cells, List.set_cons_zero, List.set_cons_succ, List.drop_zero, List.drop_succ_cons, List.take_zero, List.take_succ_cons, Nat.zero_add, Nat.add_zero, Nat.reduceAdd, List.cons_append, List.nil_append, List.eraseIdx_cons_zero, List.eraseIdx_cons_succ])
    refine W ?_
    refine IH (n - 1) _ _ (by omega) ⟨i + 1, exJ rfl, ?_, by omega, by omega⟩
    rw [fnL_set hyb.1, toNat_succ h0, take_snoc hy]
    congr 3
    refine fnL_congr fun x _ _ => ?_
    rw [hasL_snoc]
    by_cases e : x = y
    · simp [e]
    · simp [e, Ne.symm e]
  · have ei : i.toNat = p.outs.length := by omega
    rw [ei, List.take_length]
    clear IH
    refine W ?_
    refine LIL_ind (fun n a L => ∃ (i : Int), (∃ r : Nat → AV, a = [.p b 0, w, r 2, r 3, r 4, .sl b2 0 (p.n + p.steps.length).toNat true, r 6, r 7, r 8, r 9, r 10, r 11, r 12, r 13, r 14, r 15, r 16, r 17, r 18, r 19, r 20, r 21, r 22, r 23, r 24, r 25, r 26, r 27, r 28, r 29, r 30, vs, .i .i64 p.steps.length, .i .i64 i, r 34, r 35, r 36, r 37, r 38, r 39, r 40, r 41, r 42, r 43, r 44, r 45, r 46, r 47, r 48, r 49, r 50, r 51, r 52, r 53, r 54, r 55, r 56, r 57, r 58, r 59, r 60, r 61, r 62, r 63, r 64, r 65, r 66, r 67, r 68, r 69, r 70, r 71, r 72, r 73, r 74, r 75, r 76, r 77, r 78, r 79, r 80]) ∧ L = [.sl (.sl b2 0 (p.n + p.steps.length).toNat true) 1 ((fnL (p.n + p.steps.length).toNat (fun v => hasL p.outs v || ndF D v 0 (p.steps.take i.toNat))).flatMap enB)] ∧ 0 ≤ i ∧ i + n = p.steps.length)
      p.steps.length ⟨0, exJ rfl, by simp [ndF], by omega, by omega⟩ ?_
    rintro n a L ⟨i, ⟨r, rfl⟩, rfl, h0, hn⟩ IH
    refine W ?_
    (first | refine LS_gt rfl ?_ ?_ | refine LS_gf rfl ?_ ?_ | refine LI_cond rfl ?_ ?_) <;> intro hc <;> have hc' := hc <;> try simp only [decide_eq_true_eq, decide_eq_false_iff_not, Bool.not_eq_true', Bool.not_eq_false', Bool.not_eq_true, Bool.not_eq_false, beq_iff_eq, bne_iff_ne, beq_eq_false_iff_ne, bne_eq_false_iff_eq, Int.not_lt, Int.not_le, ge_iff_le, gt_iff_lt, not_and, ne_eq, Decidable.not_not] at hc'
    all_goals (try (dsimp only [st, AV.cells, List.set_cons_zero, List.set_cons_succ, List.drop_zero, List.drop_succ_cons, List.take_zero, List.take_succ_cons, Nat.zero_add, Nat.add_zero, Nat.reduceAdd, List.cons_append, List.nil_append, List.eraseIdx_cons_zero, List.eraseIdx_cons_succ]))
    all_goals (refine W ?_)
    · have hil := hc'
      obtain ⟨s, hs', hsm, hd⟩ := drop_at (l := p.steps) h0 (by omega)
      have hii : ((i.toNat : Nat) : Int) = i := by omega
      have hb1 := used_bd hk (k := 0) (x := s.1) (List.mem_append_left _ (List.mem_flatMap.2 ⟨s, by simpa using hsm, by simp⟩))
      have hb2 := used_bd hk (k := 0) (x := s.2) (List.mem_append_left _ (List.mem_flatMap.2 ⟨s, by simpa using hsm, by simp⟩))
      have hq' : ∀ x, (hasL p.outs x || ndF D x 0 (p.steps.take (i + 1).toNat)) = ((hasL p.outs x || ndF D x 0 (p.steps.take i.toNat)) || (!hasL D i && (s.1 == x || s.2 == x))) := fun x => by
        rw [toNat_succ h0, take_snoc hs', ndF_snoc, List.length_take, Nat.min_eq_left (by omega), Nat.zero_add, hii, ← Bool.or_assoc]
      have hdn : (fnL p.steps.length (hasL D))[i.toNat]? = some (hasL D i) := by rw [fnL_get (by omega), hii]
      refine LS_ix (fun h' HL => hs.le HL.le) enStep2 hs' h0 rfl rfl fun q o hrow => ?_
      try (dsimp only [st, AV.cells, List.set_cons_zero, List.set_cons_succ, List.drop_zero, List.drop_succ_cons, List.take_zero, List.take_succ_cons, Nat.zero_add, Nat.add_zero, Nat.reduceAdd, List.cons_append, List.nil_append, List.eraseIdx_cons_zero, List.eraseIdx_cons_succ])
      refine W ?_
      refine LS_al rfl fun b3 => ?_
      try (dsimp only [st, AV.cells, List.set_cons_zero, List.set_cons_succ, List.drop_zero, List.drop_succ_cons, List.take_zero, List.take_succ_cons, Nat.zero_add, Nat.add_zero, Nat.reduceAdd, List.cons_append, List.nil_append, List.eraseIdx_cons_zero, List.eraseIdx_cons_succ])
      refine W ?_
      refine LS_ix (fun h' HL => hD.le HL.le) enB1 hdn h0 rfl rfl fun q1 o1 hrow1 => ?_
      try (dsimp only [st, AV.cells, List.set_cons_zero, List.set_cons_succ, List.drop_zero, List.drop_succ_cons, List.take_zero, List.take_succ_cons, Nat.zero_add, Nat.add_zero, Nat.reduceAdd, List.cons_append, List.nil_append, List.eraseIdx_cons_zero, List.eraseIdx_cons_succ])
      refine W ?_
      (first | refine LS_gt rfl ?_ ?_ | refine LS_gf rfl ?_ ?_ | refine LI_cond rfl ?_ ?_) <;> intro hc <;> have hc' := hc <;> try simp only [decide_eq_true_eq, decide_eq_false_iff_not, Bool.not_eq_true', Bool.not_eq_false', Bool.not_eq_true, Bool.not_eq_false, beq_iff_eq, bne_iff_ne, beq_eq_false_iff_ne, bne_eq_false_iff_eq, Int.not_lt, Int.not_le, ge_iff_le, gt_iff_lt, not_and, ne_eq, Decidable.not_not] at hc'
      all_goals (try (dsimp only [st, AV.cells, List.set_cons_zero, List.set_cons_succ, List.drop_zero, List.drop_succ_cons, List.take_zero, List.take_succ_cons, Nat.zero_add, Nat.add_zero, Nat.reduceAdd, List.cons_append, List.nil_append, List.eraseIdx_cons_zero, List.eraseIdx_cons_succ]))
      all_goals (refine W ?_)
      · refine dk86_0 [(b3, enStep s)] (by simp) ?_
        refine WX ?_
        refine LX_k 0 noG rfl rfl rfl rfl ?_
        try (dsimp only [st, AV.cells, List.set_cons_zero, List.set_cons_succ, List.drop_zero, List.drop_succ_cons, List.take_zero, List.take_succ_cons, Nat.zero_add, Nat.add_zero, Nat.reduceAdd, List.cons_append, List.nil_append, List.eraseIdx_cons_zero, List.eraseIdx_cons_succ])
        refine WX ?_
        refine W ?_
        refine LX_is hb1.1 (by omega) rfl rfl noG ?_
        try (dsimp only [st, AV.cells, List.set_cons_zero, List.set_cons_succ, List.drop_zero, List.drop_succ_cons, List.take_zero, List.take_succ_cons, Nat.zero_add, Nat.add_zero, Nat.reduceAdd, List.cons_append, List.nil_append, List.eraseIdx_cons_zero, List.eraseIdx_cons_succ])
        refine WX ?_
        refine W ?_
        refine LX_fK noG (LO_ss true 1 s.1.toNat rfl (by rw [fnL_len]; omega) (by omega) rfl enB1 (by decide) rfl rfl rfl ⟨by simp, ?_⟩)
        try (dsimp only [st, AV.cells, List.set_cons_zero, List.set_cons_succ, List.drop_zero, List.drop_succ_cons, List.take_zero, List.take_succ_cons, Nat.zero_add, Nat.add_zero, Nat.reduceAdd, List.cons_append, List.nil_append, List.eraseIdx_cons_zero, List.eraseIdx_cons_succ])
        refine WX ?_
        refine W ?_
        refine LX_is hb2.1 (by omega) rfl rfl noG ?_
        try (dsimp only [st, AV.cells, List.set_cons_zero, List.set_cons_succ, List.drop_zero, List.drop_succ_cons, List.take_zero, List.take_succ_cons, Nat.zero_add, Nat.add_zero, Nat.reduceAdd, List.cons_append, List.nil_append, List.eraseIdx_cons_zero, List.eraseIdx_cons_succ])
        refine WX ?_
        refine W ?_
        refine LX_fK noG (LO_ss true 1 s.2.toNat rfl (by rw [List.length_set, fnL_len]; omega) (by omega) rfl enB1 (by decide) rfl rfl rfl ⟨by simp, ?_⟩)
        try (dsimp only [st, AV.cells, List.set_cons_zero, List.set_cons_succ, List.drop_zero, List.drop_succ_cons, List.take_zero, List.take_succ_cons, Nat.zero_add, Nat.add_zero, Nat.reduceAdd, List.cons_append, List.nil_append, List.eraseIdx_cons_zero, List.eraseIdx_cons_succ])
        refine WX ?_
        refine W ?_
        refine LIL_drop 1 ?_
        refine IH (n - 1) _ _ (by omega) ⟨i + 1, exJ rfl, ?_, by omega, by omega⟩
        rw [fnL_set hb1.1, fnL_set hb2.1]
        simp only [List.drop_succ_cons, List.drop_zero]
        congr 3
        refine fnL_congr fun x _ _ => ?_
        rw [hq', nt hc]
        by_cases e1 : x = s.1
        · simp [e1]
        · by_cases e2 : x = s.2
          · simp [e2]
          · simp [e1, e2, Ne.symm e1, Ne.symm e2]
      · refine LIL_drop 1 ?_
        refine IH (n - 1) _ _ (by omega) ⟨i + 1, exJ rfl, ?_, by omega, by omega⟩
        simp only [List.drop_succ_cons, List.drop_zero]
        congr 3
        refine fnL_congr fun x _ _ => ?_
        rw [hq', nf hc]
        simp
    · have ei : i.toNat = p.steps.length := by omega
      rw [ei, List.take_length]
      clear IH
      refine W ?_
      refine LIL_ind (fun n a L => ∃ (i : Int), (∃ r : Nat → AV, a = [.p b 0, r 1, r 2, r 3, r 4, .sl b2 0 (p.n + p.steps.length).toNat true, r 6, r 7, r 8, r 9, r 10, r 11, r 12, r 13, r 14, r 15, r 16, r 17, r 18, r 19, r 20, r 21, r 22, r 23, r 24, r 25, r 26, r 27, r 28, r 29, r 30, r 31, r 32, r 33, r 34, r 35, r 36, r 37, r 38, r 39, r 40, r 41, r 42, r 43, r 44, r 45, r 46, r 47, r 48, r 49, r 50, r 51, w, .i .i64 p.steps.length, .i .i64 i, r 55, r 56, r 57, r 58, r 59, r 60, r 61, r 62, r 63, r 64, r 65, r 66, r 67, r 68, r 69, r 70, r 71, r 72, r 73, r 74, r 75, r 76, r 77, r 78, r 79, r 80]) ∧ L = [.sl (.sl b2 0 (p.n + p.steps.length).toNat true) 1 ((fnL (p.n + p.steps.length).toNat (fun v => ndP p D v && (decide (v < p.n) || decide (v ≥ p.n + i) || hasL D (v - p.n)))).flatMap enB)] ∧ 0 ≤ i ∧ i + n = p.steps.length)
        p.steps.length ⟨0, exJ rfl, ?_, by omega, by omega⟩ ?_
      · congr 3
        refine fnL_congr fun x _ _ => ?_
        rw [show (decide (x < p.n) || decide (x ≥ p.n + 0)) = true by simp; omega]
        simp [ndP]
      rintro n a L ⟨i, ⟨r, rfl⟩, rfl, h0, hn⟩ IH
      refine W ?_
      (first | refine LS_gt rfl ?_ ?_ | refine LS_gf rfl ?_ ?_ | refine LI_cond rfl ?_ ?_) <;> intro hc <;> have hc' := hc <;> try simp only [decide_eq_true_eq, decide_eq_false_iff_not, Bool.not_eq_true', Bool.not_eq_false', Bool.not_eq_true, Bool.not_eq_false, beq_iff_eq, bne_iff_ne, beq_eq_false_iff_ne, bne_eq_false_iff_eq, Int.not_lt, Int.not_le, ge_iff_le, gt_iff_lt, not_and, ne_eq, Decidable.not_not] at hc'
      all_goals (try (dsimp only [st, AV.cells, List.set_cons_zero, List.set_cons_succ, List.drop_zero, List.drop_succ_cons, List.take_zero, List.take_succ_cons, Nat.zero_add, Nat.add_zero, Nat.reduceAdd, List.cons_append, List.nil_append, List.eraseIdx_cons_zero, List.eraseIdx_cons_succ]))
      all_goals (refine W ?_)
      · have hil := hc'
        have hii : ((i.toNat : Nat) : Int) = i := by omega
        have hdn : (fnL p.steps.length (hasL D))[i.toNat]? = some (hasL D i) := by rw [fnL_get (by omega), hii]
        have hun : (fnL (p.n + p.steps.length).toNat (fun v => ndP p D v && (decide (v < p.n) || decide (v ≥ p.n + i) || hasL D (v - p.n))))[(p.n + i).toNat]? = some (ndP p D (p.n + i)) := by
          rw [fnL_get (by omega), show (((p.n + i).toNat : Nat) : Int) = p.n + i by omega]
          simp
        have hfin : ∀ t, t = (ndP p D (p.n + i) && hasL D i) → (fnL (p.n + p.steps.length).toNat (fun v => ndP p D v && (decide (v < p.n) || decide (v ≥ p.n + i) || hasL D (v - p.n)))).set (p.n + i).toNat t = fnL (p.n + p.steps.length).toNat (fun v => ndP p D v && (decide (v < p.n) || decide (v ≥ p.n + (i + 1)) || hasL D (v - p.n))) := fun t ht => by
          rw [fnL_set (by omega)]
          refine fnL_congr fun x _ _ => ?_
          by_cases e : x = p.n + i
          · rw [if_pos e, ht, e, show p.n + i - p.n = i by omega, show decide (p.n + i < p.n) = false by simp; omega, show decide (p.n + i ≥ p.n + (i + 1)) = false by simp; omega]
            rfl
          · rw [if_neg e, show decide (x ≥ p.n + i) = decide (x ≥ p.n + (i + 1)) by simp; omega]
        generalize hasL D i = tD at hdn hfin
        generalize ndP p D (p.n + i) = tP at hun hfin
        refine LS_ix (fun h' HL => hD.le HL.le) enB1 hdn h0 rfl rfl fun q1 o1 hrow1 => ?_
        try (dsimp only [st, AV.cells, List.set_cons_zero, List.set_cons_succ, List.drop_zero, List.drop_succ_cons, List.take_zero, List.take_succ_cons, Nat.zero_add, Nat.add_zero, Nat.reduceAdd, List.cons_append, List.nil_append, List.eraseIdx_cons_zero, List.eraseIdx_cons_succ])
        refine W ?_
        cases tP
        · refine dz86_1 ?_
          refine WX ?_
          refine W ?_
          refine LX_ix (fun h' HL => HL.rdI 0 rfl enB1 (by decide)) enB1 hun (by omega) rfl rfl noG fun q2 o2 hrow2 => ?_
          try (dsimp only [st, AV.cells, List.set_cons_zero, List.set_cons_succ, List.drop_zero, List.drop_succ_cons, List.take_zero, List.take_succ_cons, Nat.zero_add, Nat.add_zero, Nat.reduceAdd, List.cons_append, List.nil_append, List.eraseIdx_cons_zero, List.eraseIdx_cons_succ])
          refine WX ?_
          refine W ?_
          refine LX_is (j := p.n + i) (by omega) (by omega) rfl rfl noG ?_
          try (dsimp only [st, AV.cells, List.set_cons_zero, List.set_cons_succ, List.drop_zero, List.drop_succ_cons, List.take_zero, List.take_succ_cons, Nat.zero_add, Nat.add_zero, Nat.reduceAdd, List.cons_append, List.nil_append, List.eraseIdx_cons_zero, List.eraseIdx_cons_succ])
          refine WX ?_
          refine W ?_
          refine LX_f noG (LO_ss false 0 (p.n + i).toNat rfl (by rw [fnL_len]; omega) (by omega) rfl enB1 (by decide) rfl rfl rfl ?_)
          try (dsimp only [st, AV.cells, List.set_cons_zero, List.set_cons_succ, List.drop_zero, List.drop_succ_cons, List.take_zero, List.take_succ_cons, Nat.zero_add, Nat.add_zero, Nat.reduceAdd, List.cons_append, List.nil_append, List.eraseIdx_cons_zero, List.eraseIdx_cons_succ])
          refine WX ?_
          refine W ?_
          refine IH (n - 1) _ _ (by omega) ⟨i + 1, exJ rfl, by rw [← hfin _ rfl]; simp, by omega, by omega⟩
        · refine dz86_1 ?_
          refine WX ?_
          refine W ?_
          refine LX_ix (fun h' HL => HL.rdI 0 rfl enB1 (by decide)) enB1 hun (by omega) rfl rfl noG fun q2 o2 hrow2 => ?_
          try (dsimp only [st, AV.cells, List.set_cons_zero, List.set_cons_succ, List.drop_zero, List.drop_succ_cons, List.take_zero, List.take_succ_cons, Nat.zero_add, Nat.add_zero, Nat.reduceAdd, List.cons_append, List.nil_append, List.eraseIdx_cons_zero, List.eraseIdx_cons_succ])
          refine WX ?_
          refine W ?_
          refine LX_is (j := p.n + i) (by omega) (by omega) rfl rfl noG ?_
          try (dsimp only [st, AV.cells, List.set_cons_zero, List.set_cons_succ, List.drop_zero, List.drop_succ_cons, List.take_zero, List.take_succ_cons, Nat.zero_add, Nat.add_zero, Nat.reduceAdd, List.cons_append, List.nil_append, List.eraseIdx_cons_zero, List.eraseIdx_cons_succ])
          refine WX ?_
          refine W ?_
          refine LX_f noG (LO_ss tD 0 (p.n + i).toNat rfl (by rw [fnL_len]; omega) (by omega) rfl enB1 (by decide) rfl rfl rfl ?_)
          try (dsimp only [st, AV.cells, List.set_cons_zero, List.set_cons_succ, List.drop_zero, List.drop_succ_cons, List.take_zero, List.take_succ_cons, Nat.zero_add, Nat.add_zero, Nat.reduceAdd, List.cons_append, List.nil_append, List.eraseIdx_cons_zero, List.eraseIdx_cons_succ])
          refine WX ?_
          refine W ?_
          refine IH (n - 1) _ _ (by omega) ⟨i + 1, exJ rfl, by rw [← hfin _ rfl]; simp, by omega, by omega⟩
      · have e2 : fnL (p.n + p.steps.length).toNat (fun v => ndP p D v && (decide (v < p.n) || decide (v ≥ p.n + i) || hasL D (v - p.n))) = fnL (p.n + p.steps.length).toNat (ndK p D) := fnL_congr fun x hx0 hx1 => by
          rw [show decide (x ≥ p.n + i) = false by simp; omega, ndK]
          by_cases e : x < p.n
          · simp [e, show ¬ (p.n ≤ x) by omega]
          · simp [e, show p.n ≤ x by omega, Bool.and_comm]
        refine RET fun h' HL => ?_
        try dsimp only [oneA]
        rw [← e2]
        exact HL.ownI 0 rfl enB1 (by decide)

theorem doneFirst_ac (p : PlanM) (k : Int) (b : Nat) (vs vo : AV) (h : AH) (hp : PlP h b p vs vo) (hk : planOk p = true) (hk0 : 0 ≤ k) (hk1 : k ≤ p.steps.length) :
    AC Try.prog 87 [.p b 0, .i .i64 k] h (fun r h' => Own h 1 enB h' r (fnL p.steps.length (hasL (iotaI k.toNat)))) := by
  have c0 := hp.c0
  have c1 := hp.c1
  have c2 := hp.c2
  have hs := hp.steps
  obtain ⟨h1, h2, h3, h4, hf, h6⟩ := planOk_out hk
  refine e87 _ _ fun wf => ?_
  unfold c87
  refine LI_start wf ?_
  refine W ?_
  refine LS_mk false rfl rfl rfl rfl rfl (by omega) (by omega) (by omega) enB1 rfl fun b2 => ?_
  try (dsimp only [st, AV.cells, List.set_cons_zero, List.set_cons_succ, List.drop_zero, List.drop_succ_cons, List.take_zero, List.take_succ_cons, Nat.zero_add, Nat.add_zero, Nat.reduceAdd, List.cons_append, List.nil_append, List.eraseIdx_cons_zero, List.eraseIdx_cons_succ])
  refine W ?_
  refine LIL_ind (fun n a L => ∃ (i : Int), (∃ r : Nat → AV, a = [r 0, r 1, r 2, r 3, r 4, .sl b2 0 (p.steps.length : Int).toNat true, r 6, r 7, r 8, r 9, r 10, r 11, r 12, .i .i64 k, .i .i64 i, r 15, r 16, r 17, r 18, r 19, r 20, r 21]) ∧ L = [.sl (.sl b2 0 (p.steps.length : Int).toNat true) 1 ((fnL p.steps.length (hasL (iotaI i.toNat))).flatMap enB)] ∧ 0 ≤ i ∧ i + n = k)
    k.toNat ⟨0, exJ rfl, by rw [fnL_rep]; rfl, by omega, by omega⟩ ?_
  rintro n a L ⟨i, ⟨r, rfl⟩, rfl, h0, hn⟩ IH
  refine W ?_
  (first | refine LS_gt rfl ?_ ?_ | refine LS_gf rfl ?_ ?_ | refine LI_cond rfl ?_ ?_) <;> intro hc <;> have hc' := hc <;> try simp only [decide_eq_true_eq, decide_eq_false_iff_not, Bool.not_eq_true', Bool.not_eq_false', Bool.not_eq_true, Bool.not_eq_false, beq_iff_eq, bne_iff_ne, beq_eq_false_iff_ne, bne_eq_false_iff_eq, Int.not_lt, Int.not_le, ge_iff_le, gt_iff_lt, not_and, ne_eq, Decidable.not_not] at hc'
  all_goals (try (dsimp only [st, AV.cells, List.set_cons_zero, List.set_cons_succ, List.drop_zero, List.drop_succ_cons, List.take_zero, List.take_succ_cons, Nat.zero_add, Nat.add_zero, Nat.reduceAdd, List.cons_append, List.nil_append, List.eraseIdx_cons_zero, List.eraseIdx_cons_succ]))
  all_goals (refine W ?_)
  · have hii : ((i.toNat : Nat) : Int) = i := by omega
    refine LS_is h0 (by omega) rfl rfl ?_
    try (dsimp only [st, AV.cells, List.set_cons_zero, List.set_cons_succ, List.drop_zero, List.drop_succ_cons, List.take_zero, List.take_succ_cons, Nat.zero_add, Nat.add_zero, Nat.reduceAdd, List.cons_append, List.nil_append, List.eraseIdx_cons_zero, List.eraseIdx_cons_succ])
    refine W ?_
    refine LS_ss true 0 i.toNat rfl (by rw [fnL_len]; omega) (by omega) rfl enB1 (by decide) rfl rfl rfl ?_
    try (dsimp only [st, AV.cells, List.set_cons_zero, List.set_cons_succ, List.drop_zero, List.drop_succ_cons, List.take_zero, List.take_succ_cons, Nat.zero_add, Nat.add_zero, Nat.reduceAdd, List.cons_append, List.nil_append, List.eraseIdx_cons_zero, List.eraseIdx_cons_succ])
    refine W ?_
    refine IH (n - 1) _ _ (by omega) ⟨i + 1, exJ rfl, ?_, by omega, by omega⟩
    rw [fnL_set h0, toNat_succ h0, iotaI_succ, hii]
    congr 3
    refine fnL_congr fun x _ _ => ?_
    rw [hasL_snoc]
    by_cases e : x = i
    · simp [e]
    · simp [e, Ne.symm e]
  · have ei : i = k := by omega
    subst ei
    refine RET fun h' HL => ?_
    try dsimp only [oneA]
    exact HL.ownI 0 rfl enB1 (by decide)

def needR (p : PlanM) (k : Int) : List Int := if (planOk p && atB p k) = true then needM p (iotaI k.toNat) else []

theorem iotaI_len (n : Nat) : (iotaI n).length = n := by simp [iotaI]

theorem specNeededAfter_ac (p : PlanM) (k : Int) (v : AV) (h : AH) (hR : PlR h v p) (hw : PSm p) : AC Try.prog 40 [v, .i .i64 k] h (fun r h' => ∃ M, TupI (needR p k) (planOk p && atB p k) r M ∧ Loq h h' M) := by
  have hR0 := hR
  obtain ⟨vs, vo, rfl, hs, ho⟩ := hR
  refine e40 _ _ fun wf => ?_
  unfold c40
  refine LI_start wf ?_
  refine W ?_
  refine LS_bxn rfl (sc_cons rfl (sc_cons (rd_sc hs) (sc_cons (rd_sc ho) rfl))) fun b1 => ?_
  try (dsimp only [st, AV.cells, List.set_cons_zero, List.set_cons_succ, List.drop_zero, List.drop_succ_cons, List.take_zero, List.take_succ_cons, Nat.zero_add, Nat.add_zero, Nat.reduceAdd, List.cons_append, List.nil_append, List.eraseIdx_cons_zero, List.eraseIdx_cons_succ])
  refine W ?_
  refine LS_c0 (fun h' HL wf => good_ac p _ h' (hR0.le HL.le) hw) rfl rfl ?_
  try (dsimp only [st, AV.cells, List.set_cons_zero, List.set_cons_succ, List.drop_zero, List.drop_succ_cons, List.take_zero, List.take_succ_cons, Nat.zero_add, Nat.add_zero, Nat.reduceAdd, List.cons_append, List.nil_append, List.eraseIdx_cons_zero, List.eraseIdx_cons_succ])
  refine W ?_
  (first | refine LS_gt rfl ?_ ?_ | refine LS_gf rfl ?_ ?_ | refine LI_cond rfl ?_ ?_) <;> intro hc <;> have hc' := hc <;> try simp only [decide_eq_true_eq, decide_eq_false_iff_not, Bool.not_eq_true', Bool.not_eq_false', Bool.not_eq_true, Bool.not_eq_false, beq_iff_eq, bne_iff_ne, beq_eq_false_iff_ne, bne_eq_false_iff_eq, Int.not_lt, Int.not_le, ge_iff_le, gt_iff_lt, not_and, ne_eq, Decidable.not_not] at hc'
  all_goals (try (dsimp only [st, AV.cells, List.set_cons_zero, List.set_cons_succ, List.drop_zero, List.drop_succ_cons, List.take_zero, List.take_succ_cons, Nat.zero_add, Nat.add_zero, Nat.reduceAdd, List.cons_append, List.nil_append, List.eraseIdx_cons_zero, List.eraseIdx_cons_succ]))
  all_goals (refine W ?_)
  · have hk := nf hc
    refine LS_c0' (fun h' HL wf => l1In_ac k 0 _ h') rfl rfl ?_
    try (dsimp only [st, AV.cells, List.set_cons_zero, List.set_cons_succ, List.drop_zero, List.drop_succ_cons, List.take_zero, List.take_succ_cons, Nat.zero_add, Nat.add_zero, Nat.reduceAdd, List.cons_append, List.nil_append, List.eraseIdx_cons_zero, List.eraseIdx_cons_succ])
    refine W ?_
    (first | refine LS_gt rfl ?_ ?_ | refine LS_gf rfl ?_ ?_ | refine LI_cond rfl ?_ ?_) <;> intro hc <;> have hc' := hc <;> try simp only [decide_eq_true_eq, decide_eq_false_iff_not, Bool.not_eq_true', Bool.not_eq_false', Bool.not_eq_true, Bool.not_eq_false, beq_iff_eq, bne_iff_ne, beq_eq_false_iff_ne, bne_eq_false_iff_eq, Int.not_lt, Int.not_le, ge_iff_le, gt_iff_lt, not_and, ne_eq, Decidable.not_not] at hc'
    all_goals (try (dsimp only [st, AV.cells, List.set_cons_zero, List.set_cons_succ, List.drop_zero, List.drop_succ_cons, List.take_zero, List.take_succ_cons, Nat.zero_add, Nat.add_zero, Nat.reduceAdd, List.cons_append, List.nil_append, List.eraseIdx_cons_zero, List.eraseIdx_cons_succ]))
    all_goals (refine W ?_)
    · have hx : atB p k = false := nt hc
      rw [needR, hk, hx, Bool.and_false, if_neg (by simp)]
      refine RET fun h' HL => ?_
      try dsimp only [oneA]
      exact TupI.none HL
    · have hx : atB p k = true := nf hc
      have hxb := of_decide_eq_true hx
      have hpo := planOk_out hk
      rw [needR, hk, hx, Bool.and_self, if_pos rfl]
      refine dz40_0 ?_
      refine WX ?_
      refine W ?_
      refine LX_co (fun h' HL wf => plUpTo_ac k h'.frz (frz_wf wf) hxb.1 (by omega)) enI1 rfl rfl noG fun w hw sw => ?_
      try (dsimp only [st, AV.cells, List.set_cons_zero, List.set_cons_succ, List.drop_zero, List.drop_succ_cons, List.take_zero, List.take_succ_cons, Nat.zero_add, Nat.add_zero, Nat.reduceAdd, List.cons_append, List.nil_append, List.eraseIdx_cons_zero, List.eraseIdx_cons_succ])
      refine WX ?_
      refine W ?_
      refine LX_co (fun h' HL wf => reNeeded_ac p (iotaI k.toNat) _ w h'.frz (hR0.le HL.le).frz (HL.rdI 0 rfl enI1 (by decide)).frz hk (by rw [iotaI_len]; omega)) enI1 rfl rfl noG fun w2 hw2 sw2 => ?_
      try (dsimp only [st, AV.cells, List.set_cons_zero, List.set_cons_succ, List.drop_zero, List.drop_succ_cons, List.take_zero, List.take_succ_cons, Nat.zero_add, Nat.add_zero, Nat.reduceAdd, List.cons_append, List.nil_append, List.eraseIdx_cons_zero, List.eraseIdx_cons_succ])
      refine WX ?_
      refine W ?_
      refine RET fun h' HL => ?_
      try dsimp only [oneA]
      exact TupI.of (HL.ownI 0 rfl enI1 (by decide))
  · rw [needR, nt hc, Bool.false_and, if_neg (by simp)]
    refine RET fun h' HL => ?_
    try dsimp only [oneA]
    exact TupI.none HL

theorem implNeededAfter_ac (p : PlanM) (k : Int) (v : AV) (h : AH) (hR : PlR h v p) (hw : PSm p) : AC Try.prog 41 [v, .i .i64 k] h (fun r h' => ∃ M, TupI (needR p k) (planOk p && atB p k) r M ∧ Loq h h' M) := by
  have hR0 := hR
  obtain ⟨vs, vo, rfl, hs, ho⟩ := hR
  refine e41 _ _ fun wf => ?_
  unfold c41
  refine LI_start wf ?_
  refine W ?_
  refine LS_bxn rfl (sc_cons rfl (sc_cons (rd_sc hs) (sc_cons (rd_sc ho) rfl))) fun b1 => ?_
  try (dsimp only [st, AV.cells, List.set_cons_zero, List.set_cons_succ, List.drop_zero, List.drop_succ_cons, List.take_zero, List.take_succ_cons, Nat.zero_add, Nat.add_zero, Nat.reduceAdd, List.cons_append, List.nil_append, List.eraseIdx_cons_zero, List.eraseIdx_cons_succ])
  refine W ?_
  refine LS_c0 (fun h' HL wf => isPlan_ac p _ h' (hR0.le HL.le) hw) rfl rfl ?_
  try (dsimp only [st, AV.cells, List.set_cons_zero, List.set_cons_succ, List.drop_zero, List.drop_succ_cons, List.take_zero, List.take_succ_cons, Nat.zero_add, Nat.add_zero, Nat.reduceAdd, List.cons_append, List.nil_append, List.eraseIdx_cons_zero, List.eraseIdx_cons_succ])
  refine W ?_
  (first | refine LS_gt rfl ?_ ?_ | refine LS_gf rfl ?_ ?_ | refine LI_cond rfl ?_ ?_) <;> intro hc <;> have hc' := hc <;> try simp only [decide_eq_true_eq, decide_eq_false_iff_not, Bool.not_eq_true', Bool.not_eq_false', Bool.not_eq_true, Bool.not_eq_false, beq_iff_eq, bne_iff_ne, beq_eq_false_iff_ne, bne_eq_false_iff_eq, Int.not_lt, Int.not_le, ge_iff_le, gt_iff_lt, not_and, ne_eq, Decidable.not_not] at hc'
  all_goals (try (dsimp only [st, AV.cells, List.set_cons_zero, List.set_cons_succ, List.drop_zero, List.drop_succ_cons, List.take_zero, List.take_succ_cons, Nat.zero_add, Nat.add_zero, Nat.reduceAdd, List.cons_append, List.nil_append, List.eraseIdx_cons_zero, List.eraseIdx_cons_succ]))
  all_goals (refine W ?_)
  · have hk := nf hc
    refine LS_c0' (fun h' HL wf => in_ac k 0 _ h') rfl rfl ?_
    try (dsimp only [st, AV.cells, List.set_cons_zero, List.set_cons_succ, List.drop_zero, List.drop_succ_cons, List.take_zero, List.take_succ_cons, Nat.zero_add, Nat.add_zero, Nat.reduceAdd, List.cons_append, List.nil_append, List.eraseIdx_cons_zero, List.eraseIdx_cons_succ])
    refine W ?_
    (first | refine LS_gt rfl ?_ ?_ | refine LS_gf rfl ?_ ?_ | refine LI_cond rfl ?_ ?_) <;> intro hc <;> have hc' := hc <;> try simp only [decide_eq_true_eq, decide_eq_false_iff_not, Bool.not_eq_true', Bool.not_eq_false', Bool.not_eq_true, Bool.not_eq_false, beq_iff_eq, bne_iff_ne, beq_eq_false_iff_ne, bne_eq_false_iff_eq, Int.not_lt, Int.not_le, ge_iff_le, gt_iff_lt, not_and, ne_eq, Decidable.not_not] at hc'
    all_goals (try (dsimp only [st, AV.cells, List.set_cons_zero, List.set_cons_succ, List.drop_zero, List.drop_succ_cons, List.take_zero, List.take_succ_cons, Nat.zero_add, Nat.add_zero, Nat.reduceAdd, List.cons_append, List.nil_append, List.eraseIdx_cons_zero, List.eraseIdx_cons_succ]))
    all_goals (refine W ?_)
    · have hx : atB p k = false := nt hc
      rw [needR, hk, hx, Bool.and_false, if_neg (by simp)]
      refine RET fun h' HL => ?_
      try dsimp only [oneA]
      exact TupI.none HL
    · have hx : atB p k = true := nf hc
      have hxb := of_decide_eq_true hx
      have hpo := planOk_out hk
      rw [needR, hk, hx, Bool.and_self, if_pos rfl]
      refine LS_lt ([] : List Int) rfl rfl (by decide) rfl rfl rfl rfl enI1 rfl rfl fun lit3 hlit3 slit3 => ?_
      try (dsimp only [st, AV.cells, List.set_cons_zero, List.set_cons_succ, List.drop_zero, List.drop_succ_cons, List.take_zero, List.take_succ_cons, Nat.zero_add, Nat.add_zero, Nat.reduceAdd, List.cons_append, List.nil_append, List.eraseIdx_cons_zero, List.eraseIdx_cons_succ])
      refine W ?_
      refine LS_co (fun h' HL wf => doneFirst_ac p k b1 vs vo h' ⟨HL.rowsP 1 rfl (Nat.le_refl 3) rfl, hs.le HL.le, ho.le HL.le⟩ hk hxb.1 hxb.2) enB1 rfl rfl fun w hw sw => ?_
      try (dsimp only [st, AV.cells, List.set_cons_zero, List.set_cons_succ, List.drop_zero, List.drop_succ_cons, List.take_zero, List.take_succ_cons, Nat.zero_add, Nat.add_zero, Nat.reduceAdd, List.cons_append, List.nil_append, List.eraseIdx_cons_zero, List.eraseIdx_cons_succ])
      refine W ?_
      refine LS_co (fun h' HL wf => needed_ac p (iotaI k.toNat) b1 vs vo w h' ⟨HL.rowsP 2 rfl (Nat.le_refl 3) rfl, hs.le HL.le, ho.le HL.le⟩ hk (HL.rdI 0 rfl enB1 (by decide))) enB1 rfl rfl fun w2 hw2 sw2 => ?_
      try (dsimp only [st, AV.cells, List.set_cons_zero, List.set_cons_succ, List.drop_zero, List.drop_succ_cons, List.take_zero, List.take_succ_cons, Nat.zero_add, Nat.add_zero, Nat.reduceAdd, List.cons_append, List.nil_append, List.eraseIdx_cons_zero, List.eraseIdx_cons_succ])
      refine W ?_
      refine LIL_ind (fun n a L => ∃ (x : Int) (o : AV) (e : List Int), (∃ r : Nat → AV, a = [r 0, r 1, r 2, r 3, r 4, r 5, o, r 7, r 8, r 9, r 10, r 11, r 12, r 13, r 14, r 15, r 16, r 17, r 18, r 19, r 20, r 21, r 22, w2, .i .i64 ((p.n + p.steps.length).toNat : Nat), .i .i64 x, r 26, r 27, r 28, r 29, r 30, r 31, r 32, r 33, r 34, r 35, r 36]) ∧ L = [.sl w2 1 ((fnL (p.n + p.steps.length).toNat (ndK p (iotaI k.toNat))).flatMap enB), .sl w 1 ((fnL p.steps.length (hasL (iotaI k.toNat))).flatMap enB), .sl o 1 (e.flatMap enI), .pt b1 [.i .i64 p.n, vs, vo]] ∧ 0 ≤ x ∧ x + n = p.n + p.steps.length ∧ e = (iotaI x.toNat).filter (ndK p (iotaI k.toNat)))
        (p.n + p.steps.length).toNat ⟨0, _, [], exJ (by simp only [fnL_len]; rfl), rfl, by omega, by omega, rfl⟩ ?_
      rintro n a L ⟨x, o, e, ⟨r, rfl⟩, rfl, h0, hn, he⟩ IH
      have hel : e.length ≤ x.toNat := by rw [he]; refine Nat.le_trans (List.length_filter_le _ _) ?_; simp [iotaI]
      have hii : ((x.toNat : Nat) : Int) = x := by omega
      have hnx : (iotaI (x + 1).toNat).filter (ndK p (iotaI k.toNat)) = e ++ [x].filter (ndK p (iotaI k.toNat)) := by
        rw [toNat_succ h0, iotaI_succ, List.filter_append, ← he, hii]
      rw [List.filter_cons, List.filter_nil] at hnx
      refine W ?_
      (first | refine LS_gt rfl ?_ ?_ | refine LS_gf rfl ?_ ?_ | refine LI_cond rfl ?_ ?_) <;> intro hc <;> have hc' := hc <;> try simp only [decide_eq_true_eq, decide_eq_false_iff_not, Bool.not_eq_true', Bool.not_eq_false', Bool.not_eq_true, Bool.not_eq_false, beq_iff_eq, bne_iff_ne, beq_eq_false_iff_ne, bne_eq_false_iff_eq, Int.not_lt, Int.not_le, ge_iff_le, gt_iff_lt, not_and, ne_eq, Decidable.not_not] at hc'
      all_goals (try (dsimp only [st, AV.cells, List.set_cons_zero, List.set_cons_succ, List.drop_zero, List.drop_succ_cons, List.take_zero, List.take_succ_cons, Nat.zero_add, Nat.add_zero, Nat.reduceAdd, List.cons_append, List.nil_append, List.eraseIdx_cons_zero, List.eraseIdx_cons_succ]))
      all_goals (refine W ?_)
      · have hu : (fnL (p.n + p.steps.length).toNat (ndK p (iotaI k.toNat)))[x.toNat]? = some (ndK p (iotaI k.toNat) x) := by rw [fnL_get (by omega), hii]
        refine LS_ix (fun h' HL => HL.rdI 0 rfl enB1 (by decide)) enB1 hu h0 rfl rfl fun q o hrow => ?_
        try (dsimp only [st, AV.cells, List.set_cons_zero, List.set_cons_succ, List.drop_zero, List.drop_succ_cons, List.take_zero, List.take_succ_cons, Nat.zero_add, Nat.add_zero, Nat.reduceAdd, List.cons_append, List.nil_append, List.eraseIdx_cons_zero, List.eraseIdx_cons_succ])
        refine W ?_
        (first | refine LS_gt rfl ?_ ?_ | refine LS_gf rfl ?_ ?_ | refine LI_cond rfl ?_ ?_) <;> intro hc <;> have hc' := hc <;> try simp only [decide_eq_true_eq, decide_eq_false_iff_not, Bool.not_eq_true', Bool.not_eq_false', Bool.not_eq_true, Bool.not_eq_false, beq_iff_eq, bne_iff_ne, beq_eq_false_iff_ne, bne_eq_false_iff_eq, Int.not_lt, Int.not_le, ge_iff_le, gt_iff_lt, not_and, ne_eq, Decidable.not_not] at hc'
        all_goals (try (dsimp only [st, AV.cells, List.set_cons_zero, List.set_cons_succ, List.drop_zero, List.drop_succ_cons, List.take_zero, List.take_succ_cons, Nat.zero_add, Nat.add_zero, Nat.reduceAdd, List.cons_append, List.nil_append, List.eraseIdx_cons_zero, List.eraseIdx_cons_succ]))
        all_goals (refine W ?_)
        · rw [hc, if_pos rfl] at hnx
          refine LS_lt [x] rfl rfl (by decide) rfl rfl rfl rfl enI1 rfl rfl fun lit7 hlit7 slit7 => ?_
          try (dsimp only [st, AV.cells, List.set_cons_zero, List.set_cons_succ, List.drop_zero, List.drop_succ_cons, List.take_zero, List.take_succ_cons, Nat.zero_add, Nat.add_zero, Nat.reduceAdd, List.cons_append, List.nil_append, List.eraseIdx_cons_zero, List.eraseIdx_cons_succ])
          refine W ?_
          refine LS_ap 3 rfl (fun h' HL => HL.rdI 0 rfl enI1 (by decide)) enI1 (by decide) (by simp) (by simp; omega) (by simp; omega) rfl rfl rfl fun w8 hw8 sw8 => ?_
          try (dsimp only [st, AV.cells, List.set_cons_zero, List.set_cons_succ, List.drop_zero, List.drop_succ_cons, List.take_zero, List.take_succ_cons, Nat.zero_add, Nat.add_zero, Nat.reduceAdd, List.cons_append, List.nil_append, List.eraseIdx_cons_zero, List.eraseIdx_cons_succ])
          refine W ?_
          refine LIL_drop 1 ?_
          refine IH (n - 1) _ _ (by omega) ⟨x + 1, _, _, exJ rfl, rfl, by omega, by omega, hnx.symm⟩
        · rw [hc, if_neg (by simp), List.append_nil] at hnx
          refine IH (n - 1) _ _ (by omega) ⟨x + 1, _, _, exJ rfl, rfl, by omega, by omega, hnx.symm⟩
      · have ex : x.toNat = (p.n + p.steps.length).toNat := by omega
        have e1 : e = needM p (iotaI k.toNat) := by rw [he, ex]; rfl
        refine RET fun h' HL => ?_
        try dsimp only [oneA]
        rw [← e1]
        exact TupI.of (HL.ownI 2 rfl enI1 (by decide))
  · rw [needR, nt hc, Bool.false_and, if_neg (by simp)]
    refine RET fun h' HL => ?_
    try dsimp only [oneA]
    exact TupI.none HL

theorem needR_len {p : PlanM} {k : Int} : (needR p k).length ≤ 1048576 := by
  unfold needR
  split
  · rename_i e
    simp only [Bool.and_eq_true] at e
    obtain ⟨h1, h2, h3, h4, hf, h6⟩ := planOk_out e.1
    have := needM_len p (iotaI k.toNat)
    omega
  · simp

theorem lawFnExactNeededAfter_ac (p : PlanM) (v : AV) (k : Int) (wk : (Lit.int .i64 k).wf = true) (h : AH) (hR : PlR h v p) (hw0 : p.wf) : AC Try.prog 11 [v, .i .i64 k] h (fun r h' => r = .b true) := by
  have hR0 := hR
  obtain ⟨vs, vo, rfl, hs, ho⟩ := hR
  refine e11 _ _ fun wf => ?_
  unfold c11
  refine LI_start wf ?_
  refine W ?_
  refine LS_bxn rfl (sc_cons rfl (sc_cons (rd_sc hs) (sc_cons (rd_sc ho) rfl))) fun b1 => ?_
  try (dsimp only [st, AV.cells, List.set_cons_zero, List.set_cons_succ, List.drop_zero, List.drop_succ_cons, List.take_zero, List.take_succ_cons, Nat.zero_add, Nat.add_zero, Nat.reduceAdd, List.cons_append, List.nil_append, List.eraseIdx_cons_zero, List.eraseIdx_cons_succ])
  refine W ?_
  refine LS_cq (fun h' HL wf => szPlan_ac p _ 1048576 h' (hR0.le HL.le) (by omega) (by omega) hw0.ls hw0.lo) rfl rfl ?_
  try (dsimp only [st, AV.cells, List.set_cons_zero, List.set_cons_succ, List.drop_zero, List.drop_succ_cons, List.take_zero, List.take_succ_cons, Nat.zero_add, Nat.add_zero, Nat.reduceAdd, List.cons_append, List.nil_append, List.eraseIdx_cons_zero, List.eraseIdx_cons_succ])
  refine W ?_
  rintro _ ⟨z, rfl, hz⟩
  try (dsimp only [st, AV.cells, List.set_cons_zero, List.set_cons_succ, List.drop_zero, List.drop_succ_cons, List.take_zero, List.take_succ_cons, Nat.zero_add, Nat.add_zero, Nat.reduceAdd, List.cons_append, List.nil_append, List.eraseIdx_cons_zero, List.eraseIdx_cons_succ])
  refine W ?_
  (first | refine LS_gt rfl ?_ ?_ | refine LS_gf rfl ?_ ?_ | refine LI_cond rfl ?_ ?_) <;> intro hc <;> have hc' := hc <;> try simp only [decide_eq_true_eq, decide_eq_false_iff_not, Bool.not_eq_true', Bool.not_eq_false', Bool.not_eq_true, Bool.not_eq_false, beq_iff_eq, bne_iff_ne, beq_eq_false_iff_ne, bne_eq_false_iff_eq, Int.not_lt, Int.not_le, ge_iff_le, gt_iff_lt, not_and, ne_eq, Decidable.not_not] at hc'
  all_goals (try (dsimp only [st, AV.cells, List.set_cons_zero, List.set_cons_succ, List.drop_zero, List.drop_succ_cons, List.take_zero, List.take_succ_cons, Nat.zero_add, Nat.add_zero, Nat.reduceAdd, List.cons_append, List.nil_append, List.eraseIdx_cons_zero, List.eraseIdx_cons_succ]))
  all_goals (refine W ?_)
  · refine RET fun h' HL => ?_
    try dsimp only [oneA]
  · have hw := psm_of hw0 hz hc'
    have hls := hw.ls
    have hlo := hw.lo
    have hrl : (needR p k).length ≤ 1048576 := needR_len
    refine LS_c1 (fun h' HL wf => toPlanX_ac p _ h' (hR0.le HL.le) hw) rfl rfl ?_
    try (dsimp only [st, AV.cells, List.set_cons_zero, List.set_cons_succ, List.drop_zero, List.drop_succ_cons, List.take_zero, List.take_succ_cons, Nat.zero_add, Nat.add_zero, Nat.reduceAdd, List.cons_append, List.nil_append, List.eraseIdx_cons_zero, List.eraseIdx_cons_succ])
    refine W ?_
    rintro _ _ ⟨vs1, vo1, ⟨rfl, l1, l2, s1, s2⟩, rfl⟩
    try (dsimp only [st, AV.cells, List.set_cons_zero, List.set_cons_succ, List.drop_zero, List.drop_succ_cons, List.take_zero, List.take_succ_cons, Nat.zero_add, Nat.add_zero, Nat.reduceAdd, List.cons_append, List.nil_append, List.eraseIdx_cons_zero, List.eraseIdx_cons_succ])
    refine W ?_
    refine LS_c1 (fun h' HL wf => specNeededAfter_ac p k _ h' (plr_of HL 0 1 rfl rfl) hw) rfl rfl ?_
    try (dsimp only [st, AV.cells, List.set_cons_zero, List.set_cons_succ, List.drop_zero, List.drop_succ_cons, List.take_zero, List.take_succ_cons, Nat.zero_add, Nat.add_zero, Nat.reduceAdd, List.cons_append, List.nil_append, List.eraseIdx_cons_zero, List.eraseIdx_cons_succ])
    refine W ?_
    rintro _ _ ⟨w0, rfl, lw, sw, rfl⟩
    try (dsimp only [st, AV.cells, List.set_cons_zero, List.set_cons_succ, List.drop_zero, List.drop_succ_cons, List.take_zero, List.take_succ_cons, Nat.zero_add, Nat.add_zero, Nat.reduceAdd, List.cons_append, List.nil_append, List.eraseIdx_cons_zero, List.eraseIdx_cons_succ])
    refine W ?_
    refine LS_c1 (fun h' HL wf => toPlanX_ac p _ h' (hR0.le HL.le) hw) rfl rfl ?_
    try (dsimp only [st, AV.cells, List.set_cons_zero, List.set_cons_succ, List.drop_zero, List.drop_succ_cons, List.take_zero, List.take_succ_cons, Nat.zero_add, Nat.add_zero, Nat.reduceAdd, List.cons_append, List.nil_append, List.eraseIdx_cons_zero, List.eraseIdx_cons_succ])
    refine W ?_
    rintro _ _ ⟨vs2, vo2, ⟨rfl, l3, l4, s3, s4⟩, rfl⟩
    try (dsimp only [st, AV.cells, List.set_cons_zero, List.set_cons_succ, List.drop_zero, List.drop_succ_cons, List.take_zero, List.take_succ_cons, Nat.zero_add, Nat.add_zero, Nat.reduceAdd, List.cons_append, List.nil_append, List.eraseIdx_cons_zero, List.eraseIdx_cons_succ])
    refine W ?_
    refine LS_al rfl fun b2 => ?_
    try (dsimp only [st, AV.cells, List.set_cons_zero, List.set_cons_succ, List.drop_zero, List.drop_succ_cons, List.take_zero, List.take_succ_cons, Nat.zero_add, Nat.add_zero, Nat.reduceAdd, List.cons_append, List.nil_append, List.eraseIdx_cons_zero, List.eraseIdx_cons_succ])
    refine W ?_
    refine LS_c1 (fun h' HL wf => implNeededAfter_ac p k _ h' (plr_of HL 1 2 rfl rfl) hw) rfl rfl ?_
    try (dsimp only [st, AV.cells, List.set_cons_zero, List.set_cons_succ, List.drop_zero, List.drop_succ_cons, List.take_zero, List.take_succ_cons, Nat.zero_add, Nat.add_zero, Nat.reduceAdd, List.cons_append, List.nil_append, List.eraseIdx_cons_zero, List.eraseIdx_cons_succ])
    refine W ?_
    rintro _ _ ⟨g0, rfl, lg, sg, rfl⟩
    try (dsimp only [st, AV.cells, List.set_cons_zero, List.set_cons_succ, List.drop_zero, List.drop_succ_cons, List.take_zero, List.take_succ_cons, Nat.zero_add, Nat.add_zero, Nat.reduceAdd, List.cons_append, List.nil_append, List.eraseIdx_cons_zero, List.eraseIdx_cons_succ])
    refine W ?_
    refine LS_c0' (fun h' HL wf => eqIntS_same _ g0 w0 h' (HL.rdI 0 rfl enI1 (by decide)) (HL.rdI 4 rfl enI1 (by decide)) (by omega)) rfl rfl ?_
    try (dsimp only [st, AV.cells, List.set_cons_zero, List.set_cons_succ, List.drop_zero, List.drop_succ_cons, List.take_zero, List.take_succ_cons, Nat.zero_add, Nat.add_zero, Nat.reduceAdd, List.cons_append, List.nil_append, List.eraseIdx_cons_zero, List.eraseIdx_cons_succ])
    refine W ?_
    first | (refine LS_gtnH rfl (by simp) ?_; intro hg; try (dsimp only [st, AV.cells, List.set_cons_zero, List.set_cons_succ, List.drop_zero, List.drop_succ_cons, List.take_zero, List.take_succ_cons, Nat.zero_add, Nat.add_zero, Nat.reduceAdd, List.cons_append, List.nil_append, List.eraseIdx_cons_zero, List.eraseIdx_cons_succ])) | (refine LS_gfnH rfl (by simp) ?_; intro hg; try (dsimp only [st, AV.cells, List.set_cons_zero, List.set_cons_succ, List.drop_zero, List.drop_succ_cons, List.take_zero, List.take_succ_cons, Nat.zero_add, Nat.add_zero, Nat.reduceAdd, List.cons_append, List.nil_append, List.eraseIdx_cons_zero, List.eraseIdx_cons_succ])) | (refine LI_cond_fH rfl (by simp) ?_; intro hg)
    refine W ?_
    refine dz11_0 ?_
    refine WX ?_
    refine W ?_
    refine LX_c1 (fun h' HL wf => toPlanX_ac p _ h'.frz (hR0.le HL.le).frz hw) rfl rfl noG ?_
    try (dsimp only [st, AV.cells, List.set_cons_zero, List.set_cons_succ, List.drop_zero, List.drop_succ_cons, List.take_zero, List.take_succ_cons, Nat.zero_add, Nat.add_zero, Nat.reduceAdd, List.cons_append, List.nil_append, List.eraseIdx_cons_zero, List.eraseIdx_cons_succ])
    refine WX ?_
    refine W ?_
    rintro _ _ ⟨vs3, vo3, ⟨rfl, l5, l6, s5, s6⟩, rfl⟩
    try (dsimp only [st, AV.cells, List.set_cons_zero, List.set_cons_succ, List.drop_zero, List.drop_succ_cons, List.take_zero, List.take_succ_cons, Nat.zero_add, Nat.add_zero, Nat.reduceAdd, List.cons_append, List.nil_append, List.eraseIdx_cons_zero, List.eraseIdx_cons_succ])
    refine WX ?_
    refine LX_c0 (fun h' HL wf => eqPlan_same p _ _ h'.frz (plr_of HL 4 5 rfl rfl).frz (plr_of HL 0 1 rfl rfl).frz hw.ls hw.lo) rfl rfl noG ?_
    try (dsimp only [st, AV.cells, List.set_cons_zero, List.set_cons_succ, List.drop_zero, List.drop_succ_cons, List.take_zero, List.take_succ_cons, Nat.zero_add, Nat.add_zero, Nat.reduceAdd, List.cons_append, List.nil_append, List.eraseIdx_cons_zero, List.eraseIdx_cons_succ])
    refine WX ?_
    refine W ?_
    refine LS_rot 5 rfl (LS_rot 5 rfl ?_)
    refine LS_cm (.refl _) (fun h' HL wf => markPlan_ac p vs2 vo2 1 h h' _ HL (by omega) (by omega)) rfl rfl ?_
    try (dsimp only [st, AV.cells, List.set_cons_zero, List.set_cons_succ, List.drop_zero, List.drop_succ_cons, List.take_zero, List.take_succ_cons, Nat.zero_add, Nat.add_zero, Nat.reduceAdd, List.cons_append, List.nil_append, List.eraseIdx_cons_zero, List.eraseIdx_cons_succ])
    refine W ?_
    rintro _ _ ⟨rfl, rfl⟩
    try (dsimp only [st, AV.cells, List.set_cons_zero, List.set_cons_succ, List.drop_zero, List.drop_succ_cons, List.take_zero, List.take_succ_cons, Nat.zero_add, Nat.add_zero, Nat.reduceAdd, List.cons_append, List.nil_append, List.eraseIdx_cons_zero, List.eraseIdx_cons_succ])
    refine W ?_
    first | (refine LS_gyH rfl (by simp; omega) ?_; intro hg) | (refine LI_cond_tH rfl (by simp; omega) ?_; intro hg)
    refine W ?_
    refine LS_c0' (fun h' HL wf => eqIntS_same _ g0 w0 h' (HL.rdI 4 rfl enI1 (by decide)) (HL.rdI 6 rfl enI1 (by decide)) (by omega)) rfl rfl ?_
    try (dsimp only [st, AV.cells, List.set_cons_zero, List.set_cons_succ, List.drop_zero, List.drop_succ_cons, List.take_zero, List.take_succ_cons, Nat.zero_add, Nat.add_zero, Nat.reduceAdd, List.cons_append, List.nil_append, List.eraseIdx_cons_zero, List.eraseIdx_cons_succ])
    refine W ?_
    try ((first | (refine LS_gtnH rfl (by simp) ?_; intro hg; try (dsimp only [st, AV.cells, List.set_cons_zero, List.set_cons_succ, List.drop_zero, List.drop_succ_cons, List.take_zero, List.take_succ_cons, Nat.zero_add, Nat.add_zero, Nat.reduceAdd, List.cons_append, List.nil_append, List.eraseIdx_cons_zero, List.eraseIdx_cons_succ])) | (refine LS_gfnH rfl (by simp) ?_; intro hg; try (dsimp only [st, AV.cells, List.set_cons_zero, List.set_cons_succ, List.drop_zero, List.drop_succ_cons, List.take_zero, List.take_succ_cons, Nat.zero_add, Nat.add_zero, Nat.reduceAdd, List.cons_append, List.nil_append, List.eraseIdx_cons_zero, List.eraseIdx_cons_succ])) | (refine LI_cond_fH rfl (by simp) ?_; intro hg)); refine W ?_)
    refine LS_rot 4 rfl ?_
    refine LS_cm (.refl _) (fun h' HL wf => markIntSL_ac (needR p k) g0 1 h h' _ HL (by omega) (by omega)) rfl rfl ?_
    try (dsimp only [st, AV.cells, List.set_cons_zero, List.set_cons_succ, List.drop_zero, List.drop_succ_cons, List.take_zero, List.take_succ_cons, Nat.zero_add, Nat.add_zero, Nat.reduceAdd, List.cons_append, List.nil_append, List.eraseIdx_cons_zero, List.eraseIdx_cons_succ])
    refine W ?_
    rintro _ _ ⟨rfl, rfl⟩
    try (dsimp only [st, AV.cells, List.set_cons_zero, List.set_cons_succ, List.drop_zero, List.drop_succ_cons, List.take_zero, List.take_succ_cons, Nat.zero_add, Nat.add_zero, Nat.reduceAdd, List.cons_append, List.nil_append, List.eraseIdx_cons_zero, List.eraseIdx_cons_succ])
    refine W ?_
    refine LS_c0 (fun h' HL wf => heldIntSL_ac (needR p k).length g0 1 h' (HL.rdI 0 rfl enI1 (by decide)) (by omega) (by omega)) rfl rfl ?_
    try (dsimp only [st, AV.cells, List.set_cons_zero, List.set_cons_succ, List.drop_zero, List.drop_succ_cons, List.take_zero, List.take_succ_cons, Nat.zero_add, Nat.add_zero, Nat.reduceAdd, List.cons_append, List.nil_append, List.eraseIdx_cons_zero, List.eraseIdx_cons_succ])
    refine W ?_
    try ((first | (refine LS_gtnH rfl (by simp; omega) ?_; intro hg; try (dsimp only [st, AV.cells, List.set_cons_zero, List.set_cons_succ, List.drop_zero, List.drop_succ_cons, List.take_zero, List.take_succ_cons, Nat.zero_add, Nat.add_zero, Nat.reduceAdd, List.cons_append, List.nil_append, List.eraseIdx_cons_zero, List.eraseIdx_cons_succ])) | (refine LS_gfnH rfl (by simp; omega) ?_; intro hg; try (dsimp only [st, AV.cells, List.set_cons_zero, List.set_cons_succ, List.drop_zero, List.drop_succ_cons, List.take_zero, List.take_succ_cons, Nat.zero_add, Nat.add_zero, Nat.reduceAdd, List.cons_append, List.nil_append, List.eraseIdx_cons_zero, List.eraseIdx_cons_succ])) | (refine LI_cond_fH rfl (by simp; omega) ?_; intro hg)); refine W ?_)
    try ((first | (refine LS_gtnH rfl (by simp) ?_; intro hg; try (dsimp only [st, AV.cells, List.set_cons_zero, List.set_cons_succ, List.drop_zero, List.drop_succ_cons, List.take_zero, List.take_succ_cons, Nat.zero_add, Nat.add_zero, Nat.reduceAdd, List.cons_append, List.nil_append, List.eraseIdx_cons_zero, List.eraseIdx_cons_succ])) | (refine LS_gfnH rfl (by simp) ?_; intro hg; try (dsimp only [st, AV.cells, List.set_cons_zero, List.set_cons_succ, List.drop_zero, List.drop_succ_cons, List.take_zero, List.take_succ_cons, Nat.zero_add, Nat.add_zero, Nat.reduceAdd, List.cons_append, List.nil_append, List.eraseIdx_cons_zero, List.eraseIdx_cons_succ])) | (refine LI_cond_fH rfl (by simp) ?_; intro hg)); refine W ?_)
    refine LS_c1 (fun h' HL wf => toPlanX_ac p _ h' (hR0.le HL.le) hw) rfl rfl ?_
    try (dsimp only [st, AV.cells, List.set_cons_zero, List.set_cons_succ, List.drop_zero, List.drop_succ_cons, List.take_zero, List.take_succ_cons, Nat.zero_add, Nat.add_zero, Nat.reduceAdd, List.cons_append, List.nil_append, List.eraseIdx_cons_zero, List.eraseIdx_cons_succ])
    refine W ?_
    rintro _ _ ⟨vs4, vo4, ⟨rfl, l7, l8, s7, s8⟩, rfl⟩
    try (dsimp only [st, AV.cells, List.set_cons_zero, List.set_cons_succ, List.drop_zero, List.drop_succ_cons, List.take_zero, List.take_succ_cons, Nat.zero_add, Nat.add_zero, Nat.reduceAdd, List.cons_append, List.nil_append, List.eraseIdx_cons_zero, List.eraseIdx_cons_succ])
    refine W ?_
    refine LS_c1 (fun h' HL wf => implNeededAfter_ac p k _ h' (plr_of HL 0 1 rfl rfl) hw) rfl rfl ?_
    try (dsimp only [st, AV.cells, List.set_cons_zero, List.set_cons_succ, List.drop_zero, List.drop_succ_cons, List.take_zero, List.take_succ_cons, Nat.zero_add, Nat.add_zero, Nat.reduceAdd, List.cons_append, List.nil_append, List.eraseIdx_cons_zero, List.eraseIdx_cons_succ])
    refine W ?_
    rintro _ _ ⟨g1, rfl, lg1, sg1, rfl⟩
    try (dsimp only [st, AV.cells, List.set_cons_zero, List.set_cons_succ, List.drop_zero, List.drop_succ_cons, List.take_zero, List.take_succ_cons, Nat.zero_add, Nat.add_zero, Nat.reduceAdd, List.cons_append, List.nil_append, List.eraseIdx_cons_zero, List.eraseIdx_cons_succ])
    refine W ?_
    refine LS_c0' (fun h' HL wf => eqIntS_same _ g1 w0 h' (HL.rdI 0 rfl enI1 (by decide)) (HL.rdI 9 rfl enI1 (by decide)) (by omega)) rfl rfl ?_
    try (dsimp only [st, AV.cells, List.set_cons_zero, List.set_cons_succ, List.drop_zero, List.drop_succ_cons, List.take_zero, List.take_succ_cons, Nat.zero_add, Nat.add_zero, Nat.reduceAdd, List.cons_append, List.nil_append, List.eraseIdx_cons_zero, List.eraseIdx_cons_succ])
    refine W ?_
    try ((first | (refine LS_gtnH rfl (by simp) ?_; intro hg; try (dsimp only [st, AV.cells, List.set_cons_zero, List.set_cons_succ, List.drop_zero, List.drop_succ_cons, List.take_zero, List.take_succ_cons, Nat.zero_add, Nat.add_zero, Nat.reduceAdd, List.cons_append, List.nil_append, List.eraseIdx_cons_zero, List.eraseIdx_cons_succ])) | (refine LS_gfnH rfl (by simp) ?_; intro hg; try (dsimp only [st, AV.cells, List.set_cons_zero, List.set_cons_succ, List.drop_zero, List.drop_succ_cons, List.take_zero, List.take_succ_cons, Nat.zero_add, Nat.add_zero, Nat.reduceAdd, List.cons_append, List.nil_append, List.eraseIdx_cons_zero, List.eraseIdx_cons_succ])) | (refine LI_cond_fH rfl (by simp) ?_; intro hg)); refine W ?_)
    refine LS_c0 (fun h' HL wf => heldIntSL_ac (needR p k).length g0 1 h' (HL.rdI 3 rfl enI1 (by decide)) (by omega) (by omega)) rfl rfl ?_
    try (dsimp only [st, AV.cells, List.set_cons_zero, List.set_cons_succ, List.drop_zero, List.drop_succ_cons, List.take_zero, List.take_succ_cons, Nat.zero_add, Nat.add_zero, Nat.reduceAdd, List.cons_append, List.nil_append, List.eraseIdx_cons_zero, List.eraseIdx_cons_succ])
    refine W ?_
    try ((first | (refine LS_gtnH rfl (by simp; omega) ?_; intro hg; try (dsimp only [st, AV.cells, List.set_cons_zero, List.set_cons_succ, List.drop_zero, List.drop_succ_cons, List.take_zero, List.take_succ_cons, Nat.zero_add, Nat.add_zero, Nat.reduceAdd, List.cons_append, List.nil_append, List.eraseIdx_cons_zero, List.eraseIdx_cons_succ])) | (refine LS_gfnH rfl (by simp; omega) ?_; intro hg; try (dsimp only [st, AV.cells, List.set_cons_zero, List.set_cons_succ, List.drop_zero, List.drop_succ_cons, List.take_zero, List.take_succ_cons, Nat.zero_add, Nat.add_zero, Nat.reduceAdd, List.cons_append, List.nil_append, List.eraseIdx_cons_zero, List.eraseIdx_cons_succ])) | (refine LI_cond_fH rfl (by simp; omega) ?_; intro hg)); refine W ?_)
    try ((first | (refine LS_gtnH rfl (by simp) ?_; intro hg; try (dsimp only [st, AV.cells, List.set_cons_zero, List.set_cons_succ, List.drop_zero, List.drop_succ_cons, List.take_zero, List.take_succ_cons, Nat.zero_add, Nat.add_zero, Nat.reduceAdd, List.cons_append, List.nil_append, List.eraseIdx_cons_zero, List.eraseIdx_cons_succ])) | (refine LS_gfnH rfl (by simp) ?_; intro hg; try (dsimp only [st, AV.cells, List.set_cons_zero, List.set_cons_succ, List.drop_zero, List.drop_succ_cons, List.take_zero, List.take_succ_cons, Nat.zero_add, Nat.add_zero, Nat.reduceAdd, List.cons_append, List.nil_append, List.eraseIdx_cons_zero, List.eraseIdx_cons_succ])) | (refine LI_cond_fH rfl (by simp) ?_; intro hg)); refine W ?_)
    refine RET fun h' HL => ?_
    try dsimp only [oneA]

theorem lit1 {v : AV} (h : v.cells = [v]) (hs : v.cells.all AV.sc = true) : litA 1 0 [(0, v)] = some [v] := by
  unfold litA
  rw [if_pos ⟨rfl, by rw [h]; rfl, hs⟩]
  simp [litA, h]
end Go.Proofs.Ytdeeeacnmkmeiaa
