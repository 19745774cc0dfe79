/- The walk of the law FnExactCountOrders, part 2: what each function that it reaches computes. -/
import Derived.Test.YtdeeeacnmkmeiaaXFnExactCountOrdersa
namespace Go.Proofs.Ytdeeeacnmkmeiaa
open Go.AL
set_option linter.unusedVariables false
set_option linter.unusedSimpArgs false
set_option maxRecDepth 100000
set_option maxHeartbeats 1000000
attribute [local irreducible] AS AI AIL OpR AC CW AWP ALoop LS LI LIL LThen LLoop LBlk LRet Lh AX OpV OpF

theorem reOrders_ac (p : PlanM) (hk : planOk p = true) (hm : p.steps.length ≤ 8) (k : Nat) : ∀ (D : List Int) (vs vo wD : AV) (h : AH), PlR h (.agg [.i .i64 p.n, vs, vo]) p → Rd h wD D → D.length + k = p.steps.length →
    AC Try.prog 89 [.agg [.i .i64 p.n, vs, vo], wD] h (fun r h' => ∃ M, (∃ Vs : List AV, lenA r = some Vs.length ∧ r.sc = true ∧ Vs.length = cntO p k D ∧ M = [.sl r 1 (Vs.flatMap enV)]) ∧ Loq h h' M) := by
  obtain ⟨h1, h2, h3, h4, hf, h6⟩ := planOk_out hk
  have hS := plan_bd hk
  induction k with
  | zero =>
    intro D vs vo wD h hR hD hlen
    obtain ⟨vs', vo', e, hs, ho⟩ := hR
    obtain ⟨rfl, rfl⟩ : vs = vs' ∧ vo = vo' := by simpa using e
    have hsl := hs.len
    have hdl := hD.len
    refine e89 _ _ fun wf => ?_
    unfold c89
    refine LI_start wf ?_
    refine W ?_
    refine LS_bxn rfl (sc_cons rfl (sc_cons (rd_sc hs) (sc_cons (rd_sc ho) rfl))) fun b2 => ?_
    try (dsimp only [st, setL, AV.cells, List.set_cons_zero, List.set_cons_succ, List.drop_zero, List.drop_succ_cons, List.take_zero, List.take_succ_cons, Nat.zero_add, Nat.add_zero, Nat.reduceAdd, List.cons_append, List.nil_append, List.eraseIdx_cons_zero, List.eraseIdx_cons_succ])
    refine W ?_
    first | (refine LS_gyH rfl (decide_eq_true (by omega)) ?_; intro hg) | (refine LI_cond_tH rfl (decide_eq_true (by omega)) ?_; intro hg)
    refine W ?_
    refine LS_co (fun h' HL wf => l1Own_ac D wD h' (hD.le HL.le) (by omega)) enI1 rfl rfl fun w hw sw => ?_
    try (dsimp only [st, setL, AV.cells, List.set_cons_zero, List.set_cons_succ, List.drop_zero, List.drop_succ_cons, List.take_zero, List.take_succ_cons, Nat.zero_add, Nat.add_zero, Nat.reduceAdd, List.cons_append, List.nil_append, List.eraseIdx_cons_zero, List.eraseIdx_cons_succ])
    refine W ?_
    refine LS_ltV rfl rfl sw rfl fun lit hlit slit => ?_
    try (dsimp only [st, setL, AV.cells, List.set_cons_zero, List.set_cons_succ, List.drop_zero, List.drop_succ_cons, List.take_zero, List.take_succ_cons, Nat.zero_add, Nat.add_zero, Nat.reduceAdd, List.cons_append, List.nil_append, List.eraseIdx_cons_zero, List.eraseIdx_cons_succ])
    refine W ?_
    refine RET fun h' HL => ?_
    try dsimp only [oneA]
    exact ⟨_, ⟨[w], hlit, slit, rfl, rfl⟩, HL.sel [0] (by decide)⟩
  | succ k ih =>
    intro D vs vo wD h hR hD hlen
    obtain ⟨vs', vo', e, hs, ho⟩ := hR
    obtain ⟨rfl, rfl⟩ : vs = vs' ∧ vo = vo' := by simpa using e
    have hsl := hs.len
    have hdl := hD.len
    have hN := cntO_bd hm (show k + 1 ≤ 8 by omega) D
    refine e89 _ _ fun wf => ?_
    unfold c89
    refine LI_start wf ?_
    refine W ?_
    refine LS_bxn rfl (sc_cons rfl (sc_cons (rd_sc hs) (sc_cons (rd_sc ho) rfl))) fun b2 => ?_
    try (dsimp only [st, setL, AV.cells, List.set_cons_zero, List.set_cons_succ, List.drop_zero, List.drop_succ_cons, List.take_zero, List.take_succ_cons, Nat.zero_add, Nat.add_zero, Nat.reduceAdd, List.cons_append, List.nil_append, List.eraseIdx_cons_zero, List.eraseIdx_cons_succ])
    refine W ?_
    first | (refine LS_gtnH rfl (decide_eq_false (by omega)) ?_; intro hg; try (dsimp only [st, setL, AV.cells, List.set_cons_zero, List.set_cons_succ, List.drop_zero, List.drop_succ_cons, List.take_zero, List.take_succ_cons, Nat.zero_add, Nat.add_zero, Nat.reduceAdd, List.cons_append, List.nil_append, List.eraseIdx_cons_zero, List.eraseIdx_cons_succ])) | (refine LS_gfnH rfl (decide_eq_false (by omega)) ?_; intro hg; try (dsimp only [st, setL, AV.cells, List.set_cons_zero, List.set_cons_succ, List.drop_zero, List.drop_succ_cons, List.take_zero, List.take_succ_cons, Nat.zero_add, Nat.add_zero, Nat.reduceAdd, List.cons_append, List.nil_append, List.eraseIdx_cons_zero, List.eraseIdx_cons_succ])) | (refine LI_cond_fH rfl (decide_eq_false (by omega)) ?_; intro hg)
    refine W ?_
    refine LIL_nl (k := 1) ?_
    refine LIL_ind (fun n a L => ∃ (i : Int) (o : AV) (Vs : List AV), (∃ r : Nat → AV, a = [r 0, wD, .p b2 0, r 3, r 4, o, r 6, r 7, r 8, r 9, r 10, r 11, r 12, r 13, r 14, r 15, r 16, r 17, vs, .i .i64 p.steps.length, .i .i64 i, r 21, r 22, r 23, r 24, r 25, r 26, r 27, r 28, r 29, r 30, r 31, r 32, r 33, r 34, r 35, r 36, r 37, r 38, r 39, r 40, r 41, r 42, r 43, r 44, r 45, r 46, r 47, r 48, r 49, r 50, r 51, r 52, r 53, r 54, r 55, r 56, r 57, r 58, r 59, r 60, r 61, r 62, r 63, r 64, r 65, r 66, r 67, r 68, r 69, r 70, r 71, r 72]) ∧ L = [.sl o 1 (Vs.flatMap enV), .pt b2 [.i .i64 p.n, vs, vo]] ∧ 0 ≤ i ∧ i + n = p.steps.length ∧ Vs.length + sumO (fun i => cntO p k (D ++ [i])) (rdO p D) i (p.steps.drop i.toNat) = cntO p (k + 1) D ∧ lenA o = some Vs.length ∧ o.sc = true)
      p.steps.length ⟨0, _, [], exJ rfl, rfl, by omega, by omega, by simp [cntO], rfl, rfl⟩ ?_
    rintro n a L ⟨i, o, Vs, ⟨r, rfl⟩, rfl, hi0, hn, heq, lo, so⟩ IH
    generalize hNN : cntO p (k + 1) D = N at *
    refine W ?_
    (first | refine LS_gt rfl ?_ ?_ | refine LS_gf rfl ?_ ?_ | refine LI_cond rfl ?_ ?_) <;> intro hc <;> have hc' := hc <;> try simp only [decide_eq_true_eq, decide_eq_false_iff_not, Bool.not_eq_true', Bool.not_eq_false', Bool.not_eq_true, Bool.not_eq_false, beq_iff_eq, bne_iff_ne, beq_eq_false_iff_ne, bne_eq_false_iff_eq, Int.not_lt, Int.not_le, ge_iff_le, gt_iff_lt, not_and, ne_eq, Decidable.not_not] at hc'
    all_goals (try (dsimp only [st, setL, AV.cells, List.set_cons_zero, List.set_cons_succ, List.drop_zero, List.drop_succ_cons, List.take_zero, List.take_succ_cons, Nat.zero_add, Nat.add_zero, Nat.reduceAdd, List.cons_append, List.nil_append, List.eraseIdx_cons_zero, List.eraseIdx_cons_succ]))
    all_goals (refine W ?_)
    · obtain ⟨s, hs1, hsm, hd⟩ := drop_at (l := p.steps) hi0 hc'
      have hb := hS s hsm
      rw [hd, sumO] at heq
      refine LS_ix (fun h' HL => hs.le HL.le) enStep2 hs1 hi0 rfl rfl fun q1 o1 hrow1 => ?_
      try (dsimp only [st, setL, AV.cells, List.set_cons_zero, List.set_cons_succ, List.drop_zero, List.drop_succ_cons, List.take_zero, List.take_succ_cons, Nat.zero_add, Nat.add_zero, Nat.reduceAdd, List.cons_append, List.nil_append, List.eraseIdx_cons_zero, List.eraseIdx_cons_succ])
      refine W ?_
      refine LS_al rfl fun b7 => ?_
      try (dsimp only [st, setL, AV.cells, List.set_cons_zero, List.set_cons_succ, List.drop_zero, List.drop_succ_cons, List.take_zero, List.take_succ_cons, Nat.zero_add, Nat.add_zero, Nat.reduceAdd, List.cons_append, List.nil_append, List.eraseIdx_cons_zero, List.eraseIdx_cons_succ])
      refine W ?_
      refine LS_c0 (fun h' HL wf => l1Has_ac D wD i h' (hD.le HL.le) (by omega)) rfl rfl ?_
      try (dsimp only [st, setL, AV.cells, List.set_cons_zero, List.set_cons_succ, List.drop_zero, List.drop_succ_cons, List.take_zero, List.take_succ_cons, Nat.zero_add, Nat.add_zero, Nat.reduceAdd, List.cons_append, List.nil_append, List.eraseIdx_cons_zero, List.eraseIdx_cons_succ])
      refine W ?_
      refine LS_mid 17 (fun a L => ∃ (t : Bool), (∃ r : Nat → AV, a = [r 0, wD, .p b2 0, r 3, r 4, o, .i .i64 i, .p b7 0, r 8, r 9, r 10, r 11, r 12, r 13, r 14, r 15, r 16, r 17, vs, .i .i64 p.steps.length, .i .i64 i, r 21, r 22, r 23, r 24, r 25, r 26, r 27, r 28, r 29, r 30, r 31, r 32, r 33, r 34, r 35, r 36, r 37, r 38, r 39, r 40, r 41, r 42, r 43, r 44, .b t, r 46, r 47, r 48, r 49, r 50, r 51, r 52, r 53, r 54, r 55, r 56, r 57, r 58, r 59, r 60, r 61, r 62, r 63, r 64, r 65, r 66, r 67, r 68, r 69, r 70, r 71, r 72]) ∧ L = [.pt b7 [.i .i64 s.1, .i .i64 s.2], .sl o 1 (Vs.flatMap enV), .pt b2 [.i .i64 p.n, vs, vo]] ∧ t = (hasL D i || !rd1 p D s.1)) ?_ ?_
      · try (dsimp only [st, setL, AV.cells, List.set_cons_zero, List.set_cons_succ, List.drop_zero, List.drop_succ_cons, List.take_zero, List.take_succ_cons, Nat.zero_add, Nat.add_zero, Nat.reduceAdd, List.cons_append, List.nil_append, List.eraseIdx_cons_zero, List.eraseIdx_cons_succ])
        refine W ?_
        (first | refine LS_gt rfl ?_ ?_ | refine LS_gf rfl ?_ ?_ | refine LI_cond rfl ?_ ?_) <;> intro hc <;> have hc' := hc <;> try simp only [decide_eq_true_eq, decide_eq_false_iff_not, Bool.not_eq_true', Bool.not_eq_false', Bool.not_eq_true, Bool.not_eq_false, beq_iff_eq, bne_iff_ne, beq_eq_false_iff_ne, bne_eq_false_iff_eq, Int.not_lt, Int.not_le, ge_iff_le, gt_iff_lt, not_and, ne_eq, Decidable.not_not] at hc'
        all_goals (try (dsimp only [st, setL, AV.cells, List.set_cons_zero, List.set_cons_succ, List.drop_zero, List.drop_succ_cons, List.take_zero, List.take_succ_cons, Nat.zero_add, Nat.add_zero, Nat.reduceAdd, List.cons_append, List.nil_append, List.eraseIdx_cons_zero, List.eraseIdx_cons_succ]))
        all_goals (refine W ?_)
        · have g1 := hc
          (first | refine LS_gt rfl ?_ ?_ | refine LS_gf rfl ?_ ?_ | refine LI_cond rfl ?_ ?_) <;> intro hc <;> have hc' := hc <;> try simp only [decide_eq_true_eq, decide_eq_false_iff_not, Bool.not_eq_true', Bool.not_eq_false', Bool.not_eq_true, Bool.not_eq_false, beq_iff_eq, bne_iff_ne, beq_eq_false_iff_ne, bne_eq_false_iff_eq, Int.not_lt, Int.not_le, ge_iff_le, gt_iff_lt, not_and, ne_eq, Decidable.not_not] at hc'
          all_goals (try (dsimp only [st, setL, AV.cells, List.set_cons_zero, List.set_cons_succ, List.drop_zero, List.drop_succ_cons, List.take_zero, List.take_succ_cons, Nat.zero_add, Nat.add_zero, Nat.reduceAdd, List.cons_append, List.nil_append, List.eraseIdx_cons_zero, List.eraseIdx_cons_succ]))
          all_goals (refine W ?_)
          · have g2 := hc'
            refine LS_c0 (fun h' HL wf => l1Has_ac D wD (s.1 - p.n) h' (hD.le HL.le) (by omega)) rfl rfl ?_
            try (dsimp only [st, setL, AV.cells, List.set_cons_zero, List.set_cons_succ, List.drop_zero, List.drop_succ_cons, List.take_zero, List.take_succ_cons, Nat.zero_add, Nat.add_zero, Nat.reduceAdd, List.cons_append, List.nil_append, List.eraseIdx_cons_zero, List.eraseIdx_cons_succ])
            refine W ?_
            exact ⟨rfl, _, exJ rfl, rfl, by simp only [rd1, show hasL D i = false from g1, decide_eq_false (show ¬ s.1 < p.n by omega), Bool.false_or]; rfl⟩
          · have g2 := hc'
            exact ⟨rfl, _, exJ rfl, rfl, by simp only [rd1, show hasL D i = false from g1, decide_eq_true (show s.1 < p.n by omega), Bool.true_or]; rfl⟩
        · have g1 := hc
          exact ⟨rfl, _, exJ rfl, rfl, by rw [show hasL D i = true from g1]; rfl⟩
      · rintro _ _ ⟨t, ⟨r, rfl⟩, rfl, ht⟩
        try (dsimp only [st, setL, AV.cells, List.set_cons_zero, List.set_cons_succ, List.drop_zero, List.drop_succ_cons, List.take_zero, List.take_succ_cons, Nat.zero_add, Nat.add_zero, Nat.reduceAdd, List.cons_append, List.nil_append, List.eraseIdx_cons_zero, List.eraseIdx_cons_succ])
        refine LS_mid 16 (fun a L => ∃ (t2 : Bool), (∃ r : Nat → AV, a = [r 0, wD, .p b2 0, r 3, r 4, o, .i .i64 i, .p b7 0, r 8, r 9, r 10, r 11, r 12, r 13, r 14, r 15, r 16, r 17, vs, .i .i64 p.steps.length, .i .i64 i, r 21, r 22, r 23, r 24, r 25, r 26, r 27, r 28, r 29, r 30, r 31, r 32, r 33, r 34, r 35, r 36, r 37, r 38, r 39, r 40, r 41, r 42, r 43, r 44, r 45, r 46, r 47, r 48, r 49, r 50, r 51, r 52, r 53, r 54, r 55, r 56, r 57, r 58, r 59, r 60, .b t2, r 62, r 63, r 64, r 65, r 66, r 67, r 68, r 69, r 70, r 71, r 72]) ∧ L = [.pt b7 [.i .i64 s.1, .i .i64 s.2], .sl o 1 (Vs.flatMap enV), .pt b2 [.i .i64 p.n, vs, vo]] ∧ t2 = !rdO p D i s) ?_ ?_
        · try (dsimp only [st, setL, AV.cells, List.set_cons_zero, List.set_cons_succ, List.drop_zero, List.drop_succ_cons, List.take_zero, List.take_succ_cons, Nat.zero_add, Nat.add_zero, Nat.reduceAdd, List.cons_append, List.nil_append, List.eraseIdx_cons_zero, List.eraseIdx_cons_succ])
          refine W ?_
          (first | refine LS_gt rfl ?_ ?_ | refine LS_gf rfl ?_ ?_ | refine LI_cond rfl ?_ ?_) <;> intro hc <;> have hc' := hc <;> try simp only [decide_eq_true_eq, decide_eq_false_iff_not, Bool.not_eq_true', Bool.not_eq_false', Bool.not_eq_true, Bool.not_eq_false, beq_iff_eq, bne_iff_ne, beq_eq_false_iff_ne, bne_eq_false_iff_eq, Int.not_lt, Int.not_le, ge_iff_le, gt_iff_lt, not_and, ne_eq, Decidable.not_not] at hc'
          all_goals (try (dsimp only [st, setL, AV.cells, List.set_cons_zero, List.set_cons_succ, List.drop_zero, List.drop_succ_cons, List.take_zero, List.take_succ_cons, Nat.zero_add, Nat.add_zero, Nat.reduceAdd, List.cons_append, List.nil_append, List.eraseIdx_cons_zero, List.eraseIdx_cons_succ]))
          all_goals (refine W ?_)
          · have g1 := hc
            (first | refine LS_gt rfl ?_ ?_ | refine LS_gf rfl ?_ ?_ | refine LI_cond rfl ?_ ?_) <;> intro hc <;> have hc' := hc <;> try simp only [decide_eq_true_eq, decide_eq_false_iff_not, Bool.not_eq_true', Bool.not_eq_false', Bool.not_eq_true, Bool.not_eq_false, beq_iff_eq, bne_iff_ne, beq_eq_false_iff_ne, bne_eq_false_iff_eq, Int.not_lt, Int.not_le, ge_iff_le, gt_iff_lt, not_and, ne_eq, Decidable.not_not] at hc'
            all_goals (try (dsimp only [st, setL, AV.cells, List.set_cons_zero, List.set_cons_succ, List.drop_zero, List.drop_succ_cons, List.take_zero, List.take_succ_cons, Nat.zero_add, Nat.add_zero, Nat.reduceAdd, List.cons_append, List.nil_append, List.eraseIdx_cons_zero, List.eraseIdx_cons_succ]))
            all_goals (refine W ?_)
            · have g2 := hc'
              refine LS_c0 (fun h' HL wf => l1Has_ac D wD (s.2 - p.n) h' (hD.le HL.le) (by omega)) rfl rfl ?_
              try (dsimp only [st, setL, AV.cells, List.set_cons_zero, List.set_cons_succ, List.drop_zero, List.drop_succ_cons, List.take_zero, List.take_succ_cons, Nat.zero_add, Nat.add_zero, Nat.reduceAdd, List.cons_append, List.nil_append, List.eraseIdx_cons_zero, List.eraseIdx_cons_succ])
              refine W ?_
              exact ⟨rfl, _, exJ rfl, rfl, by rw [g1] at ht; have e := ht.symm; simp only [Bool.or_eq_false_iff, Bool.not_eq_false'] at e; rw [rdO, e.1, e.2, rd1, decide_eq_false (by omega), Bool.false_or]; rfl⟩
            · have g2 := hc'
              exact ⟨rfl, _, exJ rfl, rfl, by rw [g1] at ht; have e := ht.symm; simp only [Bool.or_eq_false_iff, Bool.not_eq_false'] at e; rw [rdO, e.1, e.2, rd1, decide_eq_true (by omega)]; rfl⟩
          · have g1 := hc
            exact ⟨rfl, _, exJ rfl, rfl, by rw [g1] at ht; rw [rdO]; cases e1 : hasL D i <;> cases e2 : rd1 p D s.1 <;> rw [e1, e2] at ht <;> first | rfl | cases ht⟩
        · rintro _ _ ⟨_, ⟨r, rfl⟩, rfl, rfl⟩
          try (dsimp only [st, setL, AV.cells, List.set_cons_zero, List.set_cons_succ, List.drop_zero, List.drop_succ_cons, List.take_zero, List.take_succ_cons, Nat.zero_add, Nat.add_zero, Nat.reduceAdd, List.cons_append, List.nil_append, List.eraseIdx_cons_zero, List.eraseIdx_cons_succ])
          refine W ?_
          (first | refine LS_gt rfl ?_ ?_ | refine LS_gf rfl ?_ ?_ | refine LI_cond rfl ?_ ?_) <;> intro hc <;> have hc' := hc <;> try simp only [decide_eq_true_eq, decide_eq_false_iff_not, Bool.not_eq_true', Bool.not_eq_false', Bool.not_eq_true, Bool.not_eq_false, beq_iff_eq, bne_iff_ne, beq_eq_false_iff_ne, bne_eq_false_iff_eq, Int.not_lt, Int.not_le, ge_iff_le, gt_iff_lt, not_and, ne_eq, Decidable.not_not] at hc'
          all_goals (try (dsimp only [st, setL, AV.cells, List.set_cons_zero, List.set_cons_succ, List.drop_zero, List.drop_succ_cons, List.take_zero, List.take_succ_cons, Nat.zero_add, Nat.add_zero, Nat.reduceAdd, List.cons_append, List.nil_append, List.eraseIdx_cons_zero, List.eraseIdx_cons_succ]))
          all_goals (refine W ?_)
          · rw [if_neg (by rw [nt hc]; simp), Nat.zero_add] at heq
            refine LIL_drop 1 ?_
            refine IH (n - 1) _ _ (by omega) ⟨i + 1, _, _, exJ rfl, rfl, by omega, by omega, by rw [toNat_succ hi0]; exact heq, lo, so⟩
          · rw [if_pos (nf hc)] at heq
            have hN2 := cntO_bd hm (show k ≤ 8 by omega) (D ++ [i])
            refine LI_post (fun a L => ∃ (w8 : AV) (Us : List AV), (∃ r : Nat → AV, a = [r 0, wD, .p b2 0, r 3, r 4, w8, .i .i64 i, .p b7 0, r 8, r 9, r 10, r 11, r 12, r 13, r 14, r 15, r 16, r 17, vs, .i .i64 p.steps.length, .i .i64 i, r 21, r 22, r 23, r 24, r 25, r 26, r 27, r 28, r 29, r 30, r 31, r 32, r 33, r 34, r 35, r 36, r 37, r 38, r 39, r 40, r 41, r 42, r 43, r 44, r 45, r 46, r 47, r 48, r 49, r 50, r 51, r 52, r 53, r 54, r 55, r 56, r 57, r 58, r 59, r 60, r 61, r 62, r 63, r 64, r 65, r 66, r 67, r 68, r 69, r 70, r 71, r 72]) ∧ Us.length = cntO p k (D ++ [i]) ∧ lenA w8 = some (Vs ++ Us).length ∧ w8.sc = true ∧ ∀ h', Loq h h' L → Loq h h' [.sl w8 1 ((Vs ++ Us).flatMap enV), .pt b2 [.i .i64 p.n, vs, vo]]) ?_ ?_
            · refine dk89_0 [(b2, [.i .i64 p.n, vs, vo])] (by simp) ?_
              refine WX ?_
              refine LX_two ?_ ?_
              · refine WX ?_
                refine LX_lwe 2 noG rfl rfl rfl ?_
                try (dsimp only [st, setL, AV.cells, List.set_cons_zero, List.set_cons_succ, List.drop_zero, List.drop_succ_cons, List.take_zero, List.take_succ_cons, Nat.zero_add, Nat.add_zero, Nat.reduceAdd, List.cons_append, List.nil_append, List.eraseIdx_cons_zero, List.eraseIdx_cons_succ])
                refine WX ?_
                refine W ?_
                refine LX_two ?_ ?_
                · refine WX ?_
                  refine LX_co (fun h' HL wf => l1Own_ac D wD h'.frz (hD.le HL.le).frz (by omega)) enI1 rfl rfl noG fun w3 hw3 sw3 => ?_
                  try (dsimp only [st, setL, AV.cells, List.set_cons_zero, List.set_cons_succ, List.drop_zero, List.drop_succ_cons, List.take_zero, List.take_succ_cons, Nat.zero_add, Nat.add_zero, Nat.reduceAdd, List.cons_append, List.nil_append, List.eraseIdx_cons_zero, List.eraseIdx_cons_succ])
                  refine WX ?_
                  refine W ?_
                  refine LX_lt [i] rfl rfl (by decide) rfl rfl rfl rfl enI1 rfl rfl noG fun w5 hw5 sw5 => ?_
                  try (dsimp only [st, setL, AV.cells, List.set_cons_zero, List.set_cons_succ, List.drop_zero, List.drop_succ_cons, List.take_zero, List.take_succ_cons, Nat.zero_add, Nat.add_zero, Nat.reduceAdd, List.cons_append, List.nil_append, List.eraseIdx_cons_zero, List.eraseIdx_cons_succ])
                  refine WX ?_
                  refine W ?_
                  refine LX_fK noG (LO_ap 1 rfl (fun h' HL => HL.rdI 0 rfl enI1 (by decide)) enI1 (by decide) (by simp) (by simp; omega) (by simp; omega) rfl rfl rfl fun w6 hw6 sw6 => ⟨by simp, ?_⟩)
                  try (dsimp only [st, setL, AV.cells, List.set_cons_zero, List.set_cons_succ, List.drop_zero, List.drop_succ_cons, List.take_zero, List.take_succ_cons, Nat.zero_add, Nat.add_zero, Nat.reduceAdd, List.cons_append, List.nil_append, List.eraseIdx_cons_zero, List.eraseIdx_cons_succ])
                  refine WX ?_
                  refine W ?_
                  refine LX_c1 (fun h' HL wf => ih (D ++ [i]) vs vo w6 h'.frz ⟨vs, vo, rfl, (hs.le HL.le).frz, (ho.le HL.le).frz⟩ (HL.rdI 1 rfl enI1 (by decide)).frz (by simp; omega)) rfl rfl noG ?_
                  try (dsimp only [st, setL, AV.cells, List.set_cons_zero, List.set_cons_succ, List.drop_zero, List.drop_succ_cons, List.take_zero, List.take_succ_cons, Nat.zero_add, Nat.add_zero, Nat.reduceAdd, List.cons_append, List.nil_append, List.eraseIdx_cons_zero, List.eraseIdx_cons_succ])
                  refine WX ?_
                  refine W ?_
                  rintro u7 _ ⟨Us, lu, su, hUs, rfl⟩
                  try (dsimp only [st, setL, AV.cells, List.set_cons_zero, List.set_cons_succ, List.drop_zero, List.drop_succ_cons, List.take_zero, List.take_succ_cons, Nat.zero_add, Nat.add_zero, Nat.reduceAdd, List.cons_append, List.nil_append, List.eraseIdx_cons_zero, List.eraseIdx_cons_succ])
                  refine WX ?_
                  refine LX_fK noG (LO_ap0 4 rfl (fun h' HL => HL.rdI 0 rfl enV1 (by decide)) enV1 (by decide) (by omega) (by omega) rfl rfl rfl fun w8 hw8 sw8 => ⟨by simp, ?_⟩)
                  try (dsimp only [st, setL, AV.cells, List.set_cons_zero, List.set_cons_succ, List.drop_zero, List.drop_succ_cons, List.take_zero, List.take_succ_cons, Nat.zero_add, Nat.add_zero, Nat.reduceAdd, List.cons_append, List.nil_append, List.eraseIdx_cons_zero, List.eraseIdx_cons_succ])
                  refine WX ?_
                  refine W ?_
                  exact ⟨rfl, _, Us, exJ rfl, hUs, hw8, sw8, fun h' HL => HL.sel [4, 5] (by decide)⟩
                · refine WX ?_
                  refine LX_lt [i] rfl rfl (by decide) rfl rfl rfl rfl enI1 rfl rfl noG fun w5 hw5 sw5 => ?_
                  try (dsimp only [st, setL, AV.cells, List.set_cons_zero, List.set_cons_succ, List.drop_zero, List.drop_succ_cons, List.take_zero, List.take_succ_cons, Nat.zero_add, Nat.add_zero, Nat.reduceAdd, List.cons_append, List.nil_append, List.eraseIdx_cons_zero, List.eraseIdx_cons_succ])
                  refine WX ?_
                  refine W ?_
                  refine LX_co (fun h' HL wf => l1Own_ac D wD h'.frz (hD.le HL.le).frz (by omega)) enI1 rfl rfl noG fun w3 hw3 sw3 => ?_
                  try (dsimp only [st, setL, AV.cells, List.set_cons_zero, List.set_cons_succ, List.drop_zero, List.drop_succ_cons, List.take_zero, List.take_succ_cons, Nat.zero_add, Nat.add_zero, Nat.reduceAdd, List.cons_append, List.nil_append, List.eraseIdx_cons_zero, List.eraseIdx_cons_succ])
                  refine WX ?_
                  refine W ?_
                  refine LX_fK noG (LO_ap 0 rfl (fun h' HL => HL.rdI 1 rfl enI1 (by decide)) enI1 (by decide) (by simp) (by simp; omega) (by simp; omega) rfl rfl rfl fun w6 hw6 sw6 => ⟨by simp, ?_⟩)
                  try (dsimp only [st, setL, AV.cells, List.set_cons_zero, List.set_cons_succ, List.drop_zero, List.drop_succ_cons, List.take_zero, List.take_succ_cons, Nat.zero_add, Nat.add_zero, Nat.reduceAdd, List.cons_append, List.nil_append, List.eraseIdx_cons_zero, List.eraseIdx_cons_succ])
                  refine WX ?_
                  refine W ?_
                  refine LX_c1 (fun h' HL wf => ih (D ++ [i]) vs vo w6 h'.frz ⟨vs, vo, rfl, (hs.le HL.le).frz, (ho.le HL.le).frz⟩ (HL.rdI 0 rfl enI1 (by decide)).frz (by simp; omega)) rfl rfl noG ?_
                  try (dsimp only [st, setL, AV.cells, List.set_cons_zero, List.set_cons_succ, List.drop_zero, List.drop_succ_cons, List.take_zero, List.take_succ_cons, Nat.zero_add, Nat.add_zero, Nat.reduceAdd, List.cons_append, List.nil_append, List.eraseIdx_cons_zero, List.eraseIdx_cons_succ])
                  refine WX ?_
                  refine W ?_
                  rintro u7 _ ⟨Us, lu, su, hUs, rfl⟩
                  try (dsimp only [st, setL, AV.cells, List.set_cons_zero, List.set_cons_succ, List.drop_zero, List.drop_succ_cons, List.take_zero, List.take_succ_cons, Nat.zero_add, Nat.add_zero, Nat.reduceAdd, List.cons_append, List.nil_append, List.eraseIdx_cons_zero, List.eraseIdx_cons_succ])
                  refine WX ?_
                  refine LX_fK noG (LO_ap0 4 rfl (fun h' HL => HL.rdI 0 rfl enV1 (by decide)) enV1 (by decide) (by omega) (by omega) rfl rfl rfl fun w8 hw8 sw8 => ⟨by simp, ?_⟩)
                  try (dsimp only [st, setL, AV.cells, List.set_cons_zero, List.set_cons_succ, List.drop_zero, List.drop_succ_cons, List.take_zero, List.take_succ_cons, Nat.zero_add, Nat.add_zero, Nat.reduceAdd, List.cons_append, List.nil_append, List.eraseIdx_cons_zero, List.eraseIdx_cons_succ])
                  refine WX ?_
                  refine W ?_
                  exact ⟨rfl, _, Us, exJ rfl, hUs, hw8, sw8, fun h' HL => HL.sel [4, 5] (by decide)⟩
              · refine WX ?_
                refine LX_two ?_ ?_
                · refine WX ?_
                  refine LX_co (fun h' HL wf => l1Own_ac D wD h'.frz (hD.le HL.le).frz (by omega)) enI1 rfl rfl noG fun w3 hw3 sw3 => ?_
                  try (dsimp only [st, setL, AV.cells, List.set_cons_zero, List.set_cons_succ, List.drop_zero, List.drop_succ_cons, List.take_zero, List.take_succ_cons, Nat.zero_add, Nat.add_zero, Nat.reduceAdd, List.cons_append, List.nil_append, List.eraseIdx_cons_zero, List.eraseIdx_cons_succ])
                  refine WX ?_
                  refine W ?_
                  refine LX_two ?_ ?_
                  · refine WX ?_
                    refine LX_lwe 3 noG rfl rfl rfl ?_
                    try (dsimp only [st, setL, AV.cells, List.set_cons_zero, List.set_cons_succ, List.drop_zero, List.drop_succ_cons, List.take_zero, List.take_succ_cons, Nat.zero_add, Nat.add_zero, Nat.reduceAdd, List.cons_append, List.nil_append, List.eraseIdx_cons_zero, List.eraseIdx_cons_succ])
                    refine WX ?_
                    refine W ?_
                    refine LX_lt [i] rfl rfl (by decide) rfl rfl rfl rfl enI1 rfl rfl noG fun w5 hw5 sw5 => ?_
                    try (dsimp only [st, setL, AV.cells, List.set_cons_zero, List.set_cons_succ, List.drop_zero, List.drop_succ_cons, List.take_zero, List.take_succ_cons, Nat.zero_add, Nat.add_zero, Nat.reduceAdd, List.cons_append, List.nil_append, List.eraseIdx_cons_zero, List.eraseIdx_cons_succ])
                    refine WX ?_
                    refine W ?_
                    refine LX_fK noG (LO_ap 1 rfl (fun h' HL => HL.rdI 0 rfl enI1 (by decide)) enI1 (by decide) (by simp) (by simp; omega) (by simp; omega) rfl rfl rfl fun w6 hw6 sw6 => ⟨by simp, ?_⟩)
                    try (dsimp only [st, setL, AV.cells, List.set_cons_zero, List.set_cons_succ, List.drop_zero, List.drop_succ_cons, List.take_zero, List.take_succ_cons, Nat.zero_add, Nat.add_zero, Nat.reduceAdd, List.cons_append, List.nil_append, List.eraseIdx_cons_zero, List.eraseIdx_cons_succ])
                    refine WX ?_
                    refine W ?_
                    refine LX_c1 (fun h' HL wf => ih (D ++ [i]) vs vo w6 h'.frz ⟨vs, vo, rfl, (hs.le HL.le).frz, (ho.le HL.le).frz⟩ (HL.rdI 1 rfl enI1 (by decide)).frz (by simp; omega)) rfl rfl noG ?_
                    try (dsimp only [st, setL, AV.cells, List.set_cons_zero, List.set_cons_succ, List.drop_zero, List.drop_succ_cons, List.take_zero, List.take_succ_cons, Nat.zero_add, Nat.add_zero, Nat.reduceAdd, List.cons_append, List.nil_append, List.eraseIdx_cons_zero, List.eraseIdx_cons_succ])
                    refine WX ?_
                    refine W ?_
                    rintro u7 _ ⟨Us, lu, su, hUs, rfl⟩
                    try (dsimp only [st, setL, AV.cells, List.set_cons_zero, List.set_cons_succ, List.drop_zero, List.drop_succ_cons, List.take_zero, List.take_succ_cons, Nat.zero_add, Nat.add_zero, Nat.reduceAdd, List.cons_append, List.nil_append, List.eraseIdx_cons_zero, List.eraseIdx_cons_succ])
                    refine WX ?_
                    refine LX_fK noG (LO_ap0 4 rfl (fun h' HL => HL.rdI 0 rfl enV1 (by decide)) enV1 (by decide) (by omega) (by omega) rfl rfl rfl fun w8 hw8 sw8 => ⟨by simp, ?_⟩)
                    try (dsimp only [st, setL, AV.cells, List.set_cons_zero, List.set_cons_succ, List.drop_zero, List.drop_succ_cons, List.take_zero, List.take_succ_cons, Nat.zero_add, Nat.add_zero, Nat.reduceAdd, List.cons_append, List.nil_append, List.eraseIdx_cons_zero, List.eraseIdx_cons_succ])
                    refine WX ?_
                    refine W ?_
                    exact ⟨rfl, _, Us, exJ rfl, hUs, hw8, sw8, fun h' HL => HL.sel [4, 5] (by decide)⟩
                  · refine WX ?_
                    refine LX_lt [i] rfl rfl (by decide) rfl rfl rfl rfl enI1 rfl rfl noG fun w5 hw5 sw5 => ?_
                    try (dsimp only [st, setL, AV.cells, List.set_cons_zero, List.set_cons_succ, List.drop_zero, List.drop_succ_cons, List.take_zero, List.take_succ_cons, Nat.zero_add, Nat.add_zero, Nat.reduceAdd, List.cons_append, List.nil_append, List.eraseIdx_cons_zero, List.eraseIdx_cons_succ])
                    refine WX ?_
                    refine W ?_
                    refine LX_two ?_ ?_
                    · refine WX ?_
                      refine LX_lwe 4 noG rfl rfl rfl ?_
                      try (dsimp only [st, setL, AV.cells, List.set_cons_zero, List.set_cons_succ, List.drop_zero, List.drop_succ_cons, List.take_zero, List.take_succ_cons, Nat.zero_add, Nat.add_zero, Nat.reduceAdd, List.cons_append, List.nil_append, List.eraseIdx_cons_zero, List.eraseIdx_cons_succ])
                      refine WX ?_
                      refine W ?_
                      refine LX_fK noG (LO_ap 1 rfl (fun h' HL => HL.rdI 0 rfl enI1 (by decide)) enI1 (by decide) (by simp) (by simp; omega) (by simp; omega) rfl rfl rfl fun w6 hw6 sw6 => ⟨by simp, ?_⟩)
                      try (dsimp only [st, setL, AV.cells, List.set_cons_zero, List.set_cons_succ, List.drop_zero, List.drop_succ_cons, List.take_zero, List.take_succ_cons, Nat.zero_add, Nat.add_zero, Nat.reduceAdd, List.cons_append, List.nil_append, List.eraseIdx_cons_zero, List.eraseIdx_cons_succ])
                      refine WX ?_
                      refine W ?_
                      refine LX_c1 (fun h' HL wf => ih (D ++ [i]) vs vo w6 h'.frz ⟨vs, vo, rfl, (hs.le HL.le).frz, (ho.le HL.le).frz⟩ (HL.rdI 1 rfl enI1 (by decide)).frz (by simp; omega)) rfl rfl noG ?_
                      try (dsimp only [st, setL, AV.cells, List.set_cons_zero, List.set_cons_succ, List.drop_zero, List.drop_succ_cons, List.take_zero, List.take_succ_cons, Nat.zero_add, Nat.add_zero, Nat.reduceAdd, List.cons_append, List.nil_append, List.eraseIdx_cons_zero, List.eraseIdx_cons_succ])
                      refine WX ?_
                      refine W ?_
                      rintro u7 _ ⟨Us, lu, su, hUs, rfl⟩
                      try (dsimp only [st, setL, AV.cells, List.set_cons_zero, List.set_cons_succ, List.drop_zero, List.drop_succ_cons, List.take_zero, List.take_succ_cons, Nat.zero_add, Nat.add_zero, Nat.reduceAdd, List.cons_append, List.nil_append, List.eraseIdx_cons_zero, List.eraseIdx_cons_succ])
                      refine WX ?_
                      refine LX_fK noG (LO_ap0 4 rfl (fun h' HL => HL.rdI 0 rfl enV1 (by decide)) enV1 (by decide) (by omega) (by omega) rfl rfl rfl fun w8 hw8 sw8 => ⟨by simp, ?_⟩)
                      try (dsimp only [st, setL, AV.cells, List.set_cons_zero, List.set_cons_succ, List.drop_zero, List.drop_succ_cons, List.take_zero, List.take_succ_cons, Nat.zero_add, Nat.add_zero, Nat.reduceAdd, List.cons_append, List.nil_append, List.eraseIdx_cons_zero, List.eraseIdx_cons_succ])
                      refine WX ?_
                      refine W ?_
                      exact ⟨rfl, _, Us, exJ rfl, hUs, hw8, sw8, fun h' HL => HL.sel [4, 5] (by decide)⟩
                    · refine WX ?_
                      refine LX_fK noG (LO_ap 1 rfl (fun h' HL => HL.rdI 0 rfl enI1 (by decide)) enI1 (by decide) (by simp) (by simp; omega) (by simp; omega) rfl rfl rfl fun w6 hw6 sw6 => ⟨by simp, ?_⟩)
                      try (dsimp only [st, setL, AV.cells, List.set_cons_zero, List.set_cons_succ, List.drop_zero, List.drop_succ_cons, List.take_zero, List.take_succ_cons, Nat.zero_add, Nat.add_zero, Nat.reduceAdd, List.cons_append, List.nil_append, List.eraseIdx_cons_zero, List.eraseIdx_cons_succ])
                      refine WX ?_
                      refine W ?_
                      refine LX_lwe 4 noG rfl rfl rfl ?_
                      try (dsimp only [st, setL, AV.cells, List.set_cons_zero, List.set_cons_succ, List.drop_zero, List.drop_succ_cons, List.take_zero, List.take_succ_cons, Nat.zero_add, Nat.add_zero, Nat.reduceAdd, List.cons_append, List.nil_append, List.eraseIdx_cons_zero, List.eraseIdx_cons_succ])
                      refine WX ?_
                      refine W ?_
                      refine LX_c1 (fun h' HL wf => ih (D ++ [i]) vs vo w6 h'.frz ⟨vs, vo, rfl, (hs.le HL.le).frz, (ho.le HL.le).frz⟩ (HL.rdI 1 rfl enI1 (by decide)).frz (by simp; omega)) rfl rfl noG ?_
                      try (dsimp only [st, setL, AV.cells, List.set_cons_zero, List.set_cons_succ, List.drop_zero, List.drop_succ_cons, List.take_zero, List.take_succ_cons, Nat.zero_add, Nat.add_zero, Nat.reduceAdd, List.cons_append, List.nil_append, List.eraseIdx_cons_zero, List.eraseIdx_cons_succ])
                      refine WX ?_
                      refine W ?_
                      rintro u7 _ ⟨Us, lu, su, hUs, rfl⟩
                      try (dsimp only [st, setL, AV.cells, List.set_cons_zero, List.set_cons_succ, List.drop_zero, List.drop_succ_cons, List.take_zero, List.take_succ_cons, Nat.zero_add, Nat.add_zero, Nat.reduceAdd, List.cons_append, List.nil_append, List.eraseIdx_cons_zero, List.eraseIdx_cons_succ])
                      refine WX ?_
                      refine LX_fK noG (LO_ap0 4 rfl (fun h' HL => HL.rdI 0 rfl enV1 (by decide)) enV1 (by decide) (by omega) (by omega) rfl rfl rfl fun w8 hw8 sw8 => ⟨by simp, ?_⟩)
                      try (dsimp only [st, setL, AV.cells, List.set_cons_zero, List.set_cons_succ, List.drop_zero, List.drop_succ_cons, List.take_zero, List.take_succ_cons, Nat.zero_add, Nat.add_zero, Nat.reduceAdd, List.cons_append, List.nil_append, List.eraseIdx_cons_zero, List.eraseIdx_cons_succ])
                      refine WX ?_
                      refine W ?_
                      exact ⟨rfl, _, Us, exJ rfl, hUs, hw8, sw8, fun h' HL => HL.sel [4, 5] (by decide)⟩
                · refine WX ?_
                  refine LX_lt [i] rfl rfl (by decide) rfl rfl rfl rfl enI1 rfl rfl noG fun w5 hw5 sw5 => ?_
                  try (dsimp only [st, setL, AV.cells, List.set_cons_zero, List.set_cons_succ, List.drop_zero, List.drop_succ_cons, List.take_zero, List.take_succ_cons, Nat.zero_add, Nat.add_zero, Nat.reduceAdd, List.cons_append, List.nil_append, List.eraseIdx_cons_zero, List.eraseIdx_cons_succ])
                  refine WX ?_
                  refine W ?_
                  refine LX_two ?_ ?_
                  · refine WX ?_
                    refine LX_lwe 3 noG rfl rfl rfl ?_
                    try (dsimp only [st, setL, AV.cells, List.set_cons_zero, List.set_cons_succ, List.drop_zero, List.drop_succ_cons, List.take_zero, List.take_succ_cons, Nat.zero_add, Nat.add_zero, Nat.reduceAdd, List.cons_append, List.nil_append, List.eraseIdx_cons_zero, List.eraseIdx_cons_succ])
                    refine WX ?_
                    refine W ?_
                    refine LX_co (fun h' HL wf => l1Own_ac D wD h'.frz (hD.le HL.le).frz (by omega)) enI1 rfl rfl noG fun w3 hw3 sw3 => ?_
                    try (dsimp only [st, setL, AV.cells, List.set_cons_zero, List.set_cons_succ, List.drop_zero, List.drop_succ_cons, List.take_zero, List.take_succ_cons, Nat.zero_add, Nat.add_zero, Nat.reduceAdd, List.cons_append, List.nil_append, List.eraseIdx_cons_zero, List.eraseIdx_cons_succ])
                    refine WX ?_
                    refine W ?_
                    refine LX_fK noG (LO_ap 0 rfl (fun h' HL => HL.rdI 1 rfl enI1 (by decide)) enI1 (by decide) (by simp) (by simp; omega) (by simp; omega) rfl rfl rfl fun w6 hw6 sw6 => ⟨by simp, ?_⟩)
                    try (dsimp only [st, setL, AV.cells, List.set_cons_zero, List.set_cons_succ, List.drop_zero, List.drop_succ_cons, List.take_zero, List.take_succ_cons, Nat.zero_add, Nat.add_zero, Nat.reduceAdd, List.cons_append, List.nil_append, List.eraseIdx_cons_zero, List.eraseIdx_cons_succ])
                    refine WX ?_
                    refine W ?_
                    refine LX_c1 (fun h' HL wf => ih (D ++ [i]) vs vo w6 h'.frz ⟨vs, vo, rfl, (hs.le HL.le).frz, (ho.le HL.le).frz⟩ (HL.rdI 0 rfl enI1 (by decide)).frz (by simp; omega)) rfl rfl noG ?_
                    try (dsimp only [st, setL, AV.cells, List.set_cons_zero, List.set_cons_succ, List.drop_zero, List.drop_succ_cons, List.take_zero, List.take_succ_cons, Nat.zero_add, Nat.add_zero, Nat.reduceAdd, List.cons_append, List.nil_append, List.eraseIdx_cons_zero, List.eraseIdx_cons_succ])
                    refine WX ?_
                    refine W ?_
                    rintro u7 _ ⟨Us, lu, su, hUs, rfl⟩
                    try (dsimp only [st, setL, AV.cells, List.set_cons_zero, List.set_cons_succ, List.drop_zero, List.drop_succ_cons, List.take_zero, List.take_succ_cons, Nat.zero_add, Nat.add_zero, Nat.reduceAdd, List.cons_append, List.nil_append, List.eraseIdx_cons_zero, List.eraseIdx_cons_succ])
                    refine WX ?_
                    refine LX_fK noG (LO_ap0 4 rfl (fun h' HL => HL.rdI 0 rfl enV1 (by decide)) enV1 (by decide) (by omega) (by omega) rfl rfl rfl fun w8 hw8 sw8 => ⟨by simp, ?_⟩)
                    try (dsimp only [st, setL, AV.cells, List.set_cons_zero, List.set_cons_succ, List.drop_zero, List.drop_succ_cons, List.take_zero, List.take_succ_cons, Nat.zero_add, Nat.add_zero, Nat.reduceAdd, List.cons_append, List.nil_append, List.eraseIdx_cons_zero, List.eraseIdx_cons_succ])
                    refine WX ?_
                    refine W ?_
                    exact ⟨rfl, _, Us, exJ rfl, hUs, hw8, sw8, fun h' HL => HL.sel [4, 5] (by decide)⟩
                  · refine WX ?_
                    refine LX_co (fun h' HL wf => l1Own_ac D wD h'.frz (hD.le HL.le).frz (by omega)) enI1 rfl rfl noG fun w3 hw3 sw3 => ?_
                    try (dsimp only [st, setL, AV.cells, List.set_cons_zero, List.set_cons_succ, List.drop_zero, List.drop_succ_cons, List.take_zero, List.take_succ_cons, Nat.zero_add, Nat.add_zero, Nat.reduceAdd, List.cons_append, List.nil_append, List.eraseIdx_cons_zero, List.eraseIdx_cons_succ])
                    refine WX ?_
                    refine W ?_
                    refine LX_two ?_ ?_
                    · refine WX ?_
                      refine LX_lwe 4 noG rfl rfl rfl ?_
                      try (dsimp only [st, setL, AV.cells, List.set_cons_zero, List.set_cons_succ, List.drop_zero, List.drop_succ_cons, List.take_zero, List.take_succ_cons, Nat.zero_add, Nat.add_zero, Nat.reduceAdd, List.cons_append, List.nil_append, List.eraseIdx_cons_zero, List.eraseIdx_cons_succ])
                      refine WX ?_
                      refine W ?_
                      refine LX_fK noG (LO_ap 0 rfl (fun h' HL => HL.rdI 1 rfl enI1 (by decide)) enI1 (by decide) (by simp) (by simp; omega) (by simp; omega) rfl rfl rfl fun w6 hw6 sw6 => ⟨by simp, ?_⟩)
                      try (dsimp only [st, setL, AV.cells, List.set_cons_zero, List.set_cons_succ, List.drop_zero, List.drop_succ_cons, List.take_zero, List.take_succ_cons, Nat.zero_add, Nat.add_zero, Nat.reduceAdd, List.cons_append, List.nil_append, List.eraseIdx_cons_zero, List.eraseIdx_cons_succ])
                      refine WX ?_
                      refine W ?_
                      refine LX_c1 (fun h' HL wf => ih (D ++ [i]) vs vo w6 h'.frz ⟨vs, vo, rfl, (hs.le HL.le).frz, (ho.le HL.le).frz⟩ (HL.rdI 0 rfl enI1 (by decide)).frz (by simp; omega)) rfl rfl noG ?_
                      try (dsimp only [st, setL, AV.cells, List.set_cons_zero, List.set_cons_succ, List.drop_zero, List.drop_succ_cons, List.take_zero, List.take_succ_cons, Nat.zero_add, Nat.add_zero, Nat.reduceAdd, List.cons_append, List.nil_append, List.eraseIdx_cons_zero, List.eraseIdx_cons_succ])
                      refine WX ?_
                      refine W ?_
                      rintro u7 _ ⟨Us, lu, su, hUs, rfl⟩
                      try (dsimp only [st, setL, AV.cells, List.set_cons_zero, List.set_cons_succ, List.drop_zero, List.drop_succ_cons, List.take_zero, List.take_succ_cons, Nat.zero_add, Nat.add_zero, Nat.reduceAdd, List.cons_append, List.nil_append, List.eraseIdx_cons_zero, List.eraseIdx_cons_succ])
                      refine WX ?_
                      refine LX_fK noG (LO_ap0 4 rfl (fun h' HL => HL.rdI 0 rfl enV1 (by decide)) enV1 (by decide) (by omega) (by omega) rfl rfl rfl fun w8 hw8 sw8 => ⟨by simp, ?_⟩)
                      try (dsimp only [st, setL, AV.cells, List.set_cons_zero, List.set_cons_succ, List.drop_zero, List.drop_succ_cons, List.take_zero, List.take_succ_cons, Nat.zero_add, Nat.add_zero, Nat.reduceAdd, List.cons_append, List.nil_append, List.eraseIdx_cons_zero, List.eraseIdx_cons_succ])
                      refine WX ?_
                      refine W ?_
                      exact ⟨rfl, _, Us, exJ rfl, hUs, hw8, sw8, fun h' HL => HL.sel [4, 5] (by decide)⟩
                    · refine WX ?_
                      refine LX_fK noG (LO_ap 0 rfl (fun h' HL => HL.rdI 1 rfl enI1 (by decide)) enI1 (by decide) (by simp) (by simp; omega) (by simp; omega) rfl rfl rfl fun w6 hw6 sw6 => ⟨by simp, ?_⟩)
                      try (dsimp only [st, setL, AV.cells, List.set_cons_zero, List.set_cons_succ, List.drop_zero, List.drop_succ_cons, List.take_zero, List.take_succ_cons, Nat.zero_add, Nat.add_zero, Nat.reduceAdd, List.cons_append, List.nil_append, List.eraseIdx_cons_zero, List.eraseIdx_cons_succ])
                      refine WX ?_
                      refine W ?_
                      refine LX_lwe 4 noG rfl rfl rfl ?_
                      try (dsimp only [st, setL, AV.cells, List.set_cons_zero, List.set_cons_succ, List.drop_zero, List.drop_succ_cons, List.take_zero, List.take_succ_cons, Nat.zero_add, Nat.add_zero, Nat.reduceAdd, List.cons_append, List.nil_append, List.eraseIdx_cons_zero, List.eraseIdx_cons_succ])
                      refine WX ?_
                      refine W ?_
                      refine LX_c1 (fun h' HL wf => ih (D ++ [i]) vs vo w6 h'.frz ⟨vs, vo, rfl, (hs.le HL.le).frz, (ho.le HL.le).frz⟩ (HL.rdI 0 rfl enI1 (by decide)).frz (by simp; omega)) rfl rfl noG ?_
                      try (dsimp only [st, setL, AV.cells, List.set_cons_zero, List.set_cons_succ, List.drop_zero, List.drop_succ_cons, List.take_zero, List.take_succ_cons, Nat.zero_add, Nat.add_zero, Nat.reduceAdd, List.cons_append, List.nil_append, List.eraseIdx_cons_zero, List.eraseIdx_cons_succ])
                      refine WX ?_
                      refine W ?_
                      rintro u7 _ ⟨Us, lu, su, hUs, rfl⟩
                      try (dsimp only [st, setL, AV.cells, List.set_cons_zero, List.set_cons_succ, List.drop_zero, List.drop_succ_cons, List.take_zero, List.take_succ_cons, Nat.zero_add, Nat.add_zero, Nat.reduceAdd, List.cons_append, List.nil_append, List.eraseIdx_cons_zero, List.eraseIdx_cons_succ])
                      refine WX ?_
                      refine LX_fK noG (LO_ap0 4 rfl (fun h' HL => HL.rdI 0 rfl enV1 (by decide)) enV1 (by decide) (by omega) (by omega) rfl rfl rfl fun w8 hw8 sw8 => ⟨by simp, ?_⟩)
                      try (dsimp only [st, setL, AV.cells, List.set_cons_zero, List.set_cons_succ, List.drop_zero, List.drop_succ_cons, List.take_zero, List.take_succ_cons, Nat.zero_add, Nat.add_zero, Nat.reduceAdd, List.cons_append, List.nil_append, List.eraseIdx_cons_zero, List.eraseIdx_cons_succ])
                      refine WX ?_
                      refine W ?_
                      exact ⟨rfl, _, Us, exJ rfl, hUs, hw8, sw8, fun h' HL => HL.sel [4, 5] (by decide)⟩
            · rintro _ L ⟨w8, Us, ⟨r, rfl⟩, hUs, lw8, sw8, hL⟩
              refine W ?_
              refine LIL_conv hL ?_
              refine IH (n - 1) _ _ (by omega) ⟨i + 1, _, _, exJ rfl, rfl, by omega, by omega, by rw [toNat_succ hi0]; simp only [List.length_append]; omega, lw8, sw8⟩
    · rw [List.drop_eq_nil_of_le (by omega), sumO] at heq
      refine RET fun h' HL => ?_
      try dsimp only [oneA]
      exact ⟨_, ⟨Vs, lo, so, by omega, rfl⟩, HL.sel [0] (by decide)⟩

/-! ### Orders of the steps, as they are told one by one -/
theorem LO_apc {P : Program} {h0 : AH} {L : List It} {a : List AV} {d : Option Nat} {X : List AV → List It → Prop} {α : Type} {k : Nat} {enc : α → List AV} {T e : TypeId} {x y : Operand} {v u : AV} {ll l' : List α} {bytes : Nat} {z : AV} [i1 : Tsl P T e] [i2 : Tsz P e k] [i4 : Tby P e bytes] [i3 : Tze P e z]
    (hv : v = .ns ∨ ∃ b o n, v = .sl b o n true) (hRv : ∀ h, Loq h0 h L → RdG k enc h v ll) (hR : ∀ h, Loq h0 h L → RdG k enc h u l')
    (hke : ∀ x, (enc x).length = k) (hk0 : 0 < k) (hne : l' ≠ []) (hbd : (ll.length + l'.length) * bytes ≤ 140737488355328) (hbd2 : ll.length + l'.length ≤ 4611686018427387904) (hzl : z.cells.length = k)
    (hx : ev a x = some v) (hy : ev a y = some u) (H : ∀ w, lenA w = some (ll ++ l').length → w.sc = true → X (st a d w) (.sl w k ((ll ++ l').flatMap enc) :: L)) :
    LO P h0 L (.call { callee := .builtin .append, args := #[x, y], argTypes := #[T, T] }) d X a := by
  intro h HL
  have hRv' := hRv h HL
  have hR' := hR h HL
  rcases hv with rfl | ⟨b, o, n, rfl⟩
  · have hll : ll = [] := by
      have e := hRv'.len
      simp [lenA] at e
      exact List.eq_nil_of_length_eq_zero e.symm
    subst hll
    have HL1 : Loq h0 h (.sl .ns k (([] : List α).flatMap enc) :: L) := HL.cons (.inl ⟨rfl, rfl⟩) fun y hy b e => by cases e
    exact LO_ap (X := X) 0 rfl (fun h1 HL' => hR h1 HL'.tail) hke hk0 hne hbd hbd2 hzl hx hy H h HL1
  · rcases hRv'.rd with e1 | ⟨b', o', c', e1, hrow, _⟩
    · cases e1
    · injection e1 with q1 q2 q3 q4
      subst q1; subst q2; subst q3
      rcases hR'.rd with e2 | ⟨b2, o2, c2, rfl, hrow2, _⟩
      · subst e2
        have e := hR'.len
        simp [lenA] at e
        exact absurd (List.eq_nil_of_length_eq_zero e.symm) hne
      · have hpos : 0 < l'.length := List.length_pos_iff.2 hne
        exact OpR_append_clip i1.e i2.e i4.e i3.e hzl hx hy hpos hrow hrow2 hbd hbd2 ⟨_, HL.newS hke (ll ++ l') false (by simp) (by simp), H _ (by simp [lenA]) rfl⟩

def clipA : AV → AV
  | .sl b o n _ => .sl b o n true
  | v => v

theorem clipA_rd {h : AH} {v : AV} {l : List Int} (H : Rd h v l) : Rd h (clipA v) l := by
  rcases H.rd with rfl | ⟨b, o, c, rfl, h1, h2⟩
  · exact H
  · exact ⟨rfl, .inr ⟨b, o, true, rfl, h1, h2⟩⟩

theorem clipA_c {h : AH} {v : AV} {l : List Int} (H : Rd h v l) : clipA v = .ns ∨ ∃ b o n, clipA v = .sl b o n true := by
  rcases H.rd with rfl | ⟨b, o, c, rfl, h1, h2⟩
  · exact .inl rfl
  · exact .inr ⟨_, _, _, rfl⟩

theorem OpV_c3 {P : Program} {a : List AV} {T e : TypeId} {x hi mx : Operand} {b off len k : Nat} {c : Bool} {m : Int} [i1 : Tsl P T e] [i2 : Tsz P e k] (hx : ev a x = some (.sl b off len c)) (hh : ev a hi = some (.i .i64 m)) (hm : ev a mx = some (.i .i64 m)) (h1 : m = len) :
    OpV P (.slice T x none (some hi) (some mx)) a (.sl b off len true) := by
  unfold OpV
  intro ι ca hr o ho
  subst h1
  obtain ⟨pl, y, cap, hpl, hq, hle, hcl, hxx⟩ := rel_sl (ev_rel hr hx)
  have e1 := rel_i (ev_rel hr hh)
  have e2 := rel_i (ev_rel hr hm)
  have hrun : ∀ w, (Instr.sliceBounds true len cap none (some (ca.eval hi)) (some (ca.eval mx))).run P w = .ok (0, len, len) w := fun w => by
    simp [Instr.sliceBounds, e1, e2, run_sliceBound (show (0 : Int) ≤ len by omega) (show ((len : Int)).toNat ≤ cap by omega), run_sliceBound (show (0 : Int) ≤ len by omega) (show ((len : Int)).toNat ≤ len by omega)]
  refine ⟨.slice (some (if len = 0 then y else y.add (0 * k))) (len - 0) (len - 0), fun w => ?_, ?_⟩
  · unfold execOp
    simp only [ho, hq, Instr.sliceAt, Sem.run_bind, run_underlying i1.e, Result.andThen_ok, Option.map_none, Instr.slice, hrun, run_sizeOf_sz i2.e, Sem.run_pure, Option.map_some]
    by_cases e : len = 0 <;> simp [e]
  · refine .sl b off _ true pl _ len hpl (Nat.le_refl _) (fun _ => rfl) ?_
    by_cases e : len = 0
    · exact .inl e
    · rw [if_neg e]
      have hc0 : ¬ cap = 0 := by omega
      obtain ⟨e3, e4⟩ := hxx.resolve_left hc0
      refine .inr ⟨by rw [e3, add_none]; simp, ?_⟩
      have := Nat.mul_le_mul_right pl.k hle
      omega

theorem OpV_n3 {P : Program} {a : List AV} {T e : TypeId} {x hi mx : Operand} {k : Nat} [i1 : Tsl P T e] [i2 : Tsz P e k] (hx : ev a x = some .ns) (hh : ev a hi = some (.i .i64 0)) (hm : ev a mx = some (.i .i64 0)) :
    OpV P (.slice T x none (some hi) (some mx)) a .ns := by
  unfold OpV
  intro ι ca hr o ho
  have hq : ca.eval x = .slice none 0 0 := by
    have := ev_rel hr hx
    generalize ca.eval x = q at this
    cases this; rfl
  have e1 := rel_i (ev_rel hr hh)
  have e2 := rel_i (ev_rel hr hm)
  have hrun : ∀ w, (Instr.sliceBounds true 0 0 none (some (ca.eval hi)) (some (ca.eval mx))).run P w = .ok (0, 0, 0) w := fun w => by
    simp [Instr.sliceBounds, e1, e2, run_sliceBound (show (0 : Int) ≤ 0 by omega) (show ((0 : Int)).toNat ≤ 0 by omega)]
  refine ⟨.slice none 0 0, fun w => ?_, .ns⟩
  unfold execOp
  simp only [ho, hq, Instr.sliceAt, Sem.run_bind, run_underlying i1.e, Result.andThen_ok, Option.map_none, Instr.slice, hrun, run_sizeOf_sz i2.e, Sem.run_pure, Option.map_some]
  simp

theorem Clip_ac (l : List Int) (v : AV) (h : AH) (hR : Rd h v l) (hl : l.length ≤ 1048576) : AC Try.prog 141 [v] h (fun r h' => r = clipA v ∧ h.le h') := by
  have hln := hR.len
  rcases hR.rd with rfl | ⟨b, o, c, rfl, _, _⟩
  · obtain rfl : l = [] := by simp [lenA] at hln; exact List.eq_nil_of_length_eq_zero hln.symm
    refine e141 _ fun wf => ?_
    unfold c141
    refine LI_start wf ?_
    refine W ?_
    refine LS_v (OpV_n3 rfl rfl rfl) ?_
    try (dsimp only [st, setL, AV.cells, List.set_cons_zero, List.set_cons_succ, List.drop_zero, List.drop_succ_cons, List.take_zero, List.take_succ_cons, Nat.zero_add, Nat.add_zero, Nat.reduceAdd, List.cons_append, List.nil_append, List.eraseIdx_cons_zero, List.eraseIdx_cons_succ])
    refine W ?_
    refine RET fun h' HL => ?_
    try dsimp only [oneA]
    exact ⟨rfl, HL.le⟩
  · refine e141 _ fun wf => ?_
    unfold c141
    refine LI_start wf ?_
    refine W ?_
    refine LS_v (OpV_c3 rfl rfl rfl rfl) ?_
    try (dsimp only [st, setL, AV.cells, List.set_cons_zero, List.set_cons_succ, List.drop_zero, List.drop_succ_cons, List.take_zero, List.take_succ_cons, Nat.zero_add, Nat.add_zero, Nat.reduceAdd, List.cons_append, List.nil_append, List.eraseIdx_cons_zero, List.eraseIdx_cons_succ])
    refine W ?_
    refine RET fun h' HL => ?_
    try dsimp only [oneA]
    exact ⟨rfl, HL.le⟩

theorem ready_ac (p : PlanM) (D : List Int) (x : Int) (b b3 b4 : Nat) (vs vo wD : AV) (h : AH) (c3 : h.cell b3 0 = some (.p b 0)) (c4 : h.cell b4 0 = some wD) (hp : PlP h b p vs vo) (hD : Rd h wD D) (hDl : D.length ≤ 1048576) (hx0 : 0 ≤ x) (hx1 : x ≤ 4096) (hn0 : 1 ≤ p.n) (hn1 : p.n ≤ 6) :
    AC Try.prog 140 [.i .i64 x, .p b3 0, .p b4 0] h (fun r h' => r = .b (rd1 p D x) ∧ h.le h') := by
  have p0 := hp.c0
  refine e140 _ _ _ fun wf => ?_
  unfold c140
  refine LI_start wf ?_
  refine W ?_
  refine dz140_0 ?_
  refine WX ?_
  refine W ?_
  by_cases hlt : x < p.n
  · rw [decide_eq_true hlt]
    refine WX ?_
    try (dsimp only [st, setL, AV.cells, List.set_cons_zero, List.set_cons_succ, List.drop_zero, List.drop_succ_cons, List.take_zero, List.take_succ_cons, Nat.zero_add, Nat.add_zero, Nat.reduceAdd, List.cons_append, List.nil_append, List.eraseIdx_cons_zero, List.eraseIdx_cons_succ])
    refine W ?_
    refine RET fun h' HL => ?_
    try dsimp only [oneA]
    exact ⟨by rw [rd1, decide_eq_true hlt]; rfl, HL.le⟩
  · rw [decide_eq_false hlt]
    refine WX ?_
    refine LX_c0 (fun h' HL wf => Contains_ac D wD (x - p.n) h'.frz (hD.le HL.le).frz (by omega)) rfl rfl (by simp) ?_
    try (dsimp only [st, setL, AV.cells, List.set_cons_zero, List.set_cons_succ, List.drop_zero, List.drop_succ_cons, List.take_zero, List.take_succ_cons, Nat.zero_add, Nat.add_zero, Nat.reduceAdd, List.cons_append, List.nil_append, List.eraseIdx_cons_zero, List.eraseIdx_cons_succ])
    refine WX ?_
    refine W ?_
    refine RET fun h' HL => ?_
    try dsimp only [oneA]
    exact ⟨by rw [rd1, decide_eq_false hlt]; rfl, HL.le⟩

theorem within1_ac (p : PlanM) (hk : planOk p = true) (D : List Int) (b b2 b3 bc : Nat) (vs vo wD : AV) (h0 h : AH) (Lr : List It) (c : Int) (hp : PlP h0 b p vs vo) (HL : Loq h0 h (.pt bc [.i .i64 c] :: .pt b2 [.p b 0] :: .pt b3 [.i .i64 46] :: Lr)) (hD : ∀ h', Loq h0 h' Lr → Rd h' wD D) (hDl : D.length ≤ 1048576) (hDb : ∀ i ∈ D, 0 ≤ i ∧ i < p.steps.length) (hc0 : 0 ≤ c) (hc1 : c ≤ 16777216) :
    AC Try.prog 127 [wD, .p b2 0, .p b3 0, .p bc 0] h (fun r h' => ∃ M, (r = .tup [] ∧ M = .pt bc [.i .i64 (c + 1)] :: .pt b2 [.p b 0] :: .pt b3 [.i .i64 46] :: Lr) ∧ Loq h0 h' M) := by
  obtain ⟨h1, h2, h3, h4, hf, h6⟩ := planOk_out hk
  have hpr : pressM p D ≤ 46 := by
    have := pressF_bd h1 D [] p.n hDb (by omega)
    unfold pressM
    omega
  refine e127 _ _ _ _ fun wf => ?_
  unfold c127
  refine LI_startL HL ?_
  refine W ?_
  refine dz127_0 ?_
  refine WX ?_
  refine W ?_
  refine LX_c0 (fun h' HL wf => pressure_ac p D b vs vo wD h'.frz (hp.le HL.le).frz hk (hD h' HL.tail.tail.tail).frz hDl hDb) rfl rfl noG ?_
  try (dsimp only [st, setL, AV.cells, List.set_cons_zero, List.set_cons_succ, List.drop_zero, List.drop_succ_cons, List.take_zero, List.take_succ_cons, Nat.zero_add, Nat.add_zero, Nat.reduceAdd, List.cons_append, List.nil_append, List.eraseIdx_cons_zero, List.eraseIdx_cons_succ])
  refine WX ?_
  refine W ?_
  first | (refine LS_gyH rfl (decide_eq_true hpr) ?_; intro hg) | (refine LI_cond_tH rfl (decide_eq_true hpr) ?_; intro hg)
  refine W ?_
  refine LRet_n fun h' HL => ⟨[], rfl, ?_⟩
  exact ⟨_, ⟨rfl, rfl⟩, HL⟩

theorem loq_dr {h0 h : AH} {L M : List It} (n : Nat) (e : L.drop n = M) (H : Loq h0 h L) : Loq h0 h M := by
  subst e
  exact H.sub (List.drop_sublist n L)

theorem orders_ac (p : PlanM) (hk : planOk p = true) (hm : p.steps.length ≤ 8) (b b2 b3 bc : Nat) (vs vo : AV) (k : Nat) : ∀ (D : List Int) (wD : AV) (h0 h : AH) (Lr : List It) (c : Int), PlP h0 b p vs vo → Loq h0 h (.pt bc [.i .i64 c] :: .pt b2 [.p b 0] :: .pt b3 [.i .i64 46] :: Lr) → (∀ h', Loq h0 h' Lr → Rd h' wD D) → D.length + k = p.steps.length → (∀ i ∈ D, 0 ≤ i ∧ i < p.steps.length) → 0 ≤ c → c + cntO p k D ≤ 16777216 →
    AC Try.prog 126 [.p b 0, wD, .f 127 [.p b2 0, .p b3 0, .p bc 0]] h (fun r h' => ∃ M, (r = .tup [] ∧ M = .pt bc [.i .i64 (c + cntO p k D)] :: .pt b2 [.p b 0] :: .pt b3 [.i .i64 46] :: Lr) ∧ Loq h0 h' M) := by
  obtain ⟨h1, h2, h3, h4, hf, h6⟩ := planOk_out hk
  have hS := plan_bd hk
  induction k with
  | zero =>
    intro D wD h0 h Lr c hp HL hD hlen hDb hc0 hc1
    have hD0 := hD h HL.tail.tail.tail
    have hdl := hD0.len
    have hsl := hp.steps.len
    have c1 := hp.c1
    refine e126 _ _ _ fun wf => ?_
    unfold c126
    refine LI_startL HL ?_
    refine W ?_
    refine LS_bx1 rfl rfl fun p3 => ?_
    try (dsimp only [st, setL, AV.cells, List.set_cons_zero, List.set_cons_succ, List.drop_zero, List.drop_succ_cons, List.take_zero, List.take_succ_cons, Nat.zero_add, Nat.add_zero, Nat.reduceAdd, List.cons_append, List.nil_append, List.eraseIdx_cons_zero, List.eraseIdx_cons_succ])
    refine W ?_
    refine LS_bx1 rfl (rd_sc hD0) fun p4 => ?_
    try (dsimp only [st, setL, AV.cells, List.set_cons_zero, List.set_cons_succ, List.drop_zero, List.drop_succ_cons, List.take_zero, List.take_succ_cons, Nat.zero_add, Nat.add_zero, Nat.reduceAdd, List.cons_append, List.nil_append, List.eraseIdx_cons_zero, List.eraseIdx_cons_succ])
    refine W ?_
    refine dz126_0 ?_
    refine WX ?_
    refine W ?_
    first | (refine LS_gyH rfl (decide_eq_true (by omega)) ?_; intro hg) | (refine LI_cond_tH rfl (decide_eq_true (by omega)) ?_; intro hg)
    refine W ?_
    refine LS_rot 4 rfl (LS_rot 4 rfl (LS_rot 4 rfl ?_))
    refine LS_cm (.refl _) (fun h' HL wf => within1_ac p hk D b b2 b3 bc vs vo wD h0 h' _ c hp HL (fun h2 HL2 => hD h2 HL2.tail.tail) (by omega) hDb hc0 (by omega)) rfl rfl ?_
    try (dsimp only [st, setL, AV.cells, List.set_cons_zero, List.set_cons_succ, List.drop_zero, List.drop_succ_cons, List.take_zero, List.take_succ_cons, Nat.zero_add, Nat.add_zero, Nat.reduceAdd, List.cons_append, List.nil_append, List.eraseIdx_cons_zero, List.eraseIdx_cons_succ])
    refine W ?_
    rintro _ _ ⟨rfl, rfl⟩
    try (dsimp only [st, setL, AV.cells, List.set_cons_zero, List.set_cons_succ, List.drop_zero, List.drop_succ_cons, List.take_zero, List.take_succ_cons, Nat.zero_add, Nat.add_zero, Nat.reduceAdd, List.cons_append, List.nil_append, List.eraseIdx_cons_zero, List.eraseIdx_cons_succ])
    refine W ?_
    refine LRet_r fun h' HL => ⟨[], rfl, ?_⟩
    exact ⟨_, ⟨rfl, rfl⟩, HL.sub (.cons_cons _ (.cons_cons _ (.cons_cons _ (.cons _ (.cons _ (.refl _))))))⟩
  | succ k ih =>
    intro D wD h0 h Lr c hp HL hD hlen hDb hc0 hc1
    have hD0 := hD h HL.tail.tail.tail
    have hdl := hD0.len
    have hcl := clipA_c hD0
    have hs := hp.steps
    have hsl := hs.len
    have c1 := hp.c1
    refine e126 _ _ _ fun wf => ?_
    unfold c126
    refine LI_startL HL ?_
    refine W ?_
    refine LS_bx1 rfl rfl fun p3 => ?_
    try (dsimp only [st, setL, AV.cells, List.set_cons_zero, List.set_cons_succ, List.drop_zero, List.drop_succ_cons, List.take_zero, List.take_succ_cons, Nat.zero_add, Nat.add_zero, Nat.reduceAdd, List.cons_append, List.nil_append, List.eraseIdx_cons_zero, List.eraseIdx_cons_succ])
    refine W ?_
    refine LS_bx1 rfl (rd_sc hD0) fun p4 => ?_
    try (dsimp only [st, setL, AV.cells, List.set_cons_zero, List.set_cons_succ, List.drop_zero, List.drop_succ_cons, List.take_zero, List.take_succ_cons, Nat.zero_add, Nat.add_zero, Nat.reduceAdd, List.cons_append, List.nil_append, List.eraseIdx_cons_zero, List.eraseIdx_cons_succ])
    refine W ?_
    refine dz126_0 ?_
    refine WX ?_
    refine W ?_
    first | (refine LS_gtnH rfl (decide_eq_false (by omega)) ?_; intro hg; try (dsimp only [st, setL, AV.cells, List.set_cons_zero, List.set_cons_succ, List.drop_zero, List.drop_succ_cons, List.take_zero, List.take_succ_cons, Nat.zero_add, Nat.add_zero, Nat.reduceAdd, List.cons_append, List.nil_append, List.eraseIdx_cons_zero, List.eraseIdx_cons_succ])) | (refine LS_gfnH rfl (decide_eq_false (by omega)) ?_; intro hg; try (dsimp only [st, setL, AV.cells, List.set_cons_zero, List.set_cons_succ, List.drop_zero, List.drop_succ_cons, List.take_zero, List.take_succ_cons, Nat.zero_add, Nat.add_zero, Nat.reduceAdd, List.cons_append, List.nil_append, List.eraseIdx_cons_zero, List.eraseIdx_cons_succ])) | (refine LI_cond_fH rfl (decide_eq_false (by omega)) ?_; intro hg)
    refine W ?_
    refine LIL_rot 4 rfl (LIL_rot 4 rfl (LIL_rot 4 rfl ?_))
    try (dsimp only [st, setL, AV.cells, List.set_cons_zero, List.set_cons_succ, List.drop_zero, List.drop_succ_cons, List.take_zero, List.take_succ_cons, Nat.zero_add, Nat.add_zero, Nat.reduceAdd, List.cons_append, List.nil_append, List.eraseIdx_cons_zero, List.eraseIdx_cons_succ])
    refine LIL_ind (fun n a L => ∃ (i : Int) (m0 : Nat), (∃ r : Nat → AV, a = [r 0, r 1, .f 127 [.p b2 0, .p b3 0, .p bc 0], .p p3 0, .p p4 0, r 5, .f 140 [.p p3 0, .p p4 0], r 7, r 8, r 9, r 10, r 11, r 12, r 13, r 14, r 15, r 16, r 17, r 18, r 19, r 20, r 21, r 22, r 23, vs, .i .i64 p.steps.length, .i .i64 i, r 27, r 28, r 29, r 30, r 31, r 32, r 33, r 34, r 35, r 36, r 37, r 38, r 39, r 40, r 41, r 42, r 43, r 44, r 45, r 46, r 47, r 48, r 49, r 50, r 51, r 52, r 53, r 54, r 55]) ∧ L = .pt bc [.i .i64 (c + m0)] :: .pt b2 [.p b 0] :: .pt b3 [.i .i64 46] :: .pt p4 [wD] :: .pt p3 [.p b 0] :: Lr ∧ 0 ≤ i ∧ i + n = p.steps.length ∧ m0 + sumO (fun i => cntO p k (D ++ [i])) (rdO p D) i (p.steps.drop i.toNat) = cntO p (k + 1) D)
      p.steps.length ⟨0, 0, exJ rfl, by rw [show c + ((0 : Nat) : Int) = c by omega], by omega, by omega, by simp [cntO]⟩ ?_
    rintro n a L ⟨i, m0, ⟨r, rfl⟩, rfl, hi0, hn, heq⟩ IH
    refine W ?_
    (first | refine LS_gt rfl ?_ ?_ | refine LS_gf rfl ?_ ?_ | refine LI_cond rfl ?_ ?_) <;> intro hc <;> have hc' := hc <;> try simp only [decide_eq_true_eq, decide_eq_false_iff_not, Bool.not_eq_true', Bool.not_eq_false', Bool.not_eq_true, Bool.not_eq_false, beq_iff_eq, bne_iff_ne, beq_eq_false_iff_ne, bne_eq_false_iff_eq, Int.not_lt, Int.not_le, ge_iff_le, gt_iff_lt, not_and, ne_eq, Decidable.not_not] at hc'
    all_goals (try (dsimp only [st, setL, AV.cells, List.set_cons_zero, List.set_cons_succ, List.drop_zero, List.drop_succ_cons, List.take_zero, List.take_succ_cons, Nat.zero_add, Nat.add_zero, Nat.reduceAdd, List.cons_append, List.nil_append, List.eraseIdx_cons_zero, List.eraseIdx_cons_succ]))
    all_goals (refine W ?_)
    · have hc'2 := hc'
      obtain ⟨s, hs1, hsm, hd⟩ := drop_at (l := p.steps) hi0 hc'
      have hb := hS s hsm
      rw [hd, sumO] at heq
      refine LS_ix (fun h' HL => hs.le HL.le) enStep2 hs1 hi0 rfl rfl fun q1 o1 hrow1 => ?_
      try (dsimp only [st, setL, AV.cells, List.set_cons_zero, List.set_cons_succ, List.drop_zero, List.drop_succ_cons, List.take_zero, List.take_succ_cons, Nat.zero_add, Nat.add_zero, Nat.reduceAdd, List.cons_append, List.nil_append, List.eraseIdx_cons_zero, List.eraseIdx_cons_succ])
      refine W ?_
      refine LS_al rfl fun b8 => ?_
      try (dsimp only [st, setL, AV.cells, List.set_cons_zero, List.set_cons_succ, List.drop_zero, List.drop_succ_cons, List.take_zero, List.take_succ_cons, Nat.zero_add, Nat.add_zero, Nat.reduceAdd, List.cons_append, List.nil_append, List.eraseIdx_cons_zero, List.eraseIdx_cons_succ])
      refine W ?_
      refine LS_c0 (fun h' HL wf => Contains_ac D wD i h' (hD h' HL.tail.tail.tail.tail.tail.tail) (by omega)) rfl rfl ?_
      try (dsimp only [st, setL, AV.cells, List.set_cons_zero, List.set_cons_succ, List.drop_zero, List.drop_succ_cons, List.take_zero, List.take_succ_cons, Nat.zero_add, Nat.add_zero, Nat.reduceAdd, List.cons_append, List.nil_append, List.eraseIdx_cons_zero, List.eraseIdx_cons_succ])
      refine W ?_
      refine LS_mid 11 (fun a L => ∃ (t : Bool), (∃ r : Nat → AV, a = [r 0, r 1, .f 127 [.p b2 0, .p b3 0, .p bc 0], .p p3 0, .p p4 0, r 5, .f 140 [.p p3 0, .p p4 0], .i .i64 i, .p b8 0, r 9, r 10, r 11, r 12, r 13, r 14, r 15, r 16, r 17, r 18, r 19, r 20, r 21, r 22, r 23, vs, .i .i64 p.steps.length, .i .i64 i, r 27, r 28, r 29, r 30, r 31, r 32, r 33, r 34, r 35, r 36, r 37, r 38, r 39, r 40, r 41, r 42, r 43, r 44, r 45, .b t, r 47, r 48, r 49, r 50, r 51, r 52, r 53, r 54, r 55]) ∧ L = .pt b8 (enStep s) :: .pt bc [.i .i64 (c + m0)] :: .pt b2 [.p b 0] :: .pt b3 [.i .i64 46] :: .pt p4 [wD] :: .pt p3 [.p b 0] :: Lr ∧ t = rdO p D i s) ?_ ?_
      · try (dsimp only [st, setL, AV.cells, List.set_cons_zero, List.set_cons_succ, List.drop_zero, List.drop_succ_cons, List.take_zero, List.take_succ_cons, Nat.zero_add, Nat.add_zero, Nat.reduceAdd, List.cons_append, List.nil_append, List.eraseIdx_cons_zero, List.eraseIdx_cons_succ])
        refine W ?_
        (first | refine LS_gt rfl ?_ ?_ | refine LS_gf rfl ?_ ?_ | refine LI_cond rfl ?_ ?_) <;> intro hc <;> have hc' := hc <;> try simp only [decide_eq_true_eq, decide_eq_false_iff_not, Bool.not_eq_true', Bool.not_eq_false', Bool.not_eq_true, Bool.not_eq_false, beq_iff_eq, bne_iff_ne, beq_eq_false_iff_ne, bne_eq_false_iff_eq, Int.not_lt, Int.not_le, ge_iff_le, gt_iff_lt, not_and, ne_eq, Decidable.not_not] at hc'
        all_goals (try (dsimp only [st, setL, AV.cells, List.set_cons_zero, List.set_cons_succ, List.drop_zero, List.drop_succ_cons, List.take_zero, List.take_succ_cons, Nat.zero_add, Nat.add_zero, Nat.reduceAdd, List.cons_append, List.nil_append, List.eraseIdx_cons_zero, List.eraseIdx_cons_succ]))
        all_goals (refine W ?_)
        · have g1 : hasL D i = false := nt hc
          refine LS_c0 (fun h' HL wf => ready_ac p D s.1 b p3 p4 vs vo wD h' (HL.cellP 5 rfl rfl) (HL.cellP 4 rfl rfl) (hp.le HL.le) (hD h' HL.tail.tail.tail.tail.tail.tail) (by omega) (by omega) (by omega) h1 h2) rfl rfl ?_
          try (dsimp only [st, setL, AV.cells, List.set_cons_zero, List.set_cons_succ, List.drop_zero, List.drop_succ_cons, List.take_zero, List.take_succ_cons, Nat.zero_add, Nat.add_zero, Nat.reduceAdd, List.cons_append, List.nil_append, List.eraseIdx_cons_zero, List.eraseIdx_cons_succ])
          refine W ?_
          (first | refine LS_gt rfl ?_ ?_ | refine LS_gf rfl ?_ ?_ | refine LI_cond rfl ?_ ?_) <;> intro hc <;> have hc' := hc <;> try simp only [decide_eq_true_eq, decide_eq_false_iff_not, Bool.not_eq_true', Bool.not_eq_false', Bool.not_eq_true, Bool.not_eq_false, beq_iff_eq, bne_iff_ne, beq_eq_false_iff_ne, bne_eq_false_iff_eq, Int.not_lt, Int.not_le, ge_iff_le, gt_iff_lt, not_and, ne_eq, Decidable.not_not] at hc'
          all_goals (try (dsimp only [st, setL, AV.cells, List.set_cons_zero, List.set_cons_succ, List.drop_zero, List.drop_succ_cons, List.take_zero, List.take_succ_cons, Nat.zero_add, Nat.add_zero, Nat.reduceAdd, List.cons_append, List.nil_append, List.eraseIdx_cons_zero, List.eraseIdx_cons_succ]))
          all_goals (refine W ?_)
          · have g2 := hc
            refine LS_c0 (fun h' HL wf => ready_ac p D s.2 b p3 p4 vs vo wD h' (HL.cellP 5 rfl rfl) (HL.cellP 4 rfl rfl) (hp.le HL.le) (hD h' HL.tail.tail.tail.tail.tail.tail) (by omega) (by omega) (by omega) h1 h2) rfl rfl ?_
            try (dsimp only [st, setL, AV.cells, List.set_cons_zero, List.set_cons_succ, List.drop_zero, List.drop_succ_cons, List.take_zero, List.take_succ_cons, Nat.zero_add, Nat.add_zero, Nat.reduceAdd, List.cons_append, List.nil_append, List.eraseIdx_cons_zero, List.eraseIdx_cons_succ])
            refine W ?_
            exact ⟨rfl, _, exJ rfl, rfl, by rw [rdO, g1, g2]; rfl⟩
          · have g2 := hc
            exact ⟨rfl, _, exJ rfl, rfl, by rw [rdO, g1, g2]; rfl⟩
        · have g1 : hasL D i = true := nf hc
          exact ⟨rfl, _, exJ rfl, rfl, by rw [rdO, g1]; rfl⟩
      · rintro _ _ ⟨_, ⟨r, rfl⟩, rfl, rfl⟩
        try (dsimp only [st, setL, AV.cells, List.set_cons_zero, List.set_cons_succ, List.drop_zero, List.drop_succ_cons, List.take_zero, List.take_succ_cons, Nat.zero_add, Nat.add_zero, Nat.reduceAdd, List.cons_append, List.nil_append, List.eraseIdx_cons_zero, List.eraseIdx_cons_succ])
        refine W ?_
        (first | refine LS_gt rfl ?_ ?_ | refine LS_gf rfl ?_ ?_ | refine LI_cond rfl ?_ ?_) <;> intro hc <;> have hc' := hc <;> try simp only [decide_eq_true_eq, decide_eq_false_iff_not, Bool.not_eq_true', Bool.not_eq_false', Bool.not_eq_true, Bool.not_eq_false, beq_iff_eq, bne_iff_ne, beq_eq_false_iff_ne, bne_eq_false_iff_eq, Int.not_lt, Int.not_le, ge_iff_le, gt_iff_lt, not_and, ne_eq, Decidable.not_not] at hc'
        all_goals (try (dsimp only [st, setL, AV.cells, List.set_cons_zero, List.set_cons_succ, List.drop_zero, List.drop_succ_cons, List.take_zero, List.take_succ_cons, Nat.zero_add, Nat.add_zero, Nat.reduceAdd, List.cons_append, List.nil_append, List.eraseIdx_cons_zero, List.eraseIdx_cons_succ]))
        all_goals (refine W ?_)
        · rw [if_pos hc] at heq
          have hD2 : ∀ j ∈ D ++ [i], 0 ≤ j ∧ j < p.steps.length := by
            intro j hj
            rcases List.mem_append.1 hj with hj | hj
            · exact hDb j hj
            · rw [List.mem_singleton.1 hj]; exact ⟨hi0, hc'2⟩
          refine LI_post (fun a L => (∃ r : Nat → AV, a = [r 0, r 1, .f 127 [.p b2 0, .p b3 0, .p bc 0], .p p3 0, .p p4 0, r 5, .f 140 [.p p3 0, .p p4 0], r 7, r 8, r 9, r 10, r 11, r 12, r 13, r 14, r 15, r 16, r 17, r 18, r 19, r 20, r 21, r 22, r 23, vs, .i .i64 p.steps.length, .i .i64 i, r 27, r 28, r 29, r 30, r 31, r 32, r 33, r 34, r 35, r 36, r 37, r 38, r 39, r 40, r 41, r 42, r 43, r 44, r 45, r 46, r 47, r 48, r 49, r 50, r 51, r 52, r 53, r 54, r 55]) ∧ ∀ h', Loq h0 h' L → Loq h0 h' (.pt bc [.i .i64 (c + m0 + cntO p k (D ++ [i]))] :: .pt b2 [.p b 0] :: .pt b3 [.i .i64 46] :: .pt p4 [wD] :: .pt p3 [.p b 0] :: Lr)) ?_ ?_
          · refine dl126_1 [(p3, [.p b 0]), (p4, [wD])] (by simp) ?_
            refine WX ?_
            refine LX_two ?_ ?_
            · refine WX ?_
              refine LX_l1e 5 noG rfl rfl rfl ?_
              try (dsimp only [st, setL, AV.cells, List.set_cons_zero, List.set_cons_succ, List.drop_zero, List.drop_succ_cons, List.take_zero, List.take_succ_cons, Nat.zero_add, Nat.add_zero, Nat.reduceAdd, List.cons_append, List.nil_append, List.eraseIdx_cons_zero, List.eraseIdx_cons_succ])
              refine WX ?_
              refine W ?_
              refine LX_two ?_ ?_
              · refine WX ?_
                refine LX_c0 (fun h' HL wf => Clip_ac D wD h'.frz (hD h' (loq_dr 6 rfl HL)).frz (by omega)) rfl rfl noG ?_
                try (dsimp only [st, setL, AV.cells, List.set_cons_zero, List.set_cons_succ, List.drop_zero, List.drop_succ_cons, List.take_zero, List.take_succ_cons, Nat.zero_add, Nat.add_zero, Nat.reduceAdd, List.cons_append, List.nil_append, List.eraseIdx_cons_zero, List.eraseIdx_cons_succ])
                refine WX ?_
                refine W ?_
                refine LX_lt [i] rfl rfl (by decide) rfl rfl rfl rfl enI1 rfl rfl noG fun w5 hw5 sw5 => ?_
                try (dsimp only [st, setL, AV.cells, List.set_cons_zero, List.set_cons_succ, List.drop_zero, List.drop_succ_cons, List.take_zero, List.take_succ_cons, Nat.zero_add, Nat.add_zero, Nat.reduceAdd, List.cons_append, List.nil_append, List.eraseIdx_cons_zero, List.eraseIdx_cons_succ])
                refine WX ?_
                refine W ?_
                refine LX_fK noG (LO_apc hcl (fun h' HL => clipA_rd (hD h' (loq_dr 7 rfl HL))) (fun h' HL => HL.rdI 0 rfl enI1 (by decide)) enI1 (by decide) (by simp) (by simp; omega) (by simp; omega) rfl rfl rfl fun w6 hw6 sw6 => ⟨by simp, ?_⟩)
                try (dsimp only [st, setL, AV.cells, List.set_cons_zero, List.set_cons_succ, List.drop_zero, List.drop_succ_cons, List.take_zero, List.take_succ_cons, Nat.zero_add, Nat.add_zero, Nat.reduceAdd, List.cons_append, List.nil_append, List.eraseIdx_cons_zero, List.eraseIdx_cons_succ])
                refine WX ?_
                refine W ?_
                refine LX_rot 5 rfl ?_
                try (dsimp only [st, setL, AV.cells, List.set_cons_zero, List.set_cons_succ, List.drop_zero, List.drop_succ_cons, List.take_zero, List.take_succ_cons, Nat.zero_add, Nat.add_zero, Nat.reduceAdd, List.cons_append, List.nil_append, List.eraseIdx_cons_zero, List.eraseIdx_cons_succ])
                refine WX ?_
                refine W ?_
                refine LX_rot 5 rfl ?_
                try (dsimp only [st, setL, AV.cells, List.set_cons_zero, List.set_cons_succ, List.drop_zero, List.drop_succ_cons, List.take_zero, List.take_succ_cons, Nat.zero_add, Nat.add_zero, Nat.reduceAdd, List.cons_append, List.nil_append, List.eraseIdx_cons_zero, List.eraseIdx_cons_succ])
                refine WX ?_
                refine W ?_
                refine LX_rot 5 rfl ?_
                try (dsimp only [st, setL, AV.cells, List.set_cons_zero, List.set_cons_succ, List.drop_zero, List.drop_succ_cons, List.take_zero, List.take_succ_cons, Nat.zero_add, Nat.add_zero, Nat.reduceAdd, List.cons_append, List.nil_append, List.eraseIdx_cons_zero, List.eraseIdx_cons_succ])
                refine WX ?_
                refine W ?_
                refine LX_fK noG (LO_cm (.refl _) (fun h' HL wf => ih (D ++ [i]) w6 h0 h' _ (c + m0) hp HL (fun h2 HL2 => HL2.rdI 0 rfl enI1 (by decide)) (by simp; omega) hD2 (by omega) (by omega)) rfl rfl ?_)
                try (dsimp only [st, setL, AV.cells, List.set_cons_zero, List.set_cons_succ, List.drop_zero, List.drop_succ_cons, List.take_zero, List.take_succ_cons, Nat.zero_add, Nat.add_zero, Nat.reduceAdd, List.cons_append, List.nil_append, List.eraseIdx_cons_zero, List.eraseIdx_cons_succ])
                refine WX ?_
                refine W ?_
                rintro _ _ ⟨rfl, rfl⟩
                refine ⟨by simp, ?_⟩
                try (dsimp only [st, setL, AV.cells, List.set_cons_zero, List.set_cons_succ, List.drop_zero, List.drop_succ_cons, List.take_zero, List.take_succ_cons, Nat.zero_add, Nat.add_zero, Nat.reduceAdd, List.cons_append, List.nil_append, List.eraseIdx_cons_zero, List.eraseIdx_cons_succ])
                refine WX ?_
                exact ⟨rfl, exJ rfl, fun h' HL => HL.sub (.cons_cons _ (.cons_cons _ (.cons_cons _ (.cons _ (.cons _ (.cons _ (.refl _)))))))⟩
              · refine WX ?_
                refine LX_lt [i] rfl rfl (by decide) rfl rfl rfl rfl enI1 rfl rfl noG fun w5 hw5 sw5 => ?_
                try (dsimp only [st, setL, AV.cells, List.set_cons_zero, List.set_cons_succ, List.drop_zero, List.drop_succ_cons, List.take_zero, List.take_succ_cons, Nat.zero_add, Nat.add_zero, Nat.reduceAdd, List.cons_append, List.nil_append, List.eraseIdx_cons_zero, List.eraseIdx_cons_succ])
                refine WX ?_
                refine W ?_
                refine LX_c0 (fun h' HL wf => Clip_ac D wD h'.frz (hD h' (loq_dr 7 rfl HL)).frz (by omega)) rfl rfl noG ?_
                try (dsimp only [st, setL, AV.cells, List.set_cons_zero, List.set_cons_succ, List.drop_zero, List.drop_succ_cons, List.take_zero, List.take_succ_cons, Nat.zero_add, Nat.add_zero, Nat.reduceAdd, List.cons_append, List.nil_append, List.eraseIdx_cons_zero, List.eraseIdx_cons_succ])
                refine WX ?_
                refine W ?_
                refine LX_fK noG (LO_apc hcl (fun h' HL => clipA_rd (hD h' (loq_dr 7 rfl HL))) (fun h' HL => HL.rdI 0 rfl enI1 (by decide)) enI1 (by decide) (by simp) (by simp; omega) (by simp; omega) rfl rfl rfl fun w6 hw6 sw6 => ⟨by simp, ?_⟩)
                try (dsimp only [st, setL, AV.cells, List.set_cons_zero, List.set_cons_succ, List.drop_zero, List.drop_succ_cons, List.take_zero, List.take_succ_cons, Nat.zero_add, Nat.add_zero, Nat.reduceAdd, List.cons_append, List.nil_append, List.eraseIdx_cons_zero, List.eraseIdx_cons_succ])
                refine WX ?_
                refine W ?_
                refine LX_rot 5 rfl ?_
                try (dsimp only [st, setL, AV.cells, List.set_cons_zero, List.set_cons_succ, List.drop_zero, List.drop_succ_cons, List.take_zero, List.take_succ_cons, Nat.zero_add, Nat.add_zero, Nat.reduceAdd, List.cons_append, List.nil_append, List.eraseIdx_cons_zero, List.eraseIdx_cons_succ])
                refine WX ?_
                refine W ?_
                refine LX_rot 5 rfl ?_
                try (dsimp only [st, setL, AV.cells, List.set_cons_zero, List.set_cons_succ, List.drop_zero, List.drop_succ_cons, List.take_zero, List.take_succ_cons, Nat.zero_add, Nat.add_zero, Nat.reduceAdd, List.cons_append, List.nil_append, List.eraseIdx_cons_zero, List.eraseIdx_cons_succ])
                refine WX ?_
                refine W ?_
                refine LX_rot 5 rfl ?_
                try (dsimp only [st, setL, AV.cells, List.set_cons_zero, List.set_cons_succ, List.drop_zero, List.drop_succ_cons, List.take_zero, List.take_succ_cons, Nat.zero_add, Nat.add_zero, Nat.reduceAdd, List.cons_append, List.nil_append, List.eraseIdx_cons_zero, List.eraseIdx_cons_succ])
                refine WX ?_
                refine W ?_
                refine LX_fK noG (LO_cm (.refl _) (fun h' HL wf => ih (D ++ [i]) w6 h0 h' _ (c + m0) hp HL (fun h2 HL2 => HL2.rdI 0 rfl enI1 (by decide)) (by simp; omega) hD2 (by omega) (by omega)) rfl rfl ?_)
                try (dsimp only [st, setL, AV.cells, List.set_cons_zero, List.set_cons_succ, List.drop_zero, List.drop_succ_cons, List.take_zero, List.take_succ_cons, Nat.zero_add, Nat.add_zero, Nat.reduceAdd, List.cons_append, List.nil_append, List.eraseIdx_cons_zero, List.eraseIdx_cons_succ])
                refine WX ?_
                refine W ?_
                rintro _ _ ⟨rfl, rfl⟩
                refine ⟨by simp, ?_⟩
                try (dsimp only [st, setL, AV.cells, List.set_cons_zero, List.set_cons_succ, List.drop_zero, List.drop_succ_cons, List.take_zero, List.take_succ_cons, Nat.zero_add, Nat.add_zero, Nat.reduceAdd, List.cons_append, List.nil_append, List.eraseIdx_cons_zero, List.eraseIdx_cons_succ])
                refine WX ?_
                exact ⟨rfl, exJ rfl, fun h' HL => HL.sub (.cons_cons _ (.cons_cons _ (.cons_cons _ (.cons _ (.cons _ (.cons _ (.refl _)))))))⟩
            · refine WX ?_
              refine LX_two ?_ ?_
              · refine WX ?_
                refine LX_c0 (fun h' HL wf => Clip_ac D wD h'.frz (hD h' (loq_dr 6 rfl HL)).frz (by omega)) rfl rfl noG ?_
                try (dsimp only [st, setL, AV.cells, List.set_cons_zero, List.set_cons_succ, List.drop_zero, List.drop_succ_cons, List.take_zero, List.take_succ_cons, Nat.zero_add, Nat.add_zero, Nat.reduceAdd, List.cons_append, List.nil_append, List.eraseIdx_cons_zero, List.eraseIdx_cons_succ])
                refine WX ?_
                refine W ?_
                refine LX_two ?_ ?_
                · refine WX ?_
                  refine LX_l1e 5 noG rfl rfl rfl ?_
                  try (dsimp only [st, setL, AV.cells, List.set_cons_zero, List.set_cons_succ, List.drop_zero, List.drop_succ_cons, List.take_zero, List.take_succ_cons, Nat.zero_add, Nat.add_zero, Nat.reduceAdd, List.cons_append, List.nil_append, List.eraseIdx_cons_zero, List.eraseIdx_cons_succ])
                  refine WX ?_
                  refine W ?_
                  refine LX_lt [i] rfl rfl (by decide) rfl rfl rfl rfl enI1 rfl rfl noG fun w5 hw5 sw5 => ?_
                  try (dsimp only [st, setL, AV.cells, List.set_cons_zero, List.set_cons_succ, List.drop_zero, List.drop_succ_cons, List.take_zero, List.take_succ_cons, Nat.zero_add, Nat.add_zero, Nat.reduceAdd, List.cons_append, List.nil_append, List.eraseIdx_cons_zero, List.eraseIdx_cons_succ])
                  refine WX ?_
                  refine W ?_
                  refine LX_fK noG (LO_apc hcl (fun h' HL => clipA_rd (hD h' (loq_dr 7 rfl HL))) (fun h' HL => HL.rdI 0 rfl enI1 (by decide)) enI1 (by decide) (by simp) (by simp; omega) (by simp; omega) rfl rfl rfl fun w6 hw6 sw6 => ⟨by simp, ?_⟩)
                  try (dsimp only [st, setL, AV.cells, List.set_cons_zero, List.set_cons_succ, List.drop_zero, List.drop_succ_cons, List.take_zero, List.take_succ_cons, Nat.zero_add, Nat.add_zero, Nat.reduceAdd, List.cons_append, List.nil_append, List.eraseIdx_cons_zero, List.eraseIdx_cons_succ])
                  refine WX ?_
                  refine W ?_
                  refine LX_rot 5 rfl ?_
                  try (dsimp only [st, setL, AV.cells, List.set_cons_zero, List.set_cons_succ, List.drop_zero, List.drop_succ_cons, List.take_zero, List.take_succ_cons, Nat.zero_add, Nat.add_zero, Nat.reduceAdd, List.cons_append, List.nil_append, List.eraseIdx_cons_zero, List.eraseIdx_cons_succ])
                  refine WX ?_
                  refine W ?_
                  refine LX_rot 5 rfl ?_
                  try (dsimp only [st, setL, AV.cells, List.set_cons_zero, List.set_cons_succ, List.drop_zero, List.drop_succ_cons, List.take_zero, List.take_succ_cons, Nat.zero_add, Nat.add_zero, Nat.reduceAdd, List.cons_append, List.nil_append, List.eraseIdx_cons_zero, List.eraseIdx_cons_succ])
                  refine WX ?_
                  refine W ?_
                  refine LX_rot 5 rfl ?_
                  try (dsimp only [st, setL, AV.cells, List.set_cons_zero, List.set_cons_succ, List.drop_zero, List.drop_succ_cons, List.take_zero, List.take_succ_cons, Nat.zero_add, Nat.add_zero, Nat.reduceAdd, List.cons_append, List.nil_append, List.eraseIdx_cons_zero, List.eraseIdx_cons_succ])
                  refine WX ?_
                  refine W ?_
                  refine LX_fK noG (LO_cm (.refl _) (fun h' HL wf => ih (D ++ [i]) w6 h0 h' _ (c + m0) hp HL (fun h2 HL2 => HL2.rdI 0 rfl enI1 (by decide)) (by simp; omega) hD2 (by omega) (by omega)) rfl rfl ?_)
                  try (dsimp only [st, setL, AV.cells, List.set_cons_zero, List.set_cons_succ, List.drop_zero, List.drop_succ_cons, List.take_zero, List.take_succ_cons, Nat.zero_add, Nat.add_zero, Nat.reduceAdd, List.cons_append, List.nil_append, List.eraseIdx_cons_zero, List.eraseIdx_cons_succ])
                  refine WX ?_
                  refine W ?_
                  rintro _ _ ⟨rfl, rfl⟩
                  refine ⟨by simp, ?_⟩
                  try (dsimp only [st, setL, AV.cells, List.set_cons_zero, List.set_cons_succ, List.drop_zero, List.drop_succ_cons, List.take_zero, List.take_succ_cons, Nat.zero_add, Nat.add_zero, Nat.reduceAdd, List.cons_append, List.nil_append, List.eraseIdx_cons_zero, List.eraseIdx_cons_succ])
                  refine WX ?_
                  exact ⟨rfl, exJ rfl, fun h' HL => HL.sub (.cons_cons _ (.cons_cons _ (.cons_cons _ (.cons _ (.cons _ (.cons _ (.refl _)))))))⟩
                · refine WX ?_
                  refine LX_lt [i] rfl rfl (by decide) rfl rfl rfl rfl enI1 rfl rfl noG fun w5 hw5 sw5 => ?_
                  try (dsimp only [st, setL, AV.cells, List.set_cons_zero, List.set_cons_succ, List.drop_zero, List.drop_succ_cons, List.take_zero, List.take_succ_cons, Nat.zero_add, Nat.add_zero, Nat.reduceAdd, List.cons_append, List.nil_append, List.eraseIdx_cons_zero, List.eraseIdx_cons_succ])
                  refine WX ?_
                  refine W ?_
                  refine LX_two ?_ ?_
                  · refine WX ?_
                    refine LX_l1e 6 noG rfl rfl rfl ?_
                    try (dsimp only [st, setL, AV.cells, List.set_cons_zero, List.set_cons_succ, List.drop_zero, List.drop_succ_cons, List.take_zero, List.take_succ_cons, Nat.zero_add, Nat.add_zero, Nat.reduceAdd, List.cons_append, List.nil_append, List.eraseIdx_cons_zero, List.eraseIdx_cons_succ])
                    refine WX ?_
                    refine W ?_
                    refine LX_fK noG (LO_apc hcl (fun h' HL => clipA_rd (hD h' (loq_dr 7 rfl HL))) (fun h' HL => HL.rdI 0 rfl enI1 (by decide)) enI1 (by decide) (by simp) (by simp; omega) (by simp; omega) rfl rfl rfl fun w6 hw6 sw6 => ⟨by simp, ?_⟩)
                    try (dsimp only [st, setL, AV.cells, List.set_cons_zero, List.set_cons_succ, List.drop_zero, List.drop_succ_cons, List.take_zero, List.take_succ_cons, Nat.zero_add, Nat.add_zero, Nat.reduceAdd, List.cons_append, List.nil_append, List.eraseIdx_cons_zero, List.eraseIdx_cons_succ])
                    refine WX ?_
                    refine W ?_
                    refine LX_rot 5 rfl ?_
                    try (dsimp only [st, setL, AV.cells, List.set_cons_zero, List.set_cons_succ, List.drop_zero, List.drop_succ_cons, List.take_zero, List.take_succ_cons, Nat.zero_add, Nat.add_zero, Nat.reduceAdd, List.cons_append, List.nil_append, List.eraseIdx_cons_zero, List.eraseIdx_cons_succ])
                    refine WX ?_
                    refine W ?_
                    refine LX_rot 5 rfl ?_
                    try (dsimp only [st, setL, AV.cells, List.set_cons_zero, List.set_cons_succ, List.drop_zero, List.drop_succ_cons, List.take_zero, List.take_succ_cons, Nat.zero_add, Nat.add_zero, Nat.reduceAdd, List.cons_append, List.nil_append, List.eraseIdx_cons_zero, List.eraseIdx_cons_succ])
                    refine WX ?_
                    refine W ?_
                    refine LX_rot 5 rfl ?_
                    try (dsimp only [st, setL, AV.cells, List.set_cons_zero, List.set_cons_succ, List.drop_zero, List.drop_succ_cons, List.take_zero, List.take_succ_cons, Nat.zero_add, Nat.add_zero, Nat.reduceAdd, List.cons_append, List.nil_append, List.eraseIdx_cons_zero, List.eraseIdx_cons_succ])
                    refine WX ?_
                    refine W ?_
                    refine LX_fK noG (LO_cm (.refl _) (fun h' HL wf => ih (D ++ [i]) w6 h0 h' _ (c + m0) hp HL (fun h2 HL2 => HL2.rdI 0 rfl enI1 (by decide)) (by simp; omega) hD2 (by omega) (by omega)) rfl rfl ?_)
                    try (dsimp only [st, setL, AV.cells, List.set_cons_zero, List.set_cons_succ, List.drop_zero, List.drop_succ_cons, List.take_zero, List.take_succ_cons, Nat.zero_add, Nat.add_zero, Nat.reduceAdd, List.cons_append, List.nil_append, List.eraseIdx_cons_zero, List.eraseIdx_cons_succ])
                    refine WX ?_
                    refine W ?_
                    rintro _ _ ⟨rfl, rfl⟩
                    refine ⟨by simp, ?_⟩
                    try (dsimp only [st, setL, AV.cells, List.set_cons_zero, List.set_cons_succ, List.drop_zero, List.drop_succ_cons, List.take_zero, List.take_succ_cons, Nat.zero_add, Nat.add_zero, Nat.reduceAdd, List.cons_append, List.nil_append, List.eraseIdx_cons_zero, List.eraseIdx_cons_succ])
                    refine WX ?_
                    exact ⟨rfl, exJ rfl, fun h' HL => HL.sub (.cons_cons _ (.cons_cons _ (.cons_cons _ (.cons _ (.cons _ (.cons _ (.refl _)))))))⟩
                  · refine WX ?_
                    refine LX_fK noG (LO_apc hcl (fun h' HL => clipA_rd (hD h' (loq_dr 7 rfl HL))) (fun h' HL => HL.rdI 0 rfl enI1 (by decide)) enI1 (by decide) (by simp) (by simp; omega) (by simp; omega) rfl rfl rfl fun w6 hw6 sw6 => ⟨by simp, ?_⟩)
                    try (dsimp only [st, setL, AV.cells, List.set_cons_zero, List.set_cons_succ, List.drop_zero, List.drop_succ_cons, List.take_zero, List.take_succ_cons, Nat.zero_add, Nat.add_zero, Nat.reduceAdd, List.cons_append, List.nil_append, List.eraseIdx_cons_zero, List.eraseIdx_cons_succ])
                    refine WX ?_
                    refine W ?_
                    refine LX_l1e 7 noG rfl rfl rfl ?_
                    try (dsimp only [st, setL, AV.cells, List.set_cons_zero, List.set_cons_succ, List.drop_zero, List.drop_succ_cons, List.take_zero, List.take_succ_cons, Nat.zero_add, Nat.add_zero, Nat.reduceAdd, List.cons_append, List.nil_append, List.eraseIdx_cons_zero, List.eraseIdx_cons_succ])
                    refine WX ?_
                    refine W ?_
                    refine LX_rot 5 rfl ?_
                    try (dsimp only [st, setL, AV.cells, List.set_cons_zero, List.set_cons_succ, List.drop_zero, List.drop_succ_cons, List.take_zero, List.take_succ_cons, Nat.zero_add, Nat.add_zero, Nat.reduceAdd, List.cons_append, List.nil_append, List.eraseIdx_cons_zero, List.eraseIdx_cons_succ])
                    refine WX ?_
                    refine W ?_
                    refine LX_rot 5 rfl ?_
                    try (dsimp only [st, setL, AV.cells, List.set_cons_zero, List.set_cons_succ, List.drop_zero, List.drop_succ_cons, List.take_zero, List.take_succ_cons, Nat.zero_add, Nat.add_zero, Nat.reduceAdd, List.cons_append, List.nil_append, List.eraseIdx_cons_zero, List.eraseIdx_cons_succ])
                    refine WX ?_
                    refine W ?_
                    refine LX_rot 5 rfl ?_
                    try (dsimp only [st, setL, AV.cells, List.set_cons_zero, List.set_cons_succ, List.drop_zero, List.drop_succ_cons, List.take_zero, List.take_succ_cons, Nat.zero_add, Nat.add_zero, Nat.reduceAdd, List.cons_append, List.nil_append, List.eraseIdx_cons_zero, List.eraseIdx_cons_succ])
                    refine WX ?_
                    refine W ?_
                    refine LX_fK noG (LO_cm (.refl _) (fun h' HL wf => ih (D ++ [i]) w6 h0 h' _ (c + m0) hp HL (fun h2 HL2 => HL2.rdI 0 rfl enI1 (by decide)) (by simp; omega) hD2 (by omega) (by omega)) rfl rfl ?_)
                    try (dsimp only [st, setL, AV.cells, List.set_cons_zero, List.set_cons_succ, List.drop_zero, List.drop_succ_cons, List.take_zero, List.take_succ_cons, Nat.zero_add, Nat.add_zero, Nat.reduceAdd, List.cons_append, List.nil_append, List.eraseIdx_cons_zero, List.eraseIdx_cons_succ])
                    refine WX ?_
                    refine W ?_
                    rintro _ _ ⟨rfl, rfl⟩
                    refine ⟨by simp, ?_⟩
                    try (dsimp only [st, setL, AV.cells, List.set_cons_zero, List.set_cons_succ, List.drop_zero, List.drop_succ_cons, List.take_zero, List.take_succ_cons, Nat.zero_add, Nat.add_zero, Nat.reduceAdd, List.cons_append, List.nil_append, List.eraseIdx_cons_zero, List.eraseIdx_cons_succ])
                    refine WX ?_
                    exact ⟨rfl, exJ rfl, fun h' HL => HL.sub (.cons_cons _ (.cons_cons _ (.cons_cons _ (.cons _ (.cons _ (.cons _ (.refl _)))))))⟩
              · refine WX ?_
                refine LX_lt [i] rfl rfl (by decide) rfl rfl rfl rfl enI1 rfl rfl noG fun w5 hw5 sw5 => ?_
                try (dsimp only [st, setL, AV.cells, List.set_cons_zero, List.set_cons_succ, List.drop_zero, List.drop_succ_cons, List.take_zero, List.take_succ_cons, Nat.zero_add, Nat.add_zero, Nat.reduceAdd, List.cons_append, List.nil_append, List.eraseIdx_cons_zero, List.eraseIdx_cons_succ])
                refine WX ?_
                refine W ?_
                refine LX_two ?_ ?_
                · refine WX ?_
                  refine LX_l1e 6 noG rfl rfl rfl ?_
                  try (dsimp only [st, setL, AV.cells, List.set_cons_zero, List.set_cons_succ, List.drop_zero, List.drop_succ_cons, List.take_zero, List.take_succ_cons, Nat.zero_add, Nat.add_zero, Nat.reduceAdd, List.cons_append, List.nil_append, List.eraseIdx_cons_zero, List.eraseIdx_cons_succ])
                  refine WX ?_
                  refine W ?_
                  refine LX_c0 (fun h' HL wf => Clip_ac D wD h'.frz (hD h' (loq_dr 7 rfl HL)).frz (by omega)) rfl rfl noG ?_
                  try (dsimp only [st, setL, AV.cells, List.set_cons_zero, List.set_cons_succ, List.drop_zero, List.drop_succ_cons, List.take_zero, List.take_succ_cons, Nat.zero_add, Nat.add_zero, Nat.reduceAdd, List.cons_append, List.nil_append, List.eraseIdx_cons_zero, List.eraseIdx_cons_succ])
                  refine WX ?_
                  refine W ?_
                  refine LX_fK noG (LO_apc hcl (fun h' HL => clipA_rd (hD h' (loq_dr 7 rfl HL))) (fun h' HL => HL.rdI 0 rfl enI1 (by decide)) enI1 (by decide) (by simp) (by simp; omega) (by simp; omega) rfl rfl rfl fun w6 hw6 sw6 => ⟨by simp, ?_⟩)
                  try (dsimp only [st, setL, AV.cells, List.set_cons_zero, List.set_cons_succ, List.drop_zero, List.drop_succ_cons, List.take_zero, List.take_succ_cons, Nat.zero_add, Nat.add_zero, Nat.reduceAdd, List.cons_append, List.nil_append, List.eraseIdx_cons_zero, List.eraseIdx_cons_succ])
                  refine WX ?_
                  refine W ?_
                  refine LX_rot 5 rfl ?_
                  try (dsimp only [st, setL, AV.cells, List.set_cons_zero, List.set_cons_succ, List.drop_zero, List.drop_succ_cons, List.take_zero, List.take_succ_cons, Nat.zero_add, Nat.add_zero, Nat.reduceAdd, List.cons_append, List.nil_append, List.eraseIdx_cons_zero, List.eraseIdx_cons_succ])
                  refine WX ?_
                  refine W ?_
                  refine LX_rot 5 rfl ?_
                  try (dsimp only [st, setL, AV.cells, List.set_cons_zero, List.set_cons_succ, List.drop_zero, List.drop_succ_cons, List.take_zero, List.take_succ_cons, Nat.zero_add, Nat.add_zero, Nat.reduceAdd, List.cons_append, List.nil_append, List.eraseIdx_cons_zero, List.eraseIdx_cons_succ])
                  refine WX ?_
                  refine W ?_
                  refine LX_rot 5 rfl ?_
                  try (dsimp only [st, setL, AV.cells, List.set_cons_zero, List.set_cons_succ, List.drop_zero, List.drop_succ_cons, List.take_zero, List.take_succ_cons, Nat.zero_add, Nat.add_zero, Nat.reduceAdd, List.cons_append, List.nil_append, List.eraseIdx_cons_zero, List.eraseIdx_cons_succ])
                  refine WX ?_
                  refine W ?_
                  refine LX_fK noG (LO_cm (.refl _) (fun h' HL wf => ih (D ++ [i]) w6 h0 h' _ (c + m0) hp HL (fun h2 HL2 => HL2.rdI 0 rfl enI1 (by decide)) (by simp; omega) hD2 (by omega) (by omega)) rfl rfl ?_)
                  try (dsimp only [st, setL, AV.cells, List.set_cons_zero, List.set_cons_succ, List.drop_zero, List.drop_succ_cons, List.take_zero, List.take_succ_cons, Nat.zero_add, Nat.add_zero, Nat.reduceAdd, List.cons_append, List.nil_append, List.eraseIdx_cons_zero, List.eraseIdx_cons_succ])
                  refine WX ?_
                  refine W ?_
                  rintro _ _ ⟨rfl, rfl⟩
                  refine ⟨by simp, ?_⟩
                  try (dsimp only [st, setL, AV.cells, List.set_cons_zero, List.set_cons_succ, List.drop_zero, List.drop_succ_cons, List.take_zero, List.take_succ_cons, Nat.zero_add, Nat.add_zero, Nat.reduceAdd, List.cons_append, List.nil_append, List.eraseIdx_cons_zero, List.eraseIdx_cons_succ])
                  refine WX ?_
                  exact ⟨rfl, exJ rfl, fun h' HL => HL.sub (.cons_cons _ (.cons_cons _ (.cons_cons _ (.cons _ (.cons _ (.cons _ (.refl _)))))))⟩
                · refine WX ?_
                  refine LX_c0 (fun h' HL wf => Clip_ac D wD h'.frz (hD h' (loq_dr 7 rfl HL)).frz (by omega)) rfl rfl noG ?_
                  try (dsimp only [st, setL, AV.cells, List.set_cons_zero, List.set_cons_succ, List.drop_zero, List.drop_succ_cons, List.take_zero, List.take_succ_cons, Nat.zero_add, Nat.add_zero, Nat.reduceAdd, List.cons_append, List.nil_append, List.eraseIdx_cons_zero, List.eraseIdx_cons_succ])
                  refine WX ?_
                  refine W ?_
                  refine LX_two ?_ ?_
                  · refine WX ?_
                    refine LX_l1e 6 noG rfl rfl rfl ?_
                    try (dsimp only [st, setL, AV.cells, List.set_cons_zero, List.set_cons_succ, List.drop_zero, List.drop_succ_cons, List.take_zero, List.take_succ_cons, Nat.zero_add, Nat.add_zero, Nat.reduceAdd, List.cons_append, List.nil_append, List.eraseIdx_cons_zero, List.eraseIdx_cons_succ])
                    refine WX ?_
                    refine W ?_
                    refine LX_fK noG (LO_apc hcl (fun h' HL => clipA_rd (hD h' (loq_dr 7 rfl HL))) (fun h' HL => HL.rdI 0 rfl enI1 (by decide)) enI1 (by decide) (by simp) (by simp; omega) (by simp; omega) rfl rfl rfl fun w6 hw6 sw6 => ⟨by simp, ?_⟩)
                    try (dsimp only [st, setL, AV.cells, List.set_cons_zero, List.set_cons_succ, List.drop_zero, List.drop_succ_cons, List.take_zero, List.take_succ_cons, Nat.zero_add, Nat.add_zero, Nat.reduceAdd, List.cons_append, List.nil_append, List.eraseIdx_cons_zero, List.eraseIdx_cons_succ])
                    refine WX ?_
                    refine W ?_
                    refine LX_rot 5 rfl ?_
                    try (dsimp only [st, setL, AV.cells, List.set_cons_zero, List.set_cons_succ, List.drop_zero, List.drop_succ_cons, List.take_zero, List.take_succ_cons, Nat.zero_add, Nat.add_zero, Nat.reduceAdd, List.cons_append, List.nil_append, List.eraseIdx_cons_zero, List.eraseIdx_cons_succ])
                    refine WX ?_
                    refine W ?_
                    refine LX_rot 5 rfl ?_
                    try (dsimp only [st, setL, AV.cells, List.set_cons_zero, List.set_cons_succ, List.drop_zero, List.drop_succ_cons, List.take_zero, List.take_succ_cons, Nat.zero_add, Nat.add_zero, Nat.reduceAdd, List.cons_append, List.nil_append, List.eraseIdx_cons_zero, List.eraseIdx_cons_succ])
                    refine WX ?_
                    refine W ?_
                    refine LX_rot 5 rfl ?_
                    try (dsimp only [st, setL, AV.cells, List.set_cons_zero, List.set_cons_succ, List.drop_zero, List.drop_succ_cons, List.take_zero, List.take_succ_cons, Nat.zero_add, Nat.add_zero, Nat.reduceAdd, List.cons_append, List.nil_append, List.eraseIdx_cons_zero, List.eraseIdx_cons_succ])
                    refine WX ?_
                    refine W ?_
                    refine LX_fK noG (LO_cm (.refl _) (fun h' HL wf => ih (D ++ [i]) w6 h0 h' _ (c + m0) hp HL (fun h2 HL2 => HL2.rdI 0 rfl enI1 (by decide)) (by simp; omega) hD2 (by omega) (by omega)) rfl rfl ?_)
                    try (dsimp only [st, setL, AV.cells, List.set_cons_zero, List.set_cons_succ, List.drop_zero, List.drop_succ_cons, List.take_zero, List.take_succ_cons, Nat.zero_add, Nat.add_zero, Nat.reduceAdd, List.cons_append, List.nil_append, List.eraseIdx_cons_zero, List.eraseIdx_cons_succ])
                    refine WX ?_
                    refine W ?_
                    rintro _ _ ⟨rfl, rfl⟩
                    refine ⟨by simp, ?_⟩
                    try (dsimp only [st, setL, AV.cells, List.set_cons_zero, List.set_cons_succ, List.drop_zero, List.drop_succ_cons, List.take_zero, List.take_succ_cons, Nat.zero_add, Nat.add_zero, Nat.reduceAdd, List.cons_append, List.nil_append, List.eraseIdx_cons_zero, List.eraseIdx_cons_succ])
                    refine WX ?_
                    exact ⟨rfl, exJ rfl, fun h' HL => HL.sub (.cons_cons _ (.cons_cons _ (.cons_cons _ (.cons _ (.cons _ (.cons _ (.refl _)))))))⟩
                  · refine WX ?_
                    refine LX_fK noG (LO_apc hcl (fun h' HL => clipA_rd (hD h' (loq_dr 7 rfl HL))) (fun h' HL => HL.rdI 0 rfl enI1 (by decide)) enI1 (by decide) (by simp) (by simp; omega) (by simp; omega) rfl rfl rfl fun w6 hw6 sw6 => ⟨by simp, ?_⟩)
                    try (dsimp only [st, setL, AV.cells, List.set_cons_zero, List.set_cons_succ, List.drop_zero, List.drop_succ_cons, List.take_zero, List.take_succ_cons, Nat.zero_add, Nat.add_zero, Nat.reduceAdd, List.cons_append, List.nil_append, List.eraseIdx_cons_zero, List.eraseIdx_cons_succ])
                    refine WX ?_
                    refine W ?_
                    refine LX_l1e 7 noG rfl rfl rfl ?_
                    try (dsimp only [st, setL, AV.cells, List.set_cons_zero, List.set_cons_succ, List.drop_zero, List.drop_succ_cons, List.take_zero, List.take_succ_cons, Nat.zero_add, Nat.add_zero, Nat.reduceAdd, List.cons_append, List.nil_append, List.eraseIdx_cons_zero, List.eraseIdx_cons_succ])
                    refine WX ?_
                    refine W ?_
                    refine LX_rot 5 rfl ?_
                    try (dsimp only [st, setL, AV.cells, List.set_cons_zero, List.set_cons_succ, List.drop_zero, List.drop_succ_cons, List.take_zero, List.take_succ_cons, Nat.zero_add, Nat.add_zero, Nat.reduceAdd, List.cons_append, List.nil_append, List.eraseIdx_cons_zero, List.eraseIdx_cons_succ])
                    refine WX ?_
                    refine W ?_
                    refine LX_rot 5 rfl ?_
                    try (dsimp only [st, setL, AV.cells, List.set_cons_zero, List.set_cons_succ, List.drop_zero, List.drop_succ_cons, List.take_zero, List.take_succ_cons, Nat.zero_add, Nat.add_zero, Nat.reduceAdd, List.cons_append, List.nil_append, List.eraseIdx_cons_zero, List.eraseIdx_cons_succ])
                    refine WX ?_
                    refine W ?_
                    refine LX_rot 5 rfl ?_
                    try (dsimp only [st, setL, AV.cells, List.set_cons_zero, List.set_cons_succ, List.drop_zero, List.drop_succ_cons, List.take_zero, List.take_succ_cons, Nat.zero_add, Nat.add_zero, Nat.reduceAdd, List.cons_append, List.nil_append, List.eraseIdx_cons_zero, List.eraseIdx_cons_succ])
                    refine WX ?_
                    refine W ?_
                    refine LX_fK noG (LO_cm (.refl _) (fun h' HL wf => ih (D ++ [i]) w6 h0 h' _ (c + m0) hp HL (fun h2 HL2 => HL2.rdI 0 rfl enI1 (by decide)) (by simp; omega) hD2 (by omega) (by omega)) rfl rfl ?_)
                    try (dsimp only [st, setL, AV.cells, List.set_cons_zero, List.set_cons_succ, List.drop_zero, List.drop_succ_cons, List.take_zero, List.take_succ_cons, Nat.zero_add, Nat.add_zero, Nat.reduceAdd, List.cons_append, List.nil_append, List.eraseIdx_cons_zero, List.eraseIdx_cons_succ])
                    refine WX ?_
                    refine W ?_
                    rintro _ _ ⟨rfl, rfl⟩
                    refine ⟨by simp, ?_⟩
                    try (dsimp only [st, setL, AV.cells, List.set_cons_zero, List.set_cons_succ, List.drop_zero, List.drop_succ_cons, List.take_zero, List.take_succ_cons, Nat.zero_add, Nat.add_zero, Nat.reduceAdd, List.cons_append, List.nil_append, List.eraseIdx_cons_zero, List.eraseIdx_cons_succ])
                    refine WX ?_
                    exact ⟨rfl, exJ rfl, fun h' HL => HL.sub (.cons_cons _ (.cons_cons _ (.cons_cons _ (.cons _ (.cons _ (.cons _ (.refl _)))))))⟩
          · rintro _ L ⟨⟨r, rfl⟩, hL⟩
            refine W ?_
            refine LIL_conv hL ?_
            refine IH (n - 1) _ _ (by omega) ⟨i + 1, m0 + cntO p k (D ++ [i]), exJ rfl, by rw [show c + ((m0 + cntO p k (D ++ [i]) : Nat) : Int) = c + m0 + cntO p k (D ++ [i]) by omega], by omega, by omega, by rw [toNat_succ hi0]; omega⟩
        · rw [if_neg (by rw [hc]; simp), Nat.zero_add] at heq
          refine LIL_drop 1 ?_
          refine IH (n - 1) _ _ (by omega) ⟨i + 1, _, exJ rfl, rfl, by omega, by omega, by rw [toNat_succ hi0]; exact heq⟩
    · rw [List.drop_eq_nil_of_le (by omega), sumO] at heq
      refine LRet_n fun h' HL => ⟨[], rfl, ?_⟩
      exact ⟨_, ⟨rfl, by rw [show cntO p (k + 1) D = m0 by omega]⟩, HL.sub (.cons_cons _ (.cons_cons _ (.cons_cons _ (.cons _ (.cons _ (.refl _))))))⟩

/-! ### Counting orders -/
theorem within_ac (p : PlanM) (hk : planOk p = true) (hm : p.steps.length ≤ 8) (b : Nat) (vs vo : AV) (h : AH) (hp : PlP h b p vs vo) :
    AC Try.prog 91 [.p b 0, .i .i64 46] h (fun r h' => r = .i .i64 (cntO p p.steps.length [] : Nat) ∧ h.le h') := by
  have hbd := cntO_bd hm hm ([] : List Int)
  refine e91 _ _ fun wf => ?_
  unfold c91
  refine LI_start wf ?_
  refine W ?_
  refine LS_bx1 rfl rfl fun b2 => ?_
  try (dsimp only [st, setL, AV.cells, List.set_cons_zero, List.set_cons_succ, List.drop_zero, List.drop_succ_cons, List.take_zero, List.take_succ_cons, Nat.zero_add, Nat.add_zero, Nat.reduceAdd, List.cons_append, List.nil_append, List.eraseIdx_cons_zero, List.eraseIdx_cons_succ])
  refine W ?_
  refine LS_bx1 rfl rfl fun b3 => ?_
  try (dsimp only [st, setL, AV.cells, List.set_cons_zero, List.set_cons_succ, List.drop_zero, List.drop_succ_cons, List.take_zero, List.take_succ_cons, Nat.zero_add, Nat.add_zero, Nat.reduceAdd, List.cons_append, List.nil_append, List.eraseIdx_cons_zero, List.eraseIdx_cons_succ])
  refine W ?_
  refine LS_al rfl fun bc => ?_
  try (dsimp only [st, setL, AV.cells, List.set_cons_zero, List.set_cons_succ, List.drop_zero, List.drop_succ_cons, List.take_zero, List.take_succ_cons, Nat.zero_add, Nat.add_zero, Nat.reduceAdd, List.cons_append, List.nil_append, List.eraseIdx_cons_zero, List.eraseIdx_cons_succ])
  refine W ?_
  refine LS_rot 2 rfl (LS_rot 1 rfl ?_)
  refine LS_cm (.refl _) (fun h' HL wf => orders_ac p hk hm b b2 b3 bc vs vo p.steps.length [] .ns h h' [] 0 hp HL (fun h2 _ => ⟨rfl, .inl rfl⟩) (by simp) (by simp) (by omega) (by omega)) rfl rfl ?_
  try (dsimp only [st, setL, AV.cells, List.set_cons_zero, List.set_cons_succ, List.drop_zero, List.drop_succ_cons, List.take_zero, List.take_succ_cons, Nat.zero_add, Nat.add_zero, Nat.reduceAdd, List.cons_append, List.nil_append, List.eraseIdx_cons_zero, List.eraseIdx_cons_succ])
  refine W ?_
  rintro _ _ ⟨rfl, rfl⟩
  try (dsimp only [st, setL, AV.cells, List.set_cons_zero, List.set_cons_succ, List.drop_zero, List.drop_succ_cons, List.take_zero, List.take_succ_cons, Nat.zero_add, Nat.add_zero, Nat.reduceAdd, List.cons_append, List.nil_append, List.eraseIdx_cons_zero, List.eraseIdx_cons_succ])
  refine W ?_
  refine RET fun h' HL => ?_
  try dsimp only [oneA]
  exact ⟨by rw [Int.zero_add], HL.le⟩

def cOk (p : PlanM) : Bool := planOk p && decide ((p.steps.length : Int) ≤ 8)

def cR (p : PlanM) : Int := if cOk p = true then (cntO p p.steps.length [] : Nat) else 0

theorem reFew_ac (p : PlanM) (v : AV) (h : AH) (hR : PlR h v p) (hw : PSm p) : AC Try.prog 88 [v] h (fun r h' => r = .b (cOk p) ∧ h.le h') := by
  have hR0 := hR
  obtain ⟨vs, vo, rfl, hs, ho⟩ := hR
  have hsl := hs.len
  refine e88 _ fun wf => ?_
  unfold c88
  refine LI_start wf ?_
  refine W ?_
  refine LS_bxn rfl (sc_cons rfl (sc_cons (rd_sc hs) (sc_cons (rd_sc ho) rfl))) fun b1 => ?_
  try (dsimp only [st, setL, AV.cells, List.set_cons_zero, List.set_cons_succ, List.drop_zero, List.drop_succ_cons, List.take_zero, List.take_succ_cons, Nat.zero_add, Nat.add_zero, Nat.reduceAdd, List.cons_append, List.nil_append, List.eraseIdx_cons_zero, List.eraseIdx_cons_succ])
  refine W ?_
  refine LS_c0 (fun h' HL wf => good_ac p _ h' (hR0.le HL.le) hw) rfl rfl ?_
  try (dsimp only [st, setL, AV.cells, List.set_cons_zero, List.set_cons_succ, List.drop_zero, List.drop_succ_cons, List.take_zero, List.take_succ_cons, Nat.zero_add, Nat.add_zero, Nat.reduceAdd, List.cons_append, List.nil_append, List.eraseIdx_cons_zero, List.eraseIdx_cons_succ])
  refine W ?_
  (first | refine LS_gt rfl ?_ ?_ | refine LS_gf rfl ?_ ?_ | refine LI_cond rfl ?_ ?_) <;> intro hc <;> have hc' := hc <;> try simp only [decide_eq_true_eq, decide_eq_false_iff_not, Bool.not_eq_true', Bool.not_eq_false', Bool.not_eq_true, Bool.not_eq_false, beq_iff_eq, bne_iff_ne, beq_eq_false_iff_ne, bne_eq_false_iff_eq, Int.not_lt, Int.not_le, ge_iff_le, gt_iff_lt, not_and, ne_eq, Decidable.not_not] at hc'
  all_goals (try (dsimp only [st, setL, AV.cells, List.set_cons_zero, List.set_cons_succ, List.drop_zero, List.drop_succ_cons, List.take_zero, List.take_succ_cons, Nat.zero_add, Nat.add_zero, Nat.reduceAdd, List.cons_append, List.nil_append, List.eraseIdx_cons_zero, List.eraseIdx_cons_succ]))
  all_goals (refine W ?_)
  · refine RET fun h' HL => ?_
    try dsimp only [oneA]
    exact ⟨by rw [cOk, hc, Bool.true_and], HL.le⟩
  · refine RET fun h' HL => ?_
    try dsimp only [oneA]
    exact ⟨by rw [cOk, hc, Bool.false_and], HL.le⟩

theorem orderable_ac (p : PlanM) (v : AV) (h : AH) (hR : PlR h v p) (hw : PSm p) : AC Try.prog 90 [v] h (fun r h' => r = .b (cOk p) ∧ h.le h') := by
  have hR0 := hR
  obtain ⟨vs, vo, rfl, hs, ho⟩ := hR
  have hsl := hs.len
  refine e90 _ fun wf => ?_
  unfold c90
  refine LI_start wf ?_
  refine W ?_
  refine LS_bxn rfl (sc_cons rfl (sc_cons (rd_sc hs) (sc_cons (rd_sc ho) rfl))) fun b1 => ?_
  try (dsimp only [st, setL, AV.cells, List.set_cons_zero, List.set_cons_succ, List.drop_zero, List.drop_succ_cons, List.take_zero, List.take_succ_cons, Nat.zero_add, Nat.add_zero, Nat.reduceAdd, List.cons_append, List.nil_append, List.eraseIdx_cons_zero, List.eraseIdx_cons_succ])
  refine W ?_
  refine LS_c0 (fun h' HL wf => isPlan_ac p _ h' (hR0.le HL.le) hw) rfl rfl ?_
  try (dsimp only [st, setL, AV.cells, List.set_cons_zero, List.set_cons_succ, List.drop_zero, List.drop_succ_cons, List.take_zero, List.take_succ_cons, Nat.zero_add, Nat.add_zero, Nat.reduceAdd, List.cons_append, List.nil_append, List.eraseIdx_cons_zero, List.eraseIdx_cons_succ])
  refine W ?_
  (first | refine LS_gt rfl ?_ ?_ | refine LS_gf rfl ?_ ?_ | refine LI_cond rfl ?_ ?_) <;> intro hc <;> have hc' := hc <;> try simp only [decide_eq_true_eq, decide_eq_false_iff_not, Bool.not_eq_true', Bool.not_eq_false', Bool.not_eq_true, Bool.not_eq_false, beq_iff_eq, bne_iff_ne, beq_eq_false_iff_ne, bne_eq_false_iff_eq, Int.not_lt, Int.not_le, ge_iff_le, gt_iff_lt, not_and, ne_eq, Decidable.not_not] at hc'
  all_goals (try (dsimp only [st, setL, AV.cells, List.set_cons_zero, List.set_cons_succ, List.drop_zero, List.drop_succ_cons, List.take_zero, List.take_succ_cons, Nat.zero_add, Nat.add_zero, Nat.reduceAdd, List.cons_append, List.nil_append, List.eraseIdx_cons_zero, List.eraseIdx_cons_succ]))
  all_goals (refine W ?_)
  · refine RET fun h' HL => ?_
    try dsimp only [oneA]
    exact ⟨by rw [cOk, hc, Bool.true_and], HL.le⟩
  · refine RET fun h' HL => ?_
    try dsimp only [oneA]
    exact ⟨by rw [cOk, hc, Bool.false_and], HL.le⟩

theorem cOk_out {p : PlanM} (h : cOk p = true) : planOk p = true ∧ p.steps.length ≤ 8 := by
  simp only [cOk, Bool.and_eq_true, decide_eq_true_eq] at h
  exact ⟨h.1, by omega⟩

theorem specCount_ac (p : PlanM) (v : AV) (h : AH) (hR : PlR h v p) (hw : PSm p) : AC Try.prog 42 [v] h (fun r h' => r = .tup [.i .i64 (cR p), .b (cOk p)] ∧ h.le h') := by
  have hR0 := hR
  obtain ⟨vs, vo, rfl, hs, ho⟩ := hR
  refine e42 _ fun wf => ?_
  unfold c42
  refine LI_start wf ?_
  refine W ?_
  refine LS_bxn rfl (sc_cons rfl (sc_cons (rd_sc hs) (sc_cons (rd_sc ho) rfl))) fun b1 => ?_
  try (dsimp only [st, setL, AV.cells, List.set_cons_zero, List.set_cons_succ, List.drop_zero, List.drop_succ_cons, List.take_zero, List.take_succ_cons, Nat.zero_add, Nat.add_zero, Nat.reduceAdd, List.cons_append, List.nil_append, List.eraseIdx_cons_zero, List.eraseIdx_cons_succ])
  refine W ?_
  refine LS_c0 (fun h' HL wf => reFew_ac p _ h' (hR0.le HL.le) hw) rfl rfl ?_
  try (dsimp only [st, setL, AV.cells, List.set_cons_zero, List.set_cons_succ, List.drop_zero, List.drop_succ_cons, List.take_zero, List.take_succ_cons, Nat.zero_add, Nat.add_zero, Nat.reduceAdd, List.cons_append, List.nil_append, List.eraseIdx_cons_zero, List.eraseIdx_cons_succ])
  refine W ?_
  cases hx : cOk p
  · first | (refine LS_gyH rfl (rfl) ?_; intro hg) | (refine LI_cond_tH rfl (rfl) ?_; intro hg)
    refine W ?_
    refine RET fun h' HL => ?_
    try dsimp only [oneA]
    exact ⟨by rw [cR, hx, if_neg (by simp)], HL.le⟩
  · obtain ⟨hk, hm⟩ := cOk_out hx
    first | (refine LS_gtnH rfl (rfl) ?_; intro hg; try (dsimp only [st, setL, AV.cells, List.set_cons_zero, List.set_cons_succ, List.drop_zero, List.drop_succ_cons, List.take_zero, List.take_succ_cons, Nat.zero_add, Nat.add_zero, Nat.reduceAdd, List.cons_append, List.nil_append, List.eraseIdx_cons_zero, List.eraseIdx_cons_succ])) | (refine LS_gfnH rfl (rfl) ?_; intro hg; try (dsimp only [st, setL, AV.cells, List.set_cons_zero, List.set_cons_succ, List.drop_zero, List.drop_succ_cons, List.take_zero, List.take_succ_cons, Nat.zero_add, Nat.add_zero, Nat.reduceAdd, List.cons_append, List.nil_append, List.eraseIdx_cons_zero, List.eraseIdx_cons_succ])) | (refine LI_cond_fH rfl (rfl) ?_; intro hg)
    refine W ?_
    refine LS_c1 (fun h' HL wf => reOrders_ac p hk hm p.steps.length [] vs vo .ns h' ⟨vs, vo, rfl, hs.le HL.le, ho.le HL.le⟩ ⟨rfl, .inl rfl⟩ (by simp)) rfl rfl ?_
    try (dsimp only [st, setL, AV.cells, List.set_cons_zero, List.set_cons_succ, List.drop_zero, List.drop_succ_cons, List.take_zero, List.take_succ_cons, Nat.zero_add, Nat.add_zero, Nat.reduceAdd, List.cons_append, List.nil_append, List.eraseIdx_cons_zero, List.eraseIdx_cons_succ])
    refine W ?_
    rintro u _ ⟨Vs, lu, su, hV, rfl⟩
    try (dsimp only [st, setL, AV.cells, List.set_cons_zero, List.set_cons_succ, List.drop_zero, List.drop_succ_cons, List.take_zero, List.take_succ_cons, Nat.zero_add, Nat.add_zero, Nat.reduceAdd, List.cons_append, List.nil_append, List.eraseIdx_cons_zero, List.eraseIdx_cons_succ])
    refine W ?_
    refine RET fun h' HL => ?_
    try dsimp only [oneA]
    exact ⟨by rw [cR, hx, if_pos rfl, ← hV], HL.le⟩

theorem implCount_ac (p : PlanM) (v : AV) (h : AH) (hR : PlR h v p) (hw : PSm p) : AC Try.prog 43 [v] h (fun r h' => r = .tup [.i .i64 (cR p), .b (cOk p)] ∧ h.le h') := by
  have hR0 := hR
  obtain ⟨vs, vo, rfl, hs, ho⟩ := hR
  refine e43 _ fun wf => ?_
  unfold c43
  refine LI_start wf ?_
  refine W ?_
  refine LS_bxn rfl (sc_cons rfl (sc_cons (rd_sc hs) (sc_cons (rd_sc ho) rfl))) fun b1 => ?_
  try (dsimp only [st, setL, AV.cells, List.set_cons_zero, List.set_cons_succ, List.drop_zero, List.drop_succ_cons, List.take_zero, List.take_succ_cons, Nat.zero_add, Nat.add_zero, Nat.reduceAdd, List.cons_append, List.nil_append, List.eraseIdx_cons_zero, List.eraseIdx_cons_succ])
  refine W ?_
  refine LS_c0 (fun h' HL wf => orderable_ac p _ h' (hR0.le HL.le) hw) rfl rfl ?_
  try (dsimp only [st, setL, AV.cells, List.set_cons_zero, List.set_cons_succ, List.drop_zero, List.drop_succ_cons, List.take_zero, List.take_succ_cons, Nat.zero_add, Nat.add_zero, Nat.reduceAdd, List.cons_append, List.nil_append, List.eraseIdx_cons_zero, List.eraseIdx_cons_succ])
  refine W ?_
  cases hx : cOk p
  · first | (refine LS_gyH rfl (rfl) ?_; intro hg) | (refine LI_cond_tH rfl (rfl) ?_; intro hg)
    refine W ?_
    refine RET fun h' HL => ?_
    try dsimp only [oneA]
    exact ⟨by rw [cR, hx, if_neg (by simp)], HL.le⟩
  · obtain ⟨hk, hm⟩ := cOk_out hx
    first | (refine LS_gtnH rfl (rfl) ?_; intro hg; try (dsimp only [st, setL, AV.cells, List.set_cons_zero, List.set_cons_succ, List.drop_zero, List.drop_succ_cons, List.take_zero, List.take_succ_cons, Nat.zero_add, Nat.add_zero, Nat.reduceAdd, List.cons_append, List.nil_append, List.eraseIdx_cons_zero, List.eraseIdx_cons_succ])) | (refine LS_gfnH rfl (rfl) ?_; intro hg; try (dsimp only [st, setL, AV.cells, List.set_cons_zero, List.set_cons_succ, List.drop_zero, List.drop_succ_cons, List.take_zero, List.take_succ_cons, Nat.zero_add, Nat.add_zero, Nat.reduceAdd, List.cons_append, List.nil_append, List.eraseIdx_cons_zero, List.eraseIdx_cons_succ])) | (refine LI_cond_fH rfl (rfl) ?_; intro hg)
    refine W ?_
    refine LS_c0 (fun h' HL wf => within_ac p hk hm b1 vs vo h' ⟨HL.rowsP 0 rfl (Nat.le_refl 3) rfl, hs.le HL.le, ho.le HL.le⟩) rfl rfl ?_
    try (dsimp only [st, setL, AV.cells, List.set_cons_zero, List.set_cons_succ, List.drop_zero, List.drop_succ_cons, List.take_zero, List.take_succ_cons, Nat.zero_add, Nat.add_zero, Nat.reduceAdd, List.cons_append, List.nil_append, List.eraseIdx_cons_zero, List.eraseIdx_cons_succ])
    refine W ?_
    refine RET fun h' HL => ?_
    try dsimp only [oneA]
    exact ⟨by rw [cR, hx, if_pos rfl], HL.le⟩

theorem lawFnExactCountOrders_ac (p : PlanM) (v : AV)  (h : AH) (hR : PlR h v p) (hw0 : p.wf) : AC Try.prog 12 [v] h (fun r h' => r = .b true) := by
  have hR0 := hR
  obtain ⟨vs, vo, rfl, hs, ho⟩ := hR
  refine e12 _ fun wf => ?_
  unfold c12
  refine LI_start wf ?_
  refine W ?_
  refine LS_bxn rfl (sc_cons rfl (sc_cons (rd_sc hs) (sc_cons (rd_sc ho) rfl))) fun b1 => ?_
  try (dsimp only [st, setL, AV.cells, List.set_cons_zero, List.set_cons_succ, List.drop_zero, List.drop_succ_cons, List.take_zero, List.take_succ_cons, Nat.zero_add, Nat.add_zero, Nat.reduceAdd, List.cons_append, List.nil_append, List.eraseIdx_cons_zero, List.eraseIdx_cons_succ])
  refine W ?_
  refine LS_cq (fun h' HL wf => szPlan_ac p _ 1048576 h' (hR0.le HL.le) (by omega) (by omega) hw0.ls hw0.lo) rfl rfl ?_
  try (dsimp only [st, setL, AV.cells, List.set_cons_zero, List.set_cons_succ, List.drop_zero, List.drop_succ_cons, List.take_zero, List.take_succ_cons, Nat.zero_add, Nat.add_zero, Nat.reduceAdd, List.cons_append, List.nil_append, List.eraseIdx_cons_zero, List.eraseIdx_cons_succ])
  refine W ?_
  rintro _ ⟨z, rfl, hz⟩
  try (dsimp only [st, setL, AV.cells, List.set_cons_zero, List.set_cons_succ, List.drop_zero, List.drop_succ_cons, List.take_zero, List.take_succ_cons, Nat.zero_add, Nat.add_zero, Nat.reduceAdd, List.cons_append, List.nil_append, List.eraseIdx_cons_zero, List.eraseIdx_cons_succ])
  refine W ?_
  (first | refine LS_gt rfl ?_ ?_ | refine LS_gf rfl ?_ ?_ | refine LI_cond rfl ?_ ?_) <;> intro hc <;> have hc' := hc <;> try simp only [decide_eq_true_eq, decide_eq_false_iff_not, Bool.not_eq_true', Bool.not_eq_false', Bool.not_eq_true, Bool.not_eq_false, beq_iff_eq, bne_iff_ne, beq_eq_false_iff_ne, bne_eq_false_iff_eq, Int.not_lt, Int.not_le, ge_iff_le, gt_iff_lt, not_and, ne_eq, Decidable.not_not] at hc'
  all_goals (try (dsimp only [st, setL, AV.cells, List.set_cons_zero, List.set_cons_succ, List.drop_zero, List.drop_succ_cons, List.take_zero, List.take_succ_cons, Nat.zero_add, Nat.add_zero, Nat.reduceAdd, List.cons_append, List.nil_append, List.eraseIdx_cons_zero, List.eraseIdx_cons_succ]))
  all_goals (refine W ?_)
  · refine RET fun h' HL => ?_
    try dsimp only [oneA]
  · have hw := psm_of hw0 hz hc'
    refine LS_c1 (fun h' HL wf => toPlanX_ac p _ h' (hR0.le HL.le) hw) rfl rfl ?_
    try (dsimp only [st, setL, AV.cells, List.set_cons_zero, List.set_cons_succ, List.drop_zero, List.drop_succ_cons, List.take_zero, List.take_succ_cons, Nat.zero_add, Nat.add_zero, Nat.reduceAdd, List.cons_append, List.nil_append, List.eraseIdx_cons_zero, List.eraseIdx_cons_succ])
    refine W ?_
    rintro _ _ ⟨vs1, vo1, ⟨rfl, l1, l2, s1, s2⟩, rfl⟩
    try (dsimp only [st, setL, AV.cells, List.set_cons_zero, List.set_cons_succ, List.drop_zero, List.drop_succ_cons, List.take_zero, List.take_succ_cons, Nat.zero_add, Nat.add_zero, Nat.reduceAdd, List.cons_append, List.nil_append, List.eraseIdx_cons_zero, List.eraseIdx_cons_succ])
    refine W ?_
    refine LS_c0 (fun h' HL wf => specCount_ac p _ h' (plr_of HL 0 1 rfl rfl) hw) rfl rfl ?_
    try (dsimp only [st, setL, AV.cells, List.set_cons_zero, List.set_cons_succ, List.drop_zero, List.drop_succ_cons, List.take_zero, List.take_succ_cons, Nat.zero_add, Nat.add_zero, Nat.reduceAdd, List.cons_append, List.nil_append, List.eraseIdx_cons_zero, List.eraseIdx_cons_succ])
    refine W ?_
    refine LS_c1 (fun h' HL wf => toPlanX_ac p _ h' (hR0.le HL.le) hw) rfl rfl ?_
    try (dsimp only [st, setL, AV.cells, List.set_cons_zero, List.set_cons_succ, List.drop_zero, List.drop_succ_cons, List.take_zero, List.take_succ_cons, Nat.zero_add, Nat.add_zero, Nat.reduceAdd, List.cons_append, List.nil_append, List.eraseIdx_cons_zero, List.eraseIdx_cons_succ])
    refine W ?_
    rintro _ _ ⟨vs2, vo2, ⟨rfl, l3, l4, s3, s4⟩, rfl⟩
    try (dsimp only [st, setL, AV.cells, List.set_cons_zero, List.set_cons_succ, List.drop_zero, List.drop_succ_cons, List.take_zero, List.take_succ_cons, Nat.zero_add, Nat.add_zero, Nat.reduceAdd, List.cons_append, List.nil_append, List.eraseIdx_cons_zero, List.eraseIdx_cons_succ])
    refine W ?_
    refine LS_al rfl fun b2 => ?_
    try (dsimp only [st, setL, AV.cells, List.set_cons_zero, List.set_cons_succ, List.drop_zero, List.drop_succ_cons, List.take_zero, List.take_succ_cons, Nat.zero_add, Nat.add_zero, Nat.reduceAdd, List.cons_append, List.nil_append, List.eraseIdx_cons_zero, List.eraseIdx_cons_succ])
    refine W ?_
    refine LS_c0 (fun h' HL wf => implCount_ac p _ h' (plr_of HL 1 2 rfl rfl) hw) rfl rfl ?_
    try (dsimp only [st, setL, AV.cells, List.set_cons_zero, List.set_cons_succ, List.drop_zero, List.drop_succ_cons, List.take_zero, List.take_succ_cons, Nat.zero_add, Nat.add_zero, Nat.reduceAdd, List.cons_append, List.nil_append, List.eraseIdx_cons_zero, List.eraseIdx_cons_succ])
    refine W ?_
    first | (refine LS_gyH rfl (by simp) ?_; intro hg) | (refine LI_cond_tH rfl (by simp) ?_; intro hg)
    refine W ?_
    first | (refine LS_gtnH rfl (by simp) ?_; intro hg; try (dsimp only [st, setL, AV.cells, List.set_cons_zero, List.set_cons_succ, List.drop_zero, List.drop_succ_cons, List.take_zero, List.take_succ_cons, Nat.zero_add, Nat.add_zero, Nat.reduceAdd, List.cons_append, List.nil_append, List.eraseIdx_cons_zero, List.eraseIdx_cons_succ])) | (refine LS_gfnH rfl (by simp) ?_; intro hg; try (dsimp only [st, setL, AV.cells, List.set_cons_zero, List.set_cons_succ, List.drop_zero, List.drop_succ_cons, List.take_zero, List.take_succ_cons, Nat.zero_add, Nat.add_zero, Nat.reduceAdd, List.cons_append, List.nil_append, List.eraseIdx_cons_zero, List.eraseIdx_cons_succ])) | (refine LI_cond_fH rfl (by simp) ?_; intro hg)
    refine W ?_
    refine dz12_0 ?_
    refine WX ?_
    refine W ?_
    refine LX_c1 (fun h' HL wf => toPlanX_ac p _ h'.frz (hR0.le HL.le).frz hw) rfl rfl noG ?_
    try (dsimp only [st, setL, AV.cells, List.set_cons_zero, List.set_cons_succ, List.drop_zero, List.drop_succ_cons, List.take_zero, List.take_succ_cons, Nat.zero_add, Nat.add_zero, Nat.reduceAdd, List.cons_append, List.nil_append, List.eraseIdx_cons_zero, List.eraseIdx_cons_succ])
    refine WX ?_
    refine W ?_
    rintro _ _ ⟨vs3, vo3, ⟨rfl, l5, l6, s5, s6⟩, rfl⟩
    try (dsimp only [st, setL, AV.cells, List.set_cons_zero, List.set_cons_succ, List.drop_zero, List.drop_succ_cons, List.take_zero, List.take_succ_cons, Nat.zero_add, Nat.add_zero, Nat.reduceAdd, List.cons_append, List.nil_append, List.eraseIdx_cons_zero, List.eraseIdx_cons_succ])
    refine WX ?_
    refine LX_c0 (fun h' HL wf => eqPlan_same p _ _ h'.frz (plr_of HL 3 4 rfl rfl).frz (plr_of HL 0 1 rfl rfl).frz hw.ls hw.lo) rfl rfl noG ?_
    try (dsimp only [st, setL, AV.cells, List.set_cons_zero, List.set_cons_succ, List.drop_zero, List.drop_succ_cons, List.take_zero, List.take_succ_cons, Nat.zero_add, Nat.add_zero, Nat.reduceAdd, List.cons_append, List.nil_append, List.eraseIdx_cons_zero, List.eraseIdx_cons_succ])
    refine WX ?_
    refine W ?_
    refine RET fun h' HL => ?_
    try dsimp only [oneA]
end Go.Proofs.Ytdeeeacnmkmeiaa
