/- The walk of the law FnExactSplitPlan, part 2: what each function that it reaches computes. -/
import Derived.Test.YtdcliofmdlhmaaaXFnExactSplitPlana
namespace Go.Proofs.Ytdcliofmdlhmaaa
open Go.AL
set_option linter.unusedVariables false
set_option linter.unusedSimpArgs false
set_option maxRecDepth 100000
set_option maxHeartbeats 1000000
attribute [local irreducible] AS AI AIL OpR AC CW AWP ALoop LS LI LIL LThen LLoop LBlk LRet Lh AX OpV OpF

theorem liveAt_ac (p : PlanM) (k : Int) (b : Nat) (vs vo : AV) (h : AH) (hp : PlP h b p vs vo) (hk : planOk p = true) (hk0 : 0 ≤ k) (hk1 : k ≤ p.steps.length) :
    AC Try.prog 113 [.p b 0, .i .i64 k] h (fun r h' => Own h 1 enI h' r (liveM p k)) := by
  have c0 := hp.c0
  have c1 := hp.c1
  have c2 := hp.c2
  have hs := hp.steps
  have ho := hp.outs
  obtain ⟨h1, h2, h3, h4, hf, h6⟩ := planOk_out hk
  refine e113 _ _ fun wf => ?_
  unfold c113
  refine LI_start wf ?_
  refine W ?_
  refine LS_c0 (fun h' HL wf => many_ac p b vs vo h' (hp.le HL.le) (by omega) (by omega) (by omega)) rfl rfl ?_
  try (dsimp only [st, setL, AV.cells, List.set_cons_zero, List.set_cons_succ, List.drop_zero, List.drop_succ_cons, List.take_zero, List.take_succ_cons, Nat.zero_add, Nat.add_zero, Nat.reduceAdd, List.cons_append, List.nil_append, List.eraseIdx_cons_zero, List.eraseIdx_cons_succ])
  refine W ?_
  refine LS_mk false rfl rfl rfl rfl rfl (by omega) (by omega) (by omega) enB1 rfl fun b2 => ?_
  try (dsimp only [st, setL, AV.cells, List.set_cons_zero, List.set_cons_succ, List.drop_zero, List.drop_succ_cons, List.take_zero, List.take_succ_cons, Nat.zero_add, Nat.add_zero, Nat.reduceAdd, List.cons_append, List.nil_append, List.eraseIdx_cons_zero, List.eraseIdx_cons_succ])
  refine W ?_
  refine LS_lt ([] : List Int) rfl rfl (by decide) rfl rfl rfl rfl enI1 rfl rfl fun lit3 hlit3 slit3 => ?_
  try (dsimp only [st, setL, AV.cells, List.set_cons_zero, List.set_cons_succ, List.drop_zero, List.drop_succ_cons, List.take_zero, List.take_succ_cons, Nat.zero_add, Nat.add_zero, Nat.reduceAdd, List.cons_append, List.nil_append, List.eraseIdx_cons_zero, List.eraseIdx_cons_succ])
  refine W ?_
  generalize hU0 : List.replicate (p.n + p.steps.length).toNat false = U0
  have hU0l : U0.length = (p.n + p.steps.length).toNat := by rw [← hU0, List.length_replicate]
  refine LIL_ind (fun n a L => ∃ (i : Int) (U : List Bool), (∃ r : Nat → AV, a = [.p b 0, .i .i64 k, r 2, r 3, r 4, .sl b2 0 (p.n + p.steps.length).toNat true, lit3, r 7, r 8, r 9, r 10, r 11, r 12, r 13, r 14, r 15, r 16, r 17, r 18, r 19, vo, .i .i64 p.outs.length, .i .i64 i, r 23, r 24, r 25, r 26, r 27, r 28, r 29, r 30, r 31, r 32, r 33, r 34, r 35, r 36, r 37, r 38, r 39, r 40, r 41, r 42, r 43, r 44, r 45, r 46, r 47, r 48, r 49, r 50, r 51, r 52, r 53, r 54, r 55, r 56, r 57, r 58, r 59, r 60, r 61, r 62, r 63, r 64, r 65, r 66, r 67, r 68, r 69, r 70]) ∧ L = [.sl lit3 1 (([] : List Int).flatMap enI), .sl (.sl b2 0 (p.n + p.steps.length).toNat true) 1 (U.flatMap enB)] ∧ 0 ≤ i ∧ i + n = p.outs.length ∧ U.length = (p.n + p.steps.length).toNat ∧ p.outs.foldl markU U0 = (p.outs.drop i.toNat).foldl markU U)
    p.outs.length ⟨0, _, exJ rfl, rfl, by omega, by omega, hU0l, rfl⟩ ?_
  rintro n a L ⟨i, U, ⟨r, rfl⟩, rfl, h0, hn, hUl, heq⟩ IH
  refine W ?_
  (first | refine LS_gt rfl ?_ ?_ | refine LS_gf rfl ?_ ?_ | refine LI_cond rfl ?_ ?_) <;> intro hc <;> have hc' := hc <;> try simp only [decide_eq_true_eq, decide_eq_false_iff_not, Bool.not_eq_true', Bool.not_eq_false', Bool.not_eq_true, Bool.not_eq_false, beq_iff_eq, bne_iff_ne, beq_eq_false_iff_ne, bne_eq_false_iff_eq, Int.not_lt, Int.not_le, ge_iff_le, gt_iff_lt, not_and, ne_eq, Decidable.not_not] at hc'
  all_goals (try (dsimp only [st, setL, AV.cells, List.set_cons_zero, List.set_cons_succ, List.drop_zero, List.drop_succ_cons, List.take_zero, List.take_succ_cons, Nat.zero_add, Nat.add_zero, Nat.reduceAdd, List.cons_append, List.nil_append, List.eraseIdx_cons_zero, List.eraseIdx_cons_succ]))
  all_goals (refine W ?_)
  · obtain ⟨y, hy, hym, hd⟩ := drop_at (l := p.outs) h0 hc'
    rw [hd, List.foldl_cons] at heq
    have hyb := used_bd hk (k := 0) (x := y) (List.mem_append_right _ hym)
    refine LS_ix (fun h' HL => ho.le HL.le) enI1 hy h0 rfl rfl fun q o hrow => ?_
    try (dsimp only [st, setL, AV.cells, List.set_cons_zero, List.set_cons_succ, List.drop_zero, List.drop_succ_cons, List.take_zero, List.take_succ_cons, Nat.zero_add, Nat.add_zero, Nat.reduceAdd, List.cons_append, List.nil_append, List.eraseIdx_cons_zero, List.eraseIdx_cons_succ])
    refine W ?_
    refine LS_is hyb.1 (by omega) rfl rfl ?_
    try (dsimp only [st, setL, AV.cells, List.set_cons_zero, List.set_cons_succ, List.drop_zero, List.drop_succ_cons, List.take_zero, List.take_succ_cons, Nat.zero_add, Nat.add_zero, Nat.reduceAdd, List.cons_append, List.nil_append, List.eraseIdx_cons_zero, List.eraseIdx_cons_succ])
    refine W ?_
    refine LS_ss true 1 y.toNat rfl (by omega) (by omega) rfl enB1 (by decide) rfl rfl rfl ?_
    try (dsimp only [st, setL, AV.cells, List.set_cons_zero, List.set_cons_succ, List.drop_zero, List.drop_succ_cons, List.take_zero, List.take_succ_cons, Nat.zero_add, Nat.add_zero, Nat.reduceAdd, List.cons_append, List.nil_append, List.eraseIdx_cons_zero, List.eraseIdx_cons_succ])
    refine W ?_
    refine IH (n - 1) _ _ (by omega) ⟨i + 1, _, exJ rfl, rfl, by omega, by omega, by simp [hUl], by rw [toNat_succ h0]; exact heq⟩
  · rw [List.drop_eq_nil_of_le (by omega), List.foldl_nil] at heq
    refine LS_sz (u := p.steps.length) (q := k.toNat) (fun h' HL => hs.le HL.le) enStep2 (.inr ⟨_, _, _, rfl, rfl, hk0, rfl⟩) (.inl ⟨rfl, rfl⟩) (by omega) (by omega) rfl fun w4 hw4 sw4 rw4 => ?_
    try (dsimp only [st, setL, AV.cells, List.set_cons_zero, List.set_cons_succ, List.drop_zero, List.drop_succ_cons, List.take_zero, List.take_succ_cons, Nat.zero_add, Nat.add_zero, Nat.reduceAdd, List.cons_append, List.nil_append, List.eraseIdx_cons_zero, List.eraseIdx_cons_succ])
    refine W ?_
    simp only [List.take_length] at rw4
    have husd : ∀ j : Nat, (j : Int) < p.n + p.steps.length → ((p.steps.drop k.toNat).foldl markUS U)[j]? = some (decide ((j : Int) ∈ usedL p k.toNat)) := fun j hj => by
      rw [← heq, ← hU0]; exact usedU hk hj
    have hDm : ∀ s ∈ p.steps.drop k.toNat, (0 ≤ s.1 ∧ s.1 < p.n + p.steps.length) ∧ (0 ≤ s.2 ∧ s.2 < p.n + p.steps.length) := fun s hs' =>
      ⟨used_bd hk (k := k.toNat) (List.mem_append_left _ (List.mem_flatMap.2 ⟨s, hs', by simp⟩)), used_bd hk (k := k.toNat) (List.mem_append_left _ (List.mem_flatMap.2 ⟨s, hs', by simp⟩))⟩
    generalize hD : p.steps.drop k.toNat = D at *
    have hDl : D.length = p.steps.length - k.toNat := by rw [← hD, List.length_drop]
    refine LIL_ind (fun n a L => ∃ (i : Int) (V : List Bool), (∃ r : Nat → AV, a = [.p b 0, .i .i64 k, r 2, r 3, r 4, .sl b2 0 (p.n + p.steps.length).toNat true, lit3, r 7, r 8, r 9, r 10, r 11, r 12, r 13, r 14, r 15, r 16, r 17, r 18, r 19, r 20, r 21, r 22, r 23, r 24, r 25, r 26, r 27, r 28, r 29, r 30, r 31, r 32, r 33, r 34, w4, .i .i64 ((p.steps.length - k.toNat : Nat) : Int), .i .i64 i, r 38, r 39, r 40, r 41, r 42, r 43, r 44, r 45, r 46, r 47, r 48, r 49, r 50, r 51, r 52, r 53, r 54, r 55, r 56, r 57, r 58, r 59, r 60, r 61, r 62, r 63, r 64, r 65, r 66, r 67, r 68, r 69, r 70]) ∧ L = [.sl lit3 1 (([] : List Int).flatMap enI), .sl (.sl b2 0 (p.n + p.steps.length).toNat true) 1 (V.flatMap enB)] ∧ 0 ≤ i ∧ i + n = D.length ∧ V.length = (p.n + p.steps.length).toNat ∧ D.foldl markUS U = (D.drop i.toNat).foldl markUS V)
      D.length ⟨0, _, exJ rfl, rfl, by omega, by omega, hUl, rfl⟩ ?_
    rintro n a L ⟨i, V, ⟨r, rfl⟩, rfl, h0, hn, hVl, heq2⟩ IH
    refine W ?_
    (first | refine LS_gt rfl ?_ ?_ | refine LS_gf rfl ?_ ?_ | refine LI_cond rfl ?_ ?_) <;> intro hc <;> have hc' := hc <;> try simp only [decide_eq_true_eq, decide_eq_false_iff_not, Bool.not_eq_true', Bool.not_eq_false', Bool.not_eq_true, Bool.not_eq_false, beq_iff_eq, bne_iff_ne, beq_eq_false_iff_ne, bne_eq_false_iff_eq, Int.not_lt, Int.not_le, ge_iff_le, gt_iff_lt, not_and, ne_eq, Decidable.not_not] at hc'
    all_goals (try (dsimp only [st, setL, AV.cells, List.set_cons_zero, List.set_cons_succ, List.drop_zero, List.drop_succ_cons, List.take_zero, List.take_succ_cons, Nat.zero_add, Nat.add_zero, Nat.reduceAdd, List.cons_append, List.nil_append, List.eraseIdx_cons_zero, List.eraseIdx_cons_succ]))
    all_goals (refine W ?_)
    · obtain ⟨s, hs', hsm, hd⟩ := drop_at (l := D) h0 (by omega)
      rw [hd, List.foldl_cons] at heq2
      have hb := hDm s hsm
      refine LS_ix (fun h' HL => rw4 h' (hs.le HL.le)) enStep2 hs' h0 rfl rfl fun q o hrow => ?_
      try (dsimp only [st, setL, AV.cells, List.set_cons_zero, List.set_cons_succ, List.drop_zero, List.drop_succ_cons, List.take_zero, List.take_succ_cons, Nat.zero_add, Nat.add_zero, Nat.reduceAdd, List.cons_append, List.nil_append, List.eraseIdx_cons_zero, List.eraseIdx_cons_succ])
      refine W ?_
      refine LS_al rfl fun b5 => ?_
      try (dsimp only [st, setL, AV.cells, List.set_cons_zero, List.set_cons_succ, List.drop_zero, List.drop_succ_cons, List.take_zero, List.take_succ_cons, Nat.zero_add, Nat.add_zero, Nat.reduceAdd, List.cons_append, List.nil_append, List.eraseIdx_cons_zero, List.eraseIdx_cons_succ])
      refine W ?_
      refine dk113_0 [(b5, enStep s)] (by simp) ?_
      refine WX ?_
      refine LX_k 0 noG rfl rfl rfl rfl ?_
      try (dsimp only [st, setL, AV.cells, List.set_cons_zero, List.set_cons_succ, List.drop_zero, List.drop_succ_cons, List.take_zero, List.take_succ_cons, Nat.zero_add, Nat.add_zero, Nat.reduceAdd, List.cons_append, List.nil_append, List.eraseIdx_cons_zero, List.eraseIdx_cons_succ])
      refine WX ?_
      refine W ?_
      refine LX_is hb.1.1 (by omega) rfl rfl noG ?_
      try (dsimp only [st, setL, AV.cells, List.set_cons_zero, List.set_cons_succ, List.drop_zero, List.drop_succ_cons, List.take_zero, List.take_succ_cons, Nat.zero_add, Nat.add_zero, Nat.reduceAdd, List.cons_append, List.nil_append, List.eraseIdx_cons_zero, List.eraseIdx_cons_succ])
      refine WX ?_
      refine W ?_
      refine LX_fK noG (LO_ss true 2 s.1.toNat rfl (by omega) (by omega) rfl enB1 (by decide) rfl rfl rfl ⟨by simp, ?_⟩)
      try (dsimp only [st, setL, AV.cells, List.set_cons_zero, List.set_cons_succ, List.drop_zero, List.drop_succ_cons, List.take_zero, List.take_succ_cons, Nat.zero_add, Nat.add_zero, Nat.reduceAdd, List.cons_append, List.nil_append, List.eraseIdx_cons_zero, List.eraseIdx_cons_succ])
      refine WX ?_
      refine W ?_
      refine LX_is hb.2.1 (by omega) rfl rfl noG ?_
      try (dsimp only [st, setL, AV.cells, List.set_cons_zero, List.set_cons_succ, List.drop_zero, List.drop_succ_cons, List.take_zero, List.take_succ_cons, Nat.zero_add, Nat.add_zero, Nat.reduceAdd, List.cons_append, List.nil_append, List.eraseIdx_cons_zero, List.eraseIdx_cons_succ])
      refine WX ?_
      refine W ?_
      refine LX_fK noG (LO_ss true 2 s.2.toNat rfl (by simp; omega) (by omega) rfl enB1 (by decide) rfl rfl rfl ⟨by simp, ?_⟩)
      try (dsimp only [st, setL, AV.cells, List.set_cons_zero, List.set_cons_succ, List.drop_zero, List.drop_succ_cons, List.take_zero, List.take_succ_cons, Nat.zero_add, Nat.add_zero, Nat.reduceAdd, List.cons_append, List.nil_append, List.eraseIdx_cons_zero, List.eraseIdx_cons_succ])
      refine WX ?_
      refine W ?_
      refine LIL_drop 1 ?_
      refine IH (n - 1) _ _ (by omega) ⟨i + 1, _, exJ rfl, rfl, by omega, by omega, by simp [hVl], by rw [toNat_succ h0]; exact heq2⟩
    · rw [List.drop_eq_nil_of_le (by omega), List.foldl_nil] at heq2
      rw [heq2] at husd
      refine LS_sz (u := (p.n + k).toNat) (q := 0) (fun h' HL => HL.rdI 1 rfl enB1 (by decide)) enB1 (.inl ⟨rfl, rfl⟩) (.inr ⟨_, _, _, rfl, rfl, by omega, rfl⟩) (by omega) (by omega) rfl fun w6 hw6 sw6 rw6 => ?_
      try (dsimp only [st, setL, AV.cells, List.set_cons_zero, List.set_cons_succ, List.drop_zero, List.drop_succ_cons, List.take_zero, List.take_succ_cons, Nat.zero_add, Nat.add_zero, Nat.reduceAdd, List.cons_append, List.nil_append, List.eraseIdx_cons_zero, List.eraseIdx_cons_succ])
      refine W ?_
      refine LIL_ind (fun n a L => ∃ (i : Int) (w : AV) (e : List Int), (∃ r : Nat → AV, a = [r 0, r 1, r 2, r 3, r 4, r 5, w, r 7, r 8, r 9, r 10, r 11, r 12, r 13, r 14, r 15, r 16, r 17, r 18, r 19, r 20, r 21, r 22, r 23, r 24, r 25, r 26, r 27, r 28, r 29, r 30, r 31, r 32, r 33, r 34, r 35, r 36, r 37, r 38, r 39, r 40, r 41, r 42, r 43, r 44, r 45, r 46, r 47, r 48, r 49, r 50, r 51, r 52, r 53, r 54, r 55, r 56, w6, .i .i64 (((p.n + k).toNat - 0 : Nat) : Int), .i .i64 i, r 60, r 61, r 62, r 63, r 64, r 65, r 66, r 67, r 68, r 69, r 70]) ∧ L = [.sl w 1 (e.flatMap enI), .sl (.sl b2 0 (p.n + p.steps.length).toNat true) 1 (V.flatMap enB)] ∧ 0 ≤ i ∧ i + n = p.n + k ∧ e = (iotaI i.toNat).filter (fun v => decide (v ∈ usedL p k.toNat)))
        (p.n + k).toNat ⟨0, _, [], exJ rfl, rfl, by omega, by omega, rfl⟩ ?_
      rintro n a L ⟨i, w, e, ⟨r, rfl⟩, rfl, h0, hn, he⟩ IH
      have hel : e.length ≤ i.toNat := by rw [he]; refine Nat.le_trans (List.length_filter_le _ _) ?_; simp [iotaI]
      have hii : ((i.toNat : Nat) : Int) = i := by omega
      refine W ?_
      (first | refine LS_gt rfl ?_ ?_ | refine LS_gf rfl ?_ ?_ | refine LI_cond rfl ?_ ?_) <;> intro hc <;> have hc' := hc <;> try simp only [decide_eq_true_eq, decide_eq_false_iff_not, Bool.not_eq_true', Bool.not_eq_false', Bool.not_eq_true, Bool.not_eq_false, beq_iff_eq, bne_iff_ne, beq_eq_false_iff_ne, bne_eq_false_iff_eq, Int.not_lt, Int.not_le, ge_iff_le, gt_iff_lt, not_and, ne_eq, Decidable.not_not] at hc'
      all_goals (try (dsimp only [st, setL, AV.cells, List.set_cons_zero, List.set_cons_succ, List.drop_zero, List.drop_succ_cons, List.take_zero, List.take_succ_cons, Nat.zero_add, Nat.add_zero, Nat.reduceAdd, List.cons_append, List.nil_append, List.eraseIdx_cons_zero, List.eraseIdx_cons_succ]))
      all_goals (refine W ?_)
      · have hu := husd i.toNat (by omega)
        rw [hii] at hu
        have hu' : (((V.take (p.n + k).toNat).drop 0))[i.toNat]? = some (decide (i ∈ usedL p k.toNat)) := by rw [List.drop_zero, List.getElem?_take, if_pos (by omega), hu]
        have hnx : (iotaI (i + 1).toNat).filter (fun v => decide (v ∈ usedL p k.toNat)) = e ++ [i].filter (fun v => decide (v ∈ usedL p k.toNat)) := by
          rw [toNat_succ h0, iotaI_succ, List.filter_append, ← he, hii]
        refine LS_ix (fun h' HL => rw6 h' (HL.rdI 1 rfl enB1 (by decide))) enB1 hu' h0 rfl rfl fun q o hrow => ?_
        try (dsimp only [st, setL, AV.cells, List.set_cons_zero, List.set_cons_succ, List.drop_zero, List.drop_succ_cons, List.take_zero, List.take_succ_cons, Nat.zero_add, Nat.add_zero, Nat.reduceAdd, List.cons_append, List.nil_append, List.eraseIdx_cons_zero, List.eraseIdx_cons_succ])
        refine W ?_
        (first | refine LS_gt rfl ?_ ?_ | refine LS_gf rfl ?_ ?_ | refine LI_cond rfl ?_ ?_) <;> intro hc <;> have hc' := hc <;> try simp only [decide_eq_true_eq, decide_eq_false_iff_not, Bool.not_eq_true', Bool.not_eq_false', Bool.not_eq_true, Bool.not_eq_false, beq_iff_eq, bne_iff_ne, beq_eq_false_iff_ne, bne_eq_false_iff_eq, Int.not_lt, Int.not_le, ge_iff_le, gt_iff_lt, not_and, ne_eq, Decidable.not_not] at hc'
        all_goals (try (dsimp only [st, setL, AV.cells, List.set_cons_zero, List.set_cons_succ, List.drop_zero, List.drop_succ_cons, List.take_zero, List.take_succ_cons, Nat.zero_add, Nat.add_zero, Nat.reduceAdd, List.cons_append, List.nil_append, List.eraseIdx_cons_zero, List.eraseIdx_cons_succ]))
        all_goals (refine W ?_)
        · rw [List.filter_cons, hc, if_pos rfl, List.filter_nil] at hnx
          refine LS_lt [i] rfl rfl (by decide) rfl rfl rfl rfl enI1 rfl rfl fun lit7 hlit7 slit7 => ?_
          try (dsimp only [st, setL, AV.cells, List.set_cons_zero, List.set_cons_succ, List.drop_zero, List.drop_succ_cons, List.take_zero, List.take_succ_cons, Nat.zero_add, Nat.add_zero, Nat.reduceAdd, List.cons_append, List.nil_append, List.eraseIdx_cons_zero, List.eraseIdx_cons_succ])
          refine W ?_
          refine LS_ap 1 rfl (fun h' HL => HL.rdI 0 rfl enI1 (by decide)) enI1 (by decide) (by simp) (by simp; omega) (by simp; omega) rfl rfl rfl fun w8 hw8 sw8 => ?_
          try (dsimp only [st, setL, AV.cells, List.set_cons_zero, List.set_cons_succ, List.drop_zero, List.drop_succ_cons, List.take_zero, List.take_succ_cons, Nat.zero_add, Nat.add_zero, Nat.reduceAdd, List.cons_append, List.nil_append, List.eraseIdx_cons_zero, List.eraseIdx_cons_succ])
          refine W ?_
          refine LIL_drop 1 ?_
          refine IH (n - 1) _ _ (by omega) ⟨i + 1, _, _, exJ rfl, rfl, by omega, by omega, hnx.symm⟩
        · rw [List.filter_cons, hc, if_neg (by simp), List.filter_nil, List.append_nil] at hnx
          refine IH (n - 1) _ _ (by omega) ⟨i + 1, _, _, exJ rfl, rfl, by omega, by omega, hnx.symm⟩
      · have e1 : e = liveM p k := by rw [he, liveM, show i = p.n + k by omega]
        refine RET fun h' HL => ?_
        try dsimp only [oneA]
        rw [← e1]
        exact HL.ownI 0 rfl enI1 (by decide)

theorem l1Most_ac (a b : Int) (h : AH) : AC Try.prog 79 [.i .i64 a, .i .i64 b] h (fun r h' => r = .i .i64 (if b < a then a else b) ∧ h.le h') := by
  refine e79 _ _ fun wf => ?_
  unfold c79
  refine LI_start wf ?_
  refine W ?_
  (first | refine LS_gt rfl ?_ ?_ | refine LS_gf rfl ?_ ?_ | refine LI_cond rfl ?_ ?_) <;> intro hc <;> have hc' := hc <;> try simp only [decide_eq_true_eq, decide_eq_false_iff_not, Bool.not_eq_true', Bool.not_eq_false', Bool.not_eq_true, Bool.not_eq_false, beq_iff_eq, bne_iff_ne, beq_eq_false_iff_ne, bne_eq_false_iff_eq, Int.not_lt, Int.not_le, ge_iff_le, gt_iff_lt, not_and, ne_eq, Decidable.not_not] at hc'
  all_goals (try (dsimp only [st, setL, AV.cells, List.set_cons_zero, List.set_cons_succ, List.drop_zero, List.drop_succ_cons, List.take_zero, List.take_succ_cons, Nat.zero_add, Nat.add_zero, Nat.reduceAdd, List.cons_append, List.nil_append, List.eraseIdx_cons_zero, List.eraseIdx_cons_succ]))
  all_goals (refine W ?_)
  · refine RET fun h' HL => ?_
    try dsimp only [oneA]
    exact ⟨by rw [if_pos (by omega)], HL.le⟩
  · refine RET fun h' HL => ?_
    try dsimp only [oneA]
    exact ⟨by rw [if_neg (by omega)], HL.le⟩

theorem lit1 {v : AV} (h : v.cells = [v]) (hs : v.cells.all AV.sc = true) : litA 1 0 [(0, v)] = some [v] := by
  unfold litA
  rw [if_pos ⟨rfl, by rw [h]; rfl, hs⟩]
  simp [litA, h]

theorem l1Own_ac (l : List Int) (v : AV) (h : AH) (hR : Rd h v l) (hl : l.length ≤ 1048576) :
    AC Try.prog 110 [v] h (fun r h' => Own h 1 enI h' r l) := by
  refine e110 _ fun wf => ?_
  unfold c110
  refine LI_start wf ?_
  refine W ?_
  refine LS_lt ([] : List Int) rfl rfl (by decide) rfl rfl rfl rfl enI1 rfl rfl fun w1 h1 s1 => ?_
  try (dsimp only [st, setL, AV.cells, List.set_cons_zero, List.set_cons_succ, List.drop_zero, List.drop_succ_cons, List.take_zero, List.take_succ_cons, Nat.zero_add, Nat.add_zero, Nat.reduceAdd, List.cons_append, List.nil_append, List.eraseIdx_cons_zero, List.eraseIdx_cons_succ])
  refine W ?_
  refine LS_ap0 0 rfl (fun h' HL => hR.le HL.le) enI1 (by decide) (by simp; omega) (by simp; omega) rfl rfl rfl fun w2 hw2 sw2 => ?_
  try (dsimp only [st, setL, AV.cells, List.set_cons_zero, List.set_cons_succ, List.drop_zero, List.drop_succ_cons, List.take_zero, List.take_succ_cons, Nat.zero_add, Nat.add_zero, Nat.reduceAdd, List.cons_append, List.nil_append, List.eraseIdx_cons_zero, List.eraseIdx_cons_succ])
  refine W ?_
  refine RET fun h' HL => ?_
  try dsimp only [oneA]
  exact HL.ownI 0 rfl enI1 (by decide)

def pickM {α : Type} (l : List α) (ix : List Int) : List α := ix.filterMap fun i => l[i.toNat]?

theorem pickM_len {α : Type} (l : List α) (ix : List Int) : (pickM l ix).length ≤ ix.length := List.length_filterMap_le _ _

def TupQ (l : List MatM) (ok : Bool) (r : AV) (M : List It) : Prop := ∃ w, r = .tup [w, .b ok] ∧ lenA w = some l.length ∧ w.sc = true ∧ M = [.sl w 4 (l.flatMap enMat)]

theorem TupQ.none {h0 h : AH} {L : List It} (H : Loq h0 h L) : ∃ M, TupQ [] false (.tup [.ns, .b false]) M ∧ Loq h0 h M := ⟨_, ⟨.ns, rfl, rfl, rfl, rfl⟩, loq_ns (H.sub (List.nil_sublist _)) 4⟩

/-! ### Plans that are made step by step -/
theorem Clone_Step_ac (l : List (Int × Int)) (v : AV) (h : AH) (hR : RdG 2 enStep h v l) (hl : l.length ≤ 1048576) :
    AC Try.prog 114 [v] h (fun r h' => Own h 2 enStep h' r l) := by
  rcases hR.rd with rfl | ⟨b, o, c, rfl, g1, g2⟩
  · have hl0 : l = [] := by have := hR.len; simp [lenA] at this; exact List.length_eq_zero_iff.1 this.symm
    subst hl0
    refine e114 _ fun wf => ?_
    unfold c114
    refine LI_start wf ?_
    refine W ?_
    refine LS_snl rfl rfl true true (.inl ⟨rfl, rfl⟩) (.inl ⟨rfl, rfl⟩) ?_
    try (dsimp only [st, setL, AV.cells, List.set_cons_zero, List.set_cons_succ, List.drop_zero, List.drop_succ_cons, List.take_zero, List.take_succ_cons, Nat.zero_add, Nat.add_zero, Nat.reduceAdd, List.cons_append, List.nil_append, List.eraseIdx_cons_zero, List.eraseIdx_cons_succ])
    refine W ?_
    refine RET fun h' HL => ?_
    try dsimp only [oneA]
    exact Own.nil HL.wf0 HL.le HL.wf _ _
  · refine e114 _ fun wf => ?_
    unfold c114
    refine LI_start wf ?_
    refine W ?_
    refine LS_snl rfl rfl false false (.inr ⟨_, _, _, _, rfl, rfl⟩) (.inl ⟨rfl, rfl⟩) ?_
    try (dsimp only [st, setL, AV.cells, List.set_cons_zero, List.set_cons_succ, List.drop_zero, List.drop_succ_cons, List.take_zero, List.take_succ_cons, Nat.zero_add, Nat.add_zero, Nat.reduceAdd, List.cons_append, List.nil_append, List.eraseIdx_cons_zero, List.eraseIdx_cons_succ])
    refine W ?_
    refine LS_lt ([] : List (Int × Int)) rfl rfl (by decide) rfl rfl rfl rfl enStep2 rfl rfl fun w1 h1 s1 => ?_
    try (dsimp only [st, setL, AV.cells, List.set_cons_zero, List.set_cons_succ, List.drop_zero, List.drop_succ_cons, List.take_zero, List.take_succ_cons, Nat.zero_add, Nat.add_zero, Nat.reduceAdd, List.cons_append, List.nil_append, List.eraseIdx_cons_zero, List.eraseIdx_cons_succ])
    refine W ?_
    refine LS_ap0 0 rfl (fun h' HL => hR.le HL.le) enStep2 (by decide) (by simp; omega) (by simp; omega) rfl rfl rfl fun w2 hw2 sw2 => ?_
    try (dsimp only [st, setL, AV.cells, List.set_cons_zero, List.set_cons_succ, List.drop_zero, List.drop_succ_cons, List.take_zero, List.take_succ_cons, Nat.zero_add, Nat.add_zero, Nat.reduceAdd, List.cons_append, List.nil_append, List.eraseIdx_cons_zero, List.eraseIdx_cons_succ])
    refine W ?_
    refine RET fun h' HL => ?_
    try dsimp only [oneA]
    exact HL.ownI 0 rfl enStep2 (by decide)

def stepM (a b : Int) : Int × Int := (if b < a then b else a, if b > a then b else a)

theorem step_ac (x y : Int) (h : AH) : AC Try.prog 116 [.i .i64 x, .i .i64 y] h (fun r h' => r = .agg (enStep (stepM x y)) ∧ h.le h') := by
  refine e116 _ _ fun wf => ?_
  unfold c116
  refine LI_start wf ?_
  refine W ?_
  refine LS_al rfl fun b1 => ?_
  try (dsimp only [st, setL, AV.cells, List.set_cons_zero, List.set_cons_succ, List.drop_zero, List.drop_succ_cons, List.take_zero, List.take_succ_cons, Nat.zero_add, Nat.add_zero, Nat.reduceAdd, List.cons_append, List.nil_append, List.eraseIdx_cons_zero, List.eraseIdx_cons_succ])
  refine W ?_
  refine RET fun h' HL => ?_
  try dsimp only [oneA]
  exact ⟨rfl, HL.le⟩

theorem plStep_ac (x y : Int) (h : AH) : AC Try.prog 111 [.i .i64 x, .i .i64 y] h (fun r h' => r = .agg (enStep (stepM x y)) ∧ h.le h') := by
  have e1 : (if x < y then x else y) = (if y < x then y else x) := by split <;> split <;> omega
  have e2 : (if y < x then x else y) = (if y > x then y else x) := by split <;> split <;> omega
  refine e111 _ _ fun wf => ?_
  unfold c111
  refine LI_start wf ?_
  refine W ?_
  refine LS_al rfl fun b1 => ?_
  try (dsimp only [st, setL, AV.cells, List.set_cons_zero, List.set_cons_succ, List.drop_zero, List.drop_succ_cons, List.take_zero, List.take_succ_cons, Nat.zero_add, Nat.add_zero, Nat.reduceAdd, List.cons_append, List.nil_append, List.eraseIdx_cons_zero, List.eraseIdx_cons_succ])
  refine W ?_
  refine LS_c0 (fun h' HL wf => l1Least_ac x y h') rfl rfl ?_
  try (dsimp only [st, setL, AV.cells, List.set_cons_zero, List.set_cons_succ, List.drop_zero, List.drop_succ_cons, List.take_zero, List.take_succ_cons, Nat.zero_add, Nat.add_zero, Nat.reduceAdd, List.cons_append, List.nil_append, List.eraseIdx_cons_zero, List.eraseIdx_cons_succ])
  refine W ?_
  refine LS_c0 (fun h' HL wf => l1Most_ac x y h') rfl rfl ?_
  try (dsimp only [st, setL, AV.cells, List.set_cons_zero, List.set_cons_succ, List.drop_zero, List.drop_succ_cons, List.take_zero, List.take_succ_cons, Nat.zero_add, Nat.add_zero, Nat.reduceAdd, List.cons_append, List.nil_append, List.eraseIdx_cons_zero, List.eraseIdx_cons_succ])
  refine W ?_
  refine RET fun h' HL => ?_
  try dsimp only [oneA]
  exact ⟨by rw [e1, e2]; rfl, HL.le⟩

theorem manyC_ac (n : Int) (k : Nat) (b : Nat) (vs : AV) (h : AH) (c0 : h.cell b 0 = some (.i .i64 n)) (c1 : h.cell b 1 = some vs) (hl : lenA vs = some k) (hb0 : -10 ≤ n) (hb1 : n ≤ 1048576) (hk : k ≤ 1048576) :
    AC Try.prog 115 [.p b 0] h (fun r h' => r = .i .i64 (n + k) ∧ h.le h') := by
  refine e115 _ fun wf => ?_
  unfold c115
  refine LI_start wf ?_
  refine W ?_
  refine dz115_0 ?_
  refine WX ?_
  refine W ?_
  refine RET fun h' HL => ?_
  try dsimp only [oneA]
  exact ⟨rfl, HL.le⟩

def zeroP : AV := .agg [.i .i64 0, .ns, .ns]

/-! ### Outputs folded -/
theorem LS_rm {P : Program} {h0 : AH} {L : List It} {Q : Exit → List AV → List It → Prop} {a : List AV} {l : List IOp} (k : Nat) (H : LS P h0 (L.eraseIdx k) l Q a) : LS P h0 L l Q a := LS_sub (List.eraseIdx_sublist L k) H

/-- A plan handed back, and whether. -/
def TupP (q : PlanM) (ok : Bool) (r : AV) (M : List It) : Prop := ∃ ws wo, r = .tup [.agg [.i .i64 q.n, ws, wo], .b ok] ∧ lenA ws = some q.steps.length ∧ ws.sc = true ∧ lenA wo = some q.outs.length ∧ wo.sc = true ∧ M = [.sl ws 2 (q.steps.flatMap enStep), .sl wo 1 (q.outs.flatMap enI)]

theorem TupP.none {h0 h : AH} {L : List It} (H : Loq h0 h L) : ∃ M, TupP emptyPlan false (.tup [zeroP, .b false]) M ∧ Loq h0 h M := ⟨_, ⟨.ns, .ns, rfl, rfl, rfl, rfl, rfl, rfl⟩, loq_ns (loq_ns (H.sub (List.nil_sublist _)) 1) 2⟩

def okS (ss : List (Int × Int)) : Prop := ∀ s ∈ ss, 0 ≤ s.1 ∧ s.1 ≤ 4096 ∧ 0 ≤ s.2 ∧ s.2 ≤ 4096

theorem stepM_bd {x y : Int} (h1 : 0 ≤ x ∧ x ≤ 4096) (h2 : 0 ≤ y ∧ y ≤ 4096) : 0 ≤ (stepM x y).1 ∧ (stepM x y).1 ≤ 4096 ∧ 0 ≤ (stepM x y).2 ∧ (stepM x y).2 ≤ 4096 := by
  unfold stepM
  refine ⟨?_, ?_, ?_, ?_⟩ <;> (dsimp only; split <;> omega)

theorem okS_plan {p : PlanM} (hk : planOk p = true) : okS p.steps := by
  obtain ⟨h1, h2, h3, h4, hf, h6⟩ := planOk_out hk
  intro s hs
  obtain ⟨i, hi⟩ := List.mem_iff_getElem?.1 hs
  have := formedS_get hf hi
  have := (List.getElem?_eq_some_iff.1 hi).1
  omega

theorem inI_of_bd {x : Int} (h : 0 ≤ x ∧ x ≤ 4096) : inI x := by unfold inI; omega

theorem psm_q {q : PlanM} (hn : 0 ≤ q.n ∧ q.n ≤ 4096) (hs : okS q.steps) (hl : q.steps.length ≤ 4096) (ho : ∀ v ∈ q.outs, 0 ≤ v ∧ v ≤ 4096) (hl2 : q.outs.length ≤ 4096) : PSm q :=
  ⟨⟨inI_of_bd hn, fun s h => ⟨inI_of_bd ⟨(hs s h).1, (hs s h).2.1⟩, inI_of_bd (hs s h).2.2⟩, fun v h => inI_of_bd (ho v h), by omega, by omega⟩, by omega, by omega⟩

/-! Plans that are held. -/
theorem heldStepSL_ac (n : Nat) (v : AV) (k : Int) (h : AH) (hR : RdG 2 enStep h v (markP k n)) (hk0 : 0 ≤ k) (hk1 : k + 2 * n ≤ 4611686018427387904) :
    AC Try.prog 72 [v, .i .i64 k] h (fun r h' => r = .i .i64 (k + 2 * n) ∧ h.le h') := by
  have hlen := hR.len
  rw [markP_len] at hlen
  refine e72 _ _ fun wf => ?_
  unfold c72
  refine LI_start wf ?_
  refine W ?_
  refine LIL_ind (fun m a L => ∃ (i kk : Int), (∃ r : Nat → AV, a = [v, .i .i64 kk, r 2, r 3, r 4, .i .i64 i, r 6, r 7, r 8, r 9, r 10, r 11, r 12, r 13, r 14, r 15, r 16, r 17, r 18, r 19, r 20, r 21, r 22, r 23, r 24, r 25, r 26, r 27, r 28, r 29, r 30]) ∧ L = [] ∧ 0 ≤ i ∧ i + m = n ∧ kk = k + 2 * i)
    n ⟨0, k, exJ rfl, rfl, by omega, by omega, by omega⟩ ?_
  rintro m a L ⟨i, kk, ⟨r, rfl⟩, rfl, h0', hn, rfl⟩ IH
  refine W ?_
  (first | refine LS_gt rfl ?_ ?_ | refine LS_gf rfl ?_ ?_ | refine LI_cond rfl ?_ ?_) <;> intro hc <;> have hc' := hc <;> try simp only [decide_eq_true_eq, decide_eq_false_iff_not, Bool.not_eq_true', Bool.not_eq_false', Bool.not_eq_true, Bool.not_eq_false, beq_iff_eq, bne_iff_ne, beq_eq_false_iff_ne, bne_eq_false_iff_eq, Int.not_lt, Int.not_le, ge_iff_le, gt_iff_lt, not_and, ne_eq, Decidable.not_not] at hc'
  all_goals (try (dsimp only [st, setL, AV.cells, List.set_cons_zero, List.set_cons_succ, List.drop_zero, List.drop_succ_cons, List.take_zero, List.take_succ_cons, Nat.zero_add, Nat.add_zero, Nat.reduceAdd, List.cons_append, List.nil_append, List.eraseIdx_cons_zero, List.eraseIdx_cons_succ]))
  all_goals (refine W ?_)
  · have hy := markP_get n k i.toNat (by omega)
    rw [show k + 2 * (i.toNat : Int) = k + 2 * i by omega] at hy
    refine LS_ix (fun h' HL => hR.le HL.le) enStep2 hy h0' rfl rfl fun b o hrow => ?_
    try (dsimp only [st, setL, AV.cells, List.set_cons_zero, List.set_cons_succ, List.drop_zero, List.drop_succ_cons, List.take_zero, List.take_succ_cons, Nat.zero_add, Nat.add_zero, Nat.reduceAdd, List.cons_append, List.nil_append, List.eraseIdx_cons_zero, List.eraseIdx_cons_succ])
    refine W ?_
    refine LS_lec (j := 0) (o := o) rfl hrow rfl rfl ?_
    try (dsimp only [st, setL, AV.cells, List.set_cons_zero, List.set_cons_succ, List.drop_zero, List.drop_succ_cons, List.take_zero, List.take_succ_cons, Nat.zero_add, Nat.add_zero, Nat.reduceAdd, List.cons_append, List.nil_append, List.eraseIdx_cons_zero, List.eraseIdx_cons_succ])
    refine W ?_
    first | (refine LS_gtnH rfl (by simp) ?_; intro hg; try (dsimp only [st, setL, AV.cells, List.set_cons_zero, List.set_cons_succ, List.drop_zero, List.drop_succ_cons, List.take_zero, List.take_succ_cons, Nat.zero_add, Nat.add_zero, Nat.reduceAdd, List.cons_append, List.nil_append, List.eraseIdx_cons_zero, List.eraseIdx_cons_succ])) | (refine LS_gfnH rfl (by simp) ?_; intro hg; try (dsimp only [st, setL, AV.cells, List.set_cons_zero, List.set_cons_succ, List.drop_zero, List.drop_succ_cons, List.take_zero, List.take_succ_cons, Nat.zero_add, Nat.add_zero, Nat.reduceAdd, List.cons_append, List.nil_append, List.eraseIdx_cons_zero, List.eraseIdx_cons_succ])) | (refine LI_cond_fH rfl (by simp) ?_; intro hg)
    refine W ?_
    refine LS_ix (fun h' HL => hR.le HL.le) enStep2 hy h0' rfl rfl fun b2 o2 hrow2 => ?_
    try (dsimp only [st, setL, AV.cells, List.set_cons_zero, List.set_cons_succ, List.drop_zero, List.drop_succ_cons, List.take_zero, List.take_succ_cons, Nat.zero_add, Nat.add_zero, Nat.reduceAdd, List.cons_append, List.nil_append, List.eraseIdx_cons_zero, List.eraseIdx_cons_succ])
    refine W ?_
    first | (refine LS_gtnH rfl (by simp) ?_; intro hg; try (dsimp only [st, setL, AV.cells, List.set_cons_zero, List.set_cons_succ, List.drop_zero, List.drop_succ_cons, List.take_zero, List.take_succ_cons, Nat.zero_add, Nat.add_zero, Nat.reduceAdd, List.cons_append, List.nil_append, List.eraseIdx_cons_zero, List.eraseIdx_cons_succ])) | (refine LS_gfnH rfl (by simp) ?_; intro hg; try (dsimp only [st, setL, AV.cells, List.set_cons_zero, List.set_cons_succ, List.drop_zero, List.drop_succ_cons, List.take_zero, List.take_succ_cons, Nat.zero_add, Nat.add_zero, Nat.reduceAdd, List.cons_append, List.nil_append, List.eraseIdx_cons_zero, List.eraseIdx_cons_succ])) | (refine LI_cond_fH rfl (by simp) ?_; intro hg)
    refine W ?_
    refine IH (m - 1) _ _ (by omega) ⟨i + 1, _, exJ rfl, rfl, by omega, by omega, by omega⟩
  · refine RET fun h' HL => ?_
    try dsimp only [oneA]
    exact ⟨by congr 1; omega, HL.le⟩

theorem heldPlan_ac (n1 n2 : Nat) (q : Int) (vs vo : AV) (k : Int) (h : AH) (hs : RdG 2 enStep h vs (markP k n1)) (ho : Rd h vo (markL (k + 2 * n1) n2)) (hk0 : 0 ≤ k) (hk1 : k + 2 * n1 + n2 ≤ 4611686018427387904) :
    AC Try.prog 26 [.agg [.i .i64 q, vs, vo], .i .i64 k] h (fun r h' => r = .i .i64 (k + 2 * n1 + n2) ∧ h.le h') := by
  refine e26 _ _ fun wf => ?_
  unfold c26
  refine LI_start wf ?_
  refine W ?_
  refine LS_bxn rfl (sc_cons rfl (sc_cons (rd_sc hs) (sc_cons (rd_sc ho) rfl))) fun b1 => ?_
  try (dsimp only [st, setL, AV.cells, List.set_cons_zero, List.set_cons_succ, List.drop_zero, List.drop_succ_cons, List.take_zero, List.take_succ_cons, Nat.zero_add, Nat.add_zero, Nat.reduceAdd, List.cons_append, List.nil_append, List.eraseIdx_cons_zero, List.eraseIdx_cons_succ])
  refine W ?_
  refine LS_c0 (fun h' HL wf => heldStepSL_ac n1 vs k h' (hs.le HL.le) hk0 (by omega)) rfl rfl ?_
  try (dsimp only [st, setL, AV.cells, List.set_cons_zero, List.set_cons_succ, List.drop_zero, List.drop_succ_cons, List.take_zero, List.take_succ_cons, Nat.zero_add, Nat.add_zero, Nat.reduceAdd, List.cons_append, List.nil_append, List.eraseIdx_cons_zero, List.eraseIdx_cons_succ])
  refine W ?_
  first | (refine LS_gtnH rfl (decide_eq_false (by omega)) ?_; intro hg; try (dsimp only [st, setL, AV.cells, List.set_cons_zero, List.set_cons_succ, List.drop_zero, List.drop_succ_cons, List.take_zero, List.take_succ_cons, Nat.zero_add, Nat.add_zero, Nat.reduceAdd, List.cons_append, List.nil_append, List.eraseIdx_cons_zero, List.eraseIdx_cons_succ])) | (refine LS_gfnH rfl (decide_eq_false (by omega)) ?_; intro hg; try (dsimp only [st, setL, AV.cells, List.set_cons_zero, List.set_cons_succ, List.drop_zero, List.drop_succ_cons, List.take_zero, List.take_succ_cons, Nat.zero_add, Nat.add_zero, Nat.reduceAdd, List.cons_append, List.nil_append, List.eraseIdx_cons_zero, List.eraseIdx_cons_succ])) | (refine LI_cond_fH rfl (decide_eq_false (by omega)) ?_; intro hg)
  refine W ?_
  refine LS_c0 (fun h' HL wf => heldIntSL_ac n2 vo _ h' (ho.le HL.le) (by omega) (by omega)) rfl rfl ?_
  try (dsimp only [st, setL, AV.cells, List.set_cons_zero, List.set_cons_succ, List.drop_zero, List.drop_succ_cons, List.take_zero, List.take_succ_cons, Nat.zero_add, Nat.add_zero, Nat.reduceAdd, List.cons_append, List.nil_append, List.eraseIdx_cons_zero, List.eraseIdx_cons_succ])
  refine W ?_
  first | (refine LS_gtnH rfl (decide_eq_false (by omega)) ?_; intro hg; try (dsimp only [st, setL, AV.cells, List.set_cons_zero, List.set_cons_succ, List.drop_zero, List.drop_succ_cons, List.take_zero, List.take_succ_cons, Nat.zero_add, Nat.add_zero, Nat.reduceAdd, List.cons_append, List.nil_append, List.eraseIdx_cons_zero, List.eraseIdx_cons_succ])) | (refine LS_gfnH rfl (decide_eq_false (by omega)) ?_; intro hg; try (dsimp only [st, setL, AV.cells, List.set_cons_zero, List.set_cons_succ, List.drop_zero, List.drop_succ_cons, List.take_zero, List.take_succ_cons, Nat.zero_add, Nat.add_zero, Nat.reduceAdd, List.cons_append, List.nil_append, List.eraseIdx_cons_zero, List.eraseIdx_cons_succ])) | (refine LI_cond_fH rfl (decide_eq_false (by omega)) ?_; intro hg)
  refine W ?_
  refine RET fun h' HL => ?_
  try dsimp only [oneA]
  exact ⟨rfl, HL.le⟩

theorem renamed_ac (l ix : List Int) (v w : AV) (h : AH) (hl : Rd h v l) (ho : Rd h w ix) (ho1 : ix.length ≤ 1048576) (hob : ∀ i ∈ ix, 0 ≤ i ∧ i < l.length) :
    AC Try.prog 83 [w, v] h (fun r h' => Own h 1 enI h' r (pickM l ix)) := by
  refine e83 _ _ fun wf => ?_
  unfold c83
  refine LI_start wf ?_
  refine W ?_
  refine LS_lt ([] : List Int) rfl rfl (by decide) rfl rfl rfl rfl enI1 rfl rfl fun lit3 hlit3 slit3 => ?_
  try (dsimp only [st, setL, AV.cells, List.set_cons_zero, List.set_cons_succ, List.drop_zero, List.drop_succ_cons, List.take_zero, List.take_succ_cons, Nat.zero_add, Nat.add_zero, Nat.reduceAdd, List.cons_append, List.nil_append, List.eraseIdx_cons_zero, List.eraseIdx_cons_succ])
  refine W ?_
  refine LIL_ind (fun n a L => ∃ (i : Int) (u : AV), (∃ r : Nat → AV, a = [r 0, v, r 2, r 3, r 4, u, r 6, r 7, r 8, w, .i .i64 ix.length, .i .i64 i, r 12, r 13, r 14, r 15, r 16, r 17, r 18, r 19, r 20, r 21, r 22, r 23]) ∧ L = [.sl u 1 ((pickM l (ix.take i.toNat)).flatMap enI)] ∧ 0 ≤ i ∧ i + n = ix.length)
    ix.length ⟨0, _, exJ rfl, rfl, by omega, by omega⟩ ?_
  rintro n a L ⟨i, u, ⟨r, rfl⟩, rfl, h0, hn⟩ IH
  have hel := pickM_len l (ix.take i.toNat)
  rw [List.length_take] at hel
  refine W ?_
  (first | refine LS_gt rfl ?_ ?_ | refine LS_gf rfl ?_ ?_ | refine LI_cond rfl ?_ ?_) <;> intro hc <;> have hc' := hc <;> try simp only [decide_eq_true_eq, decide_eq_false_iff_not, Bool.not_eq_true', Bool.not_eq_false', Bool.not_eq_true, Bool.not_eq_false, beq_iff_eq, bne_iff_ne, beq_eq_false_iff_ne, bne_eq_false_iff_eq, Int.not_lt, Int.not_le, ge_iff_le, gt_iff_lt, not_and, ne_eq, Decidable.not_not] at hc'
  all_goals (try (dsimp only [st, setL, AV.cells, List.set_cons_zero, List.set_cons_succ, List.drop_zero, List.drop_succ_cons, List.take_zero, List.take_succ_cons, Nat.zero_add, Nat.add_zero, Nat.reduceAdd, List.cons_append, List.nil_append, List.eraseIdx_cons_zero, List.eraseIdx_cons_succ]))
  all_goals (refine W ?_)
  · obtain ⟨y, hy, hym, hd⟩ := drop_at (l := ix) h0 hc'
    have hyb := hob y hym
    have l1 : y.toNat < l.length := by omega
    have g1 : l[y.toNat]? = some l[y.toNat] := List.getElem?_eq_getElem l1
    have e : pickM l (ix.take (i + 1).toNat) = pickM l (ix.take i.toNat) ++ [l[y.toNat]] := by
      rw [toNat_succ h0, take_snoc hy, pickM, List.filterMap_append]
      simp [g1, pickM]
    refine LS_ix (fun h' HL => ho.le HL.le) enI1 hy h0 rfl rfl fun q1 o1 hrow1 => ?_
    try (dsimp only [st, setL, AV.cells, List.set_cons_zero, List.set_cons_succ, List.drop_zero, List.drop_succ_cons, List.take_zero, List.take_succ_cons, Nat.zero_add, Nat.add_zero, Nat.reduceAdd, List.cons_append, List.nil_append, List.eraseIdx_cons_zero, List.eraseIdx_cons_succ])
    refine W ?_
    refine LS_ix (fun h' HL => hl.le HL.le) enI1 g1 hyb.1 rfl rfl fun q2 o2 hrow2 => ?_
    try (dsimp only [st, setL, AV.cells, List.set_cons_zero, List.set_cons_succ, List.drop_zero, List.drop_succ_cons, List.take_zero, List.take_succ_cons, Nat.zero_add, Nat.add_zero, Nat.reduceAdd, List.cons_append, List.nil_append, List.eraseIdx_cons_zero, List.eraseIdx_cons_succ])
    refine W ?_
    refine LS_lt [l[y.toNat]] rfl rfl (by decide) rfl rfl rfl rfl enI1 rfl rfl fun lit4 hlit4 slit4 => ?_
    try (dsimp only [st, setL, AV.cells, List.set_cons_zero, List.set_cons_succ, List.drop_zero, List.drop_succ_cons, List.take_zero, List.take_succ_cons, Nat.zero_add, Nat.add_zero, Nat.reduceAdd, List.cons_append, List.nil_append, List.eraseIdx_cons_zero, List.eraseIdx_cons_succ])
    refine W ?_
    refine LS_ap 1 rfl (fun h' HL => HL.rdI 0 rfl enI1 (by decide)) enI1 (by decide) (by simp) (by simp; omega) (by simp; omega) rfl rfl rfl fun w5 hw5 sw5 => ?_
    try (dsimp only [st, setL, AV.cells, List.set_cons_zero, List.set_cons_succ, List.drop_zero, List.drop_succ_cons, List.take_zero, List.take_succ_cons, Nat.zero_add, Nat.add_zero, Nat.reduceAdd, List.cons_append, List.nil_append, List.eraseIdx_cons_zero, List.eraseIdx_cons_succ])
    refine W ?_
    refine LIL_drop 1 ?_
    refine IH (n - 1) _ _ (by omega) ⟨i + 1, _, exJ rfl, by rw [e]; rfl, by omega, by omega⟩
  · have ei : i.toNat = ix.length := by omega
    rw [ei, List.take_length]
    refine RET fun h' HL => ?_
    try dsimp only [oneA]
    exact HL.ownI 0 rfl enI1 (by decide)

theorem ok_len {p : PlanM} {b : Bool} (h : b = true → planOk p = true) : (if b = true then p else emptyPlan).steps.length ≤ 1048576 ∧ (if b = true then p else emptyPlan).outs.length ≤ 1048576 := by
  split
  · rename_i e
    obtain ⟨h1, h2, h3, h4, hf, h6⟩ := planOk_out (h e)
    omega
  · exact ⟨by simp [emptyPlan], by simp [emptyPlan]⟩

/-! ### Plans cut in two -/
theorem plPlace_ac (l : List Int) (x : Int) (w : AV) (h : AH) (hR : Rd h w l) (hl : l.length ≤ 1048576) : AC Try.prog 147 [w, .i .i64 x] h (fun r h' => r = .i .i64 (idxFrom (fun y => y == x) l 0) ∧ h.le h') := by
  have hln := hR.len
  refine e147 _ _ fun wf => ?_
  unfold c147
  refine LI_start wf ?_
  refine W ?_
  refine LIL_ind (fun n a L => ∃ (i : Int), (∃ r : Nat → AV, a = [r 0, .i .i64 x, r 2, r 3, r 4, r 5, r 6, w, .i .i64 l.length, .i .i64 i, r 10, r 11, r 12, r 13, r 14, r 15, r 16, r 17, r 18]) ∧ L = [] ∧ 0 ≤ i ∧ i + n = l.length ∧ idxFrom (fun y => y == x) l 0 = idxFrom (fun y => y == x) (l.drop i.toNat) i)
    l.length ⟨0, exJ rfl, rfl, by omega, by omega, rfl⟩ ?_
  rintro n a L ⟨i, ⟨r, rfl⟩, rfl, hi0, hn, heq⟩ IH
  refine W ?_
  (first | refine LS_gt rfl ?_ ?_ | refine LS_gf rfl ?_ ?_ | refine LI_cond rfl ?_ ?_) <;> intro hc <;> have hc' := hc <;> try simp only [decide_eq_true_eq, decide_eq_false_iff_not, Bool.not_eq_true', Bool.not_eq_false', Bool.not_eq_true, Bool.not_eq_false, beq_iff_eq, bne_iff_ne, beq_eq_false_iff_ne, bne_eq_false_iff_eq, Int.not_lt, Int.not_le, ge_iff_le, gt_iff_lt, not_and, ne_eq, Decidable.not_not] at hc'
  all_goals (try (dsimp only [st, setL, AV.cells, List.set_cons_zero, List.set_cons_succ, List.drop_zero, List.drop_succ_cons, List.take_zero, List.take_succ_cons, Nat.zero_add, Nat.add_zero, Nat.reduceAdd, List.cons_append, List.nil_append, List.eraseIdx_cons_zero, List.eraseIdx_cons_succ]))
  all_goals (refine W ?_)
  · obtain ⟨y, hy, hym, hd⟩ := drop_at (l := l) hi0 hc'
    rw [hd, idxFrom] at heq
    refine LS_ix (fun h' HL => hR.le HL.le) enI1 hy hi0 rfl rfl fun q1 o1 hrow1 => ?_
    try (dsimp only [st, setL, AV.cells, List.set_cons_zero, List.set_cons_succ, List.drop_zero, List.drop_succ_cons, List.take_zero, List.take_succ_cons, Nat.zero_add, Nat.add_zero, Nat.reduceAdd, List.cons_append, List.nil_append, List.eraseIdx_cons_zero, List.eraseIdx_cons_succ])
    refine W ?_
    (first | refine LS_gt rfl ?_ ?_ | refine LS_gf rfl ?_ ?_ | refine LI_cond rfl ?_ ?_) <;> intro hc <;> have hc' := hc <;> try simp only [decide_eq_true_eq, decide_eq_false_iff_not, Bool.not_eq_true', Bool.not_eq_false', Bool.not_eq_true, Bool.not_eq_false, beq_iff_eq, bne_iff_ne, beq_eq_false_iff_ne, bne_eq_false_iff_eq, Int.not_lt, Int.not_le, ge_iff_le, gt_iff_lt, not_and, ne_eq, Decidable.not_not] at hc'
    all_goals (try (dsimp only [st, setL, AV.cells, List.set_cons_zero, List.set_cons_succ, List.drop_zero, List.drop_succ_cons, List.take_zero, List.take_succ_cons, Nat.zero_add, Nat.add_zero, Nat.reduceAdd, List.cons_append, List.nil_append, List.eraseIdx_cons_zero, List.eraseIdx_cons_succ]))
    all_goals (refine W ?_)
    · rw [if_pos hc] at heq
      refine RET fun h' HL => ?_
      try dsimp only [oneA]
      exact ⟨by rw [heq], HL.le⟩
    · rw [if_neg (by rw [show (y == x) = false from hc]; simp)] at heq
      refine IH (n - 1) _ _ (by omega) ⟨i + 1, exJ rfl, rfl, by omega, by omega, by rw [toNat_succ hi0]; exact heq⟩
  · rw [List.drop_eq_nil_of_le (by omega), idxFrom] at heq
    refine RET fun h' HL => ?_
    try dsimp only [oneA]
    exact ⟨by rw [heq], HL.le⟩

def laterM (p : PlanM) (k x : Int) : Int := if x < p.n + k then idxFrom (fun y => y == x) (liveM p k) 0 else (liveM p k).length + x - p.n - k

theorem idx_at : ∀ {l : List Int} {j : Nat} {x : Int} (i : Int), l.Pairwise (· < ·) → l[j]? = some x → idxFrom (fun y => y == x) l i = i + j
  | [], j, x, i, _, h => by simp at h
  | y :: l, 0, x, i, hp, h => by
    simp at h
    rw [idxFrom, h, if_pos (by simp)]; omega
  | y :: l, j + 1, x, i, hp, h => by
    have hp' := List.pairwise_cons.1 hp
    have hm : x ∈ l := List.mem_of_getElem? (by simpa using h)
    have hlt := hp'.1 x hm
    rw [idxFrom, if_neg (by simp; omega), idx_at (i + 1) hp'.2 (by simpa using h)]
    omega

theorem liveM_si (p : PlanM) (k : Int) : (liveM p k).Pairwise (· < ·) := List.Pairwise.filter _ (iotaI_si _)

theorem liveM_mem {p : PlanM} {k x : Int} (hx : x ∈ usedL p k.toNat) (h0 : 0 ≤ x) (h1 : x < p.n + k) : x ∈ liveM p k := by
  unfold liveM
  rw [List.mem_filter]
  exact ⟨(iotaI_mem _ _).2 ⟨h0, by omega⟩, decide_eq_true hx⟩

theorem later_bd {p : PlanM} (hk : planOk p = true) {k x : Int} (hk0 : 0 ≤ k) (hk1 : k ≤ p.steps.length) (hx : x ∈ usedL p k.toNat) : 0 ≤ laterM p k x ∧ laterM p k x ≤ 200 := by
  obtain ⟨h1, h2, h3, h4, hf, h6⟩ := planOk_out hk
  have hb := used_bd hk hx
  have hll := liveM_len p k
  unfold laterM
  split
  · obtain ⟨j, hj⟩ := List.mem_iff_getElem?.1 (liveM_mem hx hb.1 (by assumption))
    have := (List.getElem?_eq_some_iff.1 hj).1
    rw [idx_at 0 (liveM_si p k) hj]
    omega
  · omega

def splitA (p : PlanM) (k : Int) : PlanM := ⟨p.n, p.steps.take k.toNat, liveM p k⟩

def laterS (p : PlanM) (k : Int) (s : Int × Int) : Int × Int := stepM (laterM p k s.1) (laterM p k s.2)

def splitB (p : PlanM) (k : Int) : PlanM := ⟨(liveM p k).length, (p.steps.drop k.toNat).map (laterS p k), p.outs.map (laterM p k)⟩

theorem duLater_ac (p : PlanM) (k x : Int) (v w : AV) (h : AH) (hR : PlR h v p) (hL : Rd h w (liveM p k)) (hk : planOk p = true) (hk0 : 0 ≤ k) (hk1 : k ≤ p.steps.length) (hx0 : 0 ≤ x) (hx1 : x ≤ 4096) :
    AC Try.prog 112 [v, .i .i64 k, w, .i .i64 x] h (fun r h' => r = .i .i64 (laterM p k x) ∧ h.le h') := by
  obtain ⟨vs, vo, rfl, hs, ho⟩ := hR
  obtain ⟨h1, h2, h3, h4, hf, h6⟩ := planOk_out hk
  have hll := liveM_len p k
  have hln := hL.len
  refine e112 _ _ _ _ fun wf => ?_
  unfold c112
  refine LI_start wf ?_
  refine W ?_
  refine LS_bxn rfl (sc_cons rfl (sc_cons (rd_sc hs) (sc_cons (rd_sc ho) rfl))) fun b1 => ?_
  try (dsimp only [st, setL, AV.cells, List.set_cons_zero, List.set_cons_succ, List.drop_zero, List.drop_succ_cons, List.take_zero, List.take_succ_cons, Nat.zero_add, Nat.add_zero, Nat.reduceAdd, List.cons_append, List.nil_append, List.eraseIdx_cons_zero, List.eraseIdx_cons_succ])
  refine W ?_
  (first | refine LS_gt rfl ?_ ?_ | refine LS_gf rfl ?_ ?_ | refine LI_cond rfl ?_ ?_) <;> intro hc <;> have hc' := hc <;> try simp only [decide_eq_true_eq, decide_eq_false_iff_not, Bool.not_eq_true', Bool.not_eq_false', Bool.not_eq_true, Bool.not_eq_false, beq_iff_eq, bne_iff_ne, beq_eq_false_iff_ne, bne_eq_false_iff_eq, Int.not_lt, Int.not_le, ge_iff_le, gt_iff_lt, not_and, ne_eq, Decidable.not_not] at hc'
  all_goals (try (dsimp only [st, setL, AV.cells, List.set_cons_zero, List.set_cons_succ, List.drop_zero, List.drop_succ_cons, List.take_zero, List.take_succ_cons, Nat.zero_add, Nat.add_zero, Nat.reduceAdd, List.cons_append, List.nil_append, List.eraseIdx_cons_zero, List.eraseIdx_cons_succ]))
  all_goals (refine W ?_)
  · rw [laterM, if_pos hc']
    refine LS_c0 (fun h' HL wf => plPlace_ac (liveM p k) x w h' (hL.le HL.le) (by omega)) rfl rfl ?_
    try (dsimp only [st, setL, AV.cells, List.set_cons_zero, List.set_cons_succ, List.drop_zero, List.drop_succ_cons, List.take_zero, List.take_succ_cons, Nat.zero_add, Nat.add_zero, Nat.reduceAdd, List.cons_append, List.nil_append, List.eraseIdx_cons_zero, List.eraseIdx_cons_succ])
    refine W ?_
    refine RET fun h' HL => ?_
    try dsimp only [oneA]
    exact ⟨rfl, HL.le⟩
  · rw [laterM, if_neg (by omega)]
    refine RET fun h' HL => ?_
    try dsimp only [oneA]
    exact ⟨rfl, HL.le⟩

def splOk (p : PlanM) (k : Int) : Bool := planOk p && (decide (0 ≤ k ∧ k ≤ (p.steps.length : Int)) && (planOk (splitA p k) && planOk (splitB p k)))

def splA (p : PlanM) (k : Int) : PlanM := if splOk p k = true then splitA p k else emptyPlan

def splB (p : PlanM) (k : Int) : PlanM := if splOk p k = true then splitB p k else emptyPlan

def TupPP (q1 q2 : PlanM) (ok : Bool) (r : AV) (M : List It) : Prop := ∃ ws wo xs xo, r = .tup [.agg [.i .i64 q1.n, ws, wo], .agg [.i .i64 q2.n, xs, xo], .b ok] ∧ (lenA ws = some q1.steps.length ∧ ws.sc = true ∧ lenA wo = some q1.outs.length ∧ wo.sc = true) ∧ (lenA xs = some q2.steps.length ∧ xs.sc = true ∧ lenA xo = some q2.outs.length ∧ xo.sc = true) ∧ M = [.sl ws 2 (q1.steps.flatMap enStep), .sl wo 1 (q1.outs.flatMap enI), .sl xs 2 (q2.steps.flatMap enStep), .sl xo 1 (q2.outs.flatMap enI)]

theorem TupPP.none {h0 h : AH} {L : List It} (H : Loq h0 h L) : ∃ M, TupPP emptyPlan emptyPlan false (.tup [zeroP, zeroP, .b false]) M ∧ Loq h0 h M := ⟨_, ⟨.ns, .ns, .ns, .ns, rfl, ⟨rfl, rfl, rfl, rfl⟩, ⟨rfl, rfl, rfl, rfl⟩, rfl⟩, loq_ns (loq_ns (loq_ns (loq_ns (H.sub (List.nil_sublist _)) 1) 2) 1) 2⟩

theorem psm_A {p : PlanM} (hk : planOk p = true) {k : Int} (hk0 : 0 ≤ k) (hk1 : k ≤ p.steps.length) : PSm (splitA p k) := by
  obtain ⟨h1, h2, h3, h4, hf, h6⟩ := planOk_out hk
  have hll := liveM_len p k
  refine psm_q (q := splitA p k) (by show 0 ≤ p.n ∧ p.n ≤ 4096; omega) (fun s hs => okS_plan hk s (List.mem_of_mem_take hs)) (by show (p.steps.take k.toNat).length ≤ 4096; simp; omega) (fun v hv => ?_) (by show (liveM p k).length ≤ 4096; omega)
  have := (iotaI_mem _ _).1 (List.mem_filter.1 hv).1
  omega

theorem psm_B {p : PlanM} (hk : planOk p = true) {k : Int} (hk0 : 0 ≤ k) (hk1 : k ≤ p.steps.length) : PSm (splitB p k) := by
  obtain ⟨h1, h2, h3, h4, hf, h6⟩ := planOk_out hk
  have hll := liveM_len p k
  refine psm_q (q := splitB p k) (by show 0 ≤ ((liveM p k).length : Int) ∧ ((liveM p k).length : Int) ≤ 4096; omega) (fun s hs => ?_) (by show ((p.steps.drop k.toNat).map (laterS p k)).length ≤ 4096; simp; omega) (fun v hv => ?_) (by show (p.outs.map (laterM p k)).length ≤ 4096; simp; omega)
  · obtain ⟨t, ht, rfl⟩ := List.mem_map.1 hs
    have b1 := later_bd hk hk0 hk1 (x := t.1) (List.mem_append_left _ (List.mem_flatMap.2 ⟨t, ht, by simp⟩))
    have b2 := later_bd hk hk0 hk1 (x := t.2) (List.mem_append_left _ (List.mem_flatMap.2 ⟨t, ht, by simp⟩))
    exact stepM_bd ⟨b1.1, by omega⟩ ⟨b2.1, by omega⟩
  · obtain ⟨t, ht, rfl⟩ := List.mem_map.1 hv
    have b1 := later_bd hk hk0 hk1 (x := t) (List.mem_append_right _ ht)
    omega

/-! ### Plans cut in two: the reference -/
theorem splNone {p : PlanM} {k : Int} (hx : splOk p k = false) : splA p k = emptyPlan ∧ splB p k = emptyPlan := ⟨by rw [splA, hx, if_neg (by simp)], by rw [splB, hx, if_neg (by simp)]⟩

theorem specSplit_ac (p : PlanM) (k : Int) (v : AV) (h : AH) (hR : PlR h v p) (hw : PSm p) : AC Try.prog 47 [v, .i .i64 k] h (fun r h' => ∃ M, TupPP (splA p k) (splB p k) (splOk p k) r M ∧ Loq h h' M) := by
  have hR0 := hR
  obtain ⟨vs, vo, rfl, hs, ho⟩ := hR
  have hsl := hs.len
  have hol := ho.len
  refine e47 _ _ fun wf => ?_
  unfold c47
  refine LI_start wf ?_
  refine W ?_
  refine LS_bxn rfl (sc_cons rfl (sc_cons (rd_sc hs) (sc_cons (rd_sc ho) rfl))) fun b2 => ?_
  try (dsimp only [st, setL, AV.cells, List.set_cons_zero, List.set_cons_succ, List.drop_zero, List.drop_succ_cons, List.take_zero, List.take_succ_cons, Nat.zero_add, Nat.add_zero, Nat.reduceAdd, List.cons_append, List.nil_append, List.eraseIdx_cons_zero, List.eraseIdx_cons_succ])
  refine W ?_
  refine LS_al rfl fun b4 => ?_
  try (dsimp only [st, setL, AV.cells, List.set_cons_zero, List.set_cons_succ, List.drop_zero, List.drop_succ_cons, List.take_zero, List.take_succ_cons, Nat.zero_add, Nat.add_zero, Nat.reduceAdd, List.cons_append, List.nil_append, List.eraseIdx_cons_zero, List.eraseIdx_cons_succ])
  refine W ?_
  refine LS_al rfl fun b5 => ?_
  try (dsimp only [st, setL, AV.cells, List.set_cons_zero, List.set_cons_succ, List.drop_zero, List.drop_succ_cons, List.take_zero, List.take_succ_cons, Nat.zero_add, Nat.add_zero, Nat.reduceAdd, List.cons_append, List.nil_append, List.eraseIdx_cons_zero, List.eraseIdx_cons_succ])
  refine W ?_
  refine LS_c0 (fun h' HL wf => good_ac p _ h' (hR0.le HL.le) hw) rfl rfl ?_
  try (dsimp only [st, setL, AV.cells, List.set_cons_zero, List.set_cons_succ, List.drop_zero, List.drop_succ_cons, List.take_zero, List.take_succ_cons, Nat.zero_add, Nat.add_zero, Nat.reduceAdd, List.cons_append, List.nil_append, List.eraseIdx_cons_zero, List.eraseIdx_cons_succ])
  refine W ?_
  cases hk : planOk p
  · have hx : splOk p k = false := by rw [splOk, hk]; rfl
    rw [(splNone hx).1, (splNone hx).2, hx]
    refine W ?_
    refine RET fun h' HL => ?_
    try dsimp only [oneA]
    exact TupPP.none HL
  refine W ?_
  refine LS_c0' (fun h' HL wf => l1In_ac k 0 p.steps.length h') rfl rfl ?_
  try (dsimp only [st, setL, AV.cells, List.set_cons_zero, List.set_cons_succ, List.drop_zero, List.drop_succ_cons, List.take_zero, List.take_succ_cons, Nat.zero_add, Nat.add_zero, Nat.reduceAdd, List.cons_append, List.nil_append, List.eraseIdx_cons_zero, List.eraseIdx_cons_succ])
  refine W ?_
  cases e2 : decide (0 ≤ k ∧ k ≤ (p.steps.length : Int))
  · have hx : splOk p k = false := by rw [splOk, hk, e2]; rfl
    rw [(splNone hx).1, (splNone hx).2, hx]
    refine W ?_
    refine RET fun h' HL => ?_
    try dsimp only [oneA]
    exact TupPP.none HL
  refine W ?_
  obtain ⟨hk0, hk1⟩ := of_decide_eq_true e2
  obtain ⟨h1, h2, h3, h4, hf, h6⟩ := planOk_out hk
  have hll := liveM_len p k
  have hpA := psm_A hk hk0 hk1
  have hpB := psm_B hk hk0 hk1
  have hsb := okS_plan hk
  refine LS_co (fun h' HL wf => duLive_ac p k _ h' (hR0.le HL.le) hk hk0 hk1) enI1 rfl rfl fun w7 hw7 sw7 => ?_
  try (dsimp only [st, setL, AV.cells, List.set_cons_zero, List.set_cons_succ, List.drop_zero, List.drop_succ_cons, List.take_zero, List.take_succ_cons, Nat.zero_add, Nat.add_zero, Nat.reduceAdd, List.cons_append, List.nil_append, List.eraseIdx_cons_zero, List.eraseIdx_cons_succ])
  refine W ?_
  refine LI_post (fun a L => ∃ (b8 : Nat) (w37 w39 : AV), (∃ r : Nat → AV, a = [r 0, .i .i64 k, .p b2 0, r 3, .p b4 0, .p b5 0, r 6, w7, .p b8 0, r 9, r 10, r 11, r 12, r 13, r 14, r 15, r 16, r 17, r 18, r 19, r 20, r 21, r 22, r 23, r 24, r 25, r 26, r 27, r 28, r 29, r 30, r 31, r 32, r 33, r 34, r 35, r 36, r 37, r 38, r 39, r 40, r 41, r 42, r 43, r 44, r 45, r 46, r 47, r 48, r 49, r 50, r 51, r 52, r 53, r 54, r 55, r 56, r 57, r 58, r 59, r 60, r 61, r 62, r 63, r 64, r 65, r 66, r 67, r 68, r 69, r 70, r 71, r 72, r 73, r 74, r 75, r 76, r 77, r 78, r 79, r 80, r 81, r 82, r 83, r 84, r 85, r 86, r 87, r 88, r 89, r 90, r 91, r 92, r 93, r 94, r 95, r 96, r 97, r 98, r 99, r 100, r 101]) ∧ lenA w37 = some (p.steps.take k.toNat).length ∧ w37.sc = true ∧ lenA w39 = some (liveM p k).length ∧ w39.sc = true ∧ ∀ h', Loq h h' L → Loq h h' [.pt b8 [.i .i64 p.n, w37, w39], .sl w37 2 ((p.steps.take k.toNat).flatMap enStep), .sl w39 1 ((liveM p k).flatMap enI), .sl w7 1 ((liveM p k).flatMap enI), .pt b5 [.i .i64 0, .ns, .ns], .pt b4 [.i .i64 0, .ns, .ns], .pt b2 [.i .i64 p.n, vs, vo]]) ?_ ?_
  · refine dk47_0 [(b2, [.i .i64 p.n, vs, vo])] (by simp) ?_
    refine WX ?_
    refine LX_k 0 noG rfl rfl rfl rfl ?_
    try (dsimp only [st, setL, AV.cells, List.set_cons_zero, List.set_cons_succ, List.drop_zero, List.drop_succ_cons, List.take_zero, List.take_succ_cons, Nat.zero_add, Nat.add_zero, Nat.reduceAdd, List.cons_append, List.nil_append, List.eraseIdx_cons_zero, List.eraseIdx_cons_succ])
    refine WX ?_
    refine W ?_
    refine LX_sz (u := k.toNat) (q := 0) (fun h' HL => hs.le HL.le) enStep2 (.inl ⟨rfl, rfl⟩) (.inr ⟨_, _, _, rfl, rfl, by omega, rfl⟩) (by omega) (by omega) rfl noG fun w6 hw6 sw6 rw6 => ?_
    try (dsimp only [st, setL, AV.cells, List.set_cons_zero, List.set_cons_succ, List.drop_zero, List.drop_succ_cons, List.take_zero, List.take_succ_cons, Nat.zero_add, Nat.add_zero, Nat.reduceAdd, List.cons_append, List.nil_append, List.eraseIdx_cons_zero, List.eraseIdx_cons_succ])
    refine WX ?_
    refine W ?_
    refine LX_two ?_ ?_
    · refine WX ?_
      refine LX_lt ([] : List (Int × Int)) rfl rfl (by decide) rfl rfl rfl rfl enStep2 rfl rfl noG fun w1 hw1 sw1 => ?_
      try (dsimp only [st, setL, AV.cells, List.set_cons_zero, List.set_cons_succ, List.drop_zero, List.drop_succ_cons, List.take_zero, List.take_succ_cons, Nat.zero_add, Nat.add_zero, Nat.reduceAdd, List.cons_append, List.nil_append, List.eraseIdx_cons_zero, List.eraseIdx_cons_succ])
      refine WX ?_
      refine W ?_
      refine LX_two ?_ ?_
      · refine WX ?_
        refine LX_fK noG (LO_ap0 0 rfl (fun h' HL => rw6 h' (hs.le HL.le)) enStep2 (by decide) (by simp; omega) (by simp; omega) rfl rfl rfl fun w2 hw2 sw2 => ⟨by simp, ?_⟩)
        try (dsimp only [st, setL, AV.cells, List.set_cons_zero, List.set_cons_succ, List.drop_zero, List.drop_succ_cons, List.take_zero, List.take_succ_cons, Nat.zero_add, Nat.add_zero, Nat.reduceAdd, List.cons_append, List.nil_append, List.eraseIdx_cons_zero, List.eraseIdx_cons_succ])
        refine WX ?_
        refine W ?_
        refine LX_two ?_ ?_
        · refine WX ?_
          refine LX_co (fun h' HL wf => l1Own_ac (liveM p k) w7 h'.frz (HL.rdI 1 rfl enI1 (by decide)).frz (by omega)) enI1 rfl rfl noG fun w3 hw3 sw3 => ?_
          try (dsimp only [st, setL, AV.cells, List.set_cons_zero, List.set_cons_succ, List.drop_zero, List.drop_succ_cons, List.take_zero, List.take_succ_cons, Nat.zero_add, Nat.add_zero, Nat.reduceAdd, List.cons_append, List.nil_append, List.eraseIdx_cons_zero, List.eraseIdx_cons_succ])
          refine WX ?_
          refine W ?_
          refine LX_al (by rfl) noG fun b8 => ?_
          try (dsimp only [st, setL, AV.cells, List.set_cons_zero, List.set_cons_succ, List.drop_zero, List.drop_succ_cons, List.take_zero, List.take_succ_cons, Nat.zero_add, Nat.add_zero, Nat.reduceAdd, List.cons_append, List.nil_append, List.eraseIdx_cons_zero, List.eraseIdx_cons_succ])
          refine WX ?_
          refine W ?_
          refine LX_fK noG (LO_sn 0 rfl rfl rfl (by exact sc_cons rfl (sc_cons sw2 (sc_cons sw3 rfl))) rfl rfl ⟨by simp, ?_⟩)
          try (dsimp only [st, setL, AV.cells, List.set_cons_zero, List.set_cons_succ, List.drop_zero, List.drop_succ_cons, List.take_zero, List.take_succ_cons, Nat.zero_add, Nat.add_zero, Nat.reduceAdd, List.cons_append, List.nil_append, List.eraseIdx_cons_zero, List.eraseIdx_cons_succ])
          refine WX ?_
          refine W ?_
          exact ⟨rfl, _, _, _, exJ rfl, by simpa using hw2, sw2, hw3, sw3, fun h' HL => HL.sel [0, 2, 1, 3, 4, 5, 6] (by decide)⟩
        · refine WX ?_
          refine LX_al (by rfl) noG fun b8 => ?_
          try (dsimp only [st, setL, AV.cells, List.set_cons_zero, List.set_cons_succ, List.drop_zero, List.drop_succ_cons, List.take_zero, List.take_succ_cons, Nat.zero_add, Nat.add_zero, Nat.reduceAdd, List.cons_append, List.nil_append, List.eraseIdx_cons_zero, List.eraseIdx_cons_succ])
          refine WX ?_
          refine W ?_
          refine LX_co (fun h' HL wf => l1Own_ac (liveM p k) w7 h'.frz (HL.rdI 2 rfl enI1 (by decide)).frz (by omega)) enI1 rfl rfl noG fun w3 hw3 sw3 => ?_
          try (dsimp only [st, setL, AV.cells, List.set_cons_zero, List.set_cons_succ, List.drop_zero, List.drop_succ_cons, List.take_zero, List.take_succ_cons, Nat.zero_add, Nat.add_zero, Nat.reduceAdd, List.cons_append, List.nil_append, List.eraseIdx_cons_zero, List.eraseIdx_cons_succ])
          refine WX ?_
          refine W ?_
          refine LX_fK noG (LO_sn 1 rfl rfl rfl (by exact sc_cons rfl (sc_cons sw2 (sc_cons sw3 rfl))) rfl rfl ⟨by simp, ?_⟩)
          try (dsimp only [st, setL, AV.cells, List.set_cons_zero, List.set_cons_succ, List.drop_zero, List.drop_succ_cons, List.take_zero, List.take_succ_cons, Nat.zero_add, Nat.add_zero, Nat.reduceAdd, List.cons_append, List.nil_append, List.eraseIdx_cons_zero, List.eraseIdx_cons_succ])
          refine WX ?_
          refine W ?_
          exact ⟨rfl, _, _, _, exJ rfl, by simpa using hw2, sw2, hw3, sw3, fun h' HL => HL.sel [1, 2, 0, 3, 4, 5, 6] (by decide)⟩
      · refine WX ?_
        refine LX_al (by rfl) noG fun b8 => ?_
        try (dsimp only [st, setL, AV.cells, List.set_cons_zero, List.set_cons_succ, List.drop_zero, List.drop_succ_cons, List.take_zero, List.take_succ_cons, Nat.zero_add, Nat.add_zero, Nat.reduceAdd, List.cons_append, List.nil_append, List.eraseIdx_cons_zero, List.eraseIdx_cons_succ])
        refine WX ?_
        refine W ?_
        refine LX_fK noG (LO_ap0 1 rfl (fun h' HL => rw6 h' (hs.le HL.le)) enStep2 (by decide) (by simp; omega) (by simp; omega) rfl rfl rfl fun w2 hw2 sw2 => ⟨by simp, ?_⟩)
        try (dsimp only [st, setL, AV.cells, List.set_cons_zero, List.set_cons_succ, List.drop_zero, List.drop_succ_cons, List.take_zero, List.take_succ_cons, Nat.zero_add, Nat.add_zero, Nat.reduceAdd, List.cons_append, List.nil_append, List.eraseIdx_cons_zero, List.eraseIdx_cons_succ])
        refine WX ?_
        refine W ?_
        refine LX_co (fun h' HL wf => l1Own_ac (liveM p k) w7 h'.frz (HL.rdI 2 rfl enI1 (by decide)).frz (by omega)) enI1 rfl rfl noG fun w3 hw3 sw3 => ?_
        try (dsimp only [st, setL, AV.cells, List.set_cons_zero, List.set_cons_succ, List.drop_zero, List.drop_succ_cons, List.take_zero, List.take_succ_cons, Nat.zero_add, Nat.add_zero, Nat.reduceAdd, List.cons_append, List.nil_append, List.eraseIdx_cons_zero, List.eraseIdx_cons_succ])
        refine WX ?_
        refine W ?_
        refine LX_fK noG (LO_sn 1 rfl rfl rfl (by exact sc_cons rfl (sc_cons sw2 (sc_cons sw3 rfl))) rfl rfl ⟨by simp, ?_⟩)
        try (dsimp only [st, setL, AV.cells, List.set_cons_zero, List.set_cons_succ, List.drop_zero, List.drop_succ_cons, List.take_zero, List.take_succ_cons, Nat.zero_add, Nat.add_zero, Nat.reduceAdd, List.cons_append, List.nil_append, List.eraseIdx_cons_zero, List.eraseIdx_cons_succ])
        refine WX ?_
        refine W ?_
        exact ⟨rfl, _, _, _, exJ rfl, by simpa using hw2, sw2, hw3, sw3, fun h' HL => HL.sel [1, 2, 0, 3, 4, 5, 6] (by decide)⟩
    · refine WX ?_
      refine LX_al (by rfl) noG fun b8 => ?_
      try (dsimp only [st, setL, AV.cells, List.set_cons_zero, List.set_cons_succ, List.drop_zero, List.drop_succ_cons, List.take_zero, List.take_succ_cons, Nat.zero_add, Nat.add_zero, Nat.reduceAdd, List.cons_append, List.nil_append, List.eraseIdx_cons_zero, List.eraseIdx_cons_succ])
      refine WX ?_
      refine W ?_
      refine LX_lt ([] : List (Int × Int)) rfl rfl (by decide) rfl rfl rfl rfl enStep2 rfl rfl noG fun w1 hw1 sw1 => ?_
      try (dsimp only [st, setL, AV.cells, List.set_cons_zero, List.set_cons_succ, List.drop_zero, List.drop_succ_cons, List.take_zero, List.take_succ_cons, Nat.zero_add, Nat.add_zero, Nat.reduceAdd, List.cons_append, List.nil_append, List.eraseIdx_cons_zero, List.eraseIdx_cons_succ])
      refine WX ?_
      refine W ?_
      refine LX_fK noG (LO_ap0 0 rfl (fun h' HL => rw6 h' (hs.le HL.le)) enStep2 (by decide) (by simp; omega) (by simp; omega) rfl rfl rfl fun w2 hw2 sw2 => ⟨by simp, ?_⟩)
      try (dsimp only [st, setL, AV.cells, List.set_cons_zero, List.set_cons_succ, List.drop_zero, List.drop_succ_cons, List.take_zero, List.take_succ_cons, Nat.zero_add, Nat.add_zero, Nat.reduceAdd, List.cons_append, List.nil_append, List.eraseIdx_cons_zero, List.eraseIdx_cons_succ])
      refine WX ?_
      refine W ?_
      refine LX_co (fun h' HL wf => l1Own_ac (liveM p k) w7 h'.frz (HL.rdI 2 rfl enI1 (by decide)).frz (by omega)) enI1 rfl rfl noG fun w3 hw3 sw3 => ?_
      try (dsimp only [st, setL, AV.cells, List.set_cons_zero, List.set_cons_succ, List.drop_zero, List.drop_succ_cons, List.take_zero, List.take_succ_cons, Nat.zero_add, Nat.add_zero, Nat.reduceAdd, List.cons_append, List.nil_append, List.eraseIdx_cons_zero, List.eraseIdx_cons_succ])
      refine WX ?_
      refine W ?_
      refine LX_fK noG (LO_sn 2 rfl rfl rfl (by exact sc_cons rfl (sc_cons sw2 (sc_cons sw3 rfl))) rfl rfl ⟨by simp, ?_⟩)
      try (dsimp only [st, setL, AV.cells, List.set_cons_zero, List.set_cons_succ, List.drop_zero, List.drop_succ_cons, List.take_zero, List.take_succ_cons, Nat.zero_add, Nat.add_zero, Nat.reduceAdd, List.cons_append, List.nil_append, List.eraseIdx_cons_zero, List.eraseIdx_cons_succ])
      refine WX ?_
      refine W ?_
      exact ⟨rfl, _, _, _, exJ rfl, by simpa using hw2, sw2, hw3, sw3, fun h' HL => HL.sel [2, 1, 0, 3, 4, 5, 6] (by decide)⟩
  · rintro _ L ⟨b8, w37, w39, ⟨r, rfl⟩, l37, s37, l39, s39, hL⟩
    refine LThen_n ?_
    refine LI_conv hL ?_
    refine W ?_
    refine LS_al rfl fun b9 => ?_
    try (dsimp only [st, setL, AV.cells, List.set_cons_zero, List.set_cons_succ, List.drop_zero, List.drop_succ_cons, List.take_zero, List.take_succ_cons, Nat.zero_add, Nat.add_zero, Nat.reduceAdd, List.cons_append, List.nil_append, List.eraseIdx_cons_zero, List.eraseIdx_cons_succ])
    refine W ?_
    refine LS_sz (u := p.steps.length) (q := k.toNat) (fun h' HL => hs.le HL.le) enStep2 (.inr ⟨_, _, _, rfl, rfl, by omega, rfl⟩) (.inl ⟨rfl, rfl⟩) (by omega) (by omega) rfl fun w47 hw47 sw47 rw47 => ?_
    try (dsimp only [st, setL, AV.cells, List.set_cons_zero, List.set_cons_succ, List.drop_zero, List.drop_succ_cons, List.take_zero, List.take_succ_cons, Nat.zero_add, Nat.add_zero, Nat.reduceAdd, List.cons_append, List.nil_append, List.eraseIdx_cons_zero, List.eraseIdx_cons_succ])
    refine W ?_
    simp only [List.take_length] at rw47
    have hDm : ∀ t ∈ p.steps.drop k.toNat, t.1 ∈ usedL p k.toNat ∧ t.2 ∈ usedL p k.toNat := fun t ht => ⟨List.mem_append_left _ (List.mem_flatMap.2 ⟨t, ht, by simp⟩), List.mem_append_left _ (List.mem_flatMap.2 ⟨t, ht, by simp⟩)⟩
    have hDs : ∀ t ∈ p.steps.drop k.toNat, 0 ≤ t.1 ∧ t.1 ≤ 4096 ∧ 0 ≤ t.2 ∧ t.2 ≤ 4096 := fun t ht => hsb t (List.mem_of_mem_drop ht)
    have hDl : (p.steps.drop k.toNat).length = p.steps.length - k.toNat := by simp
    have hB : splitB p k = ⟨(liveM p k).length, (p.steps.drop k.toNat).map (laterS p k), p.outs.map (laterM p k)⟩ := rfl
    generalize p.steps.drop k.toNat = D at *
    rw [← hDl] at hw47 ⊢
    refine W ?_
    refine LIL_nl (k := 2) ?_
    refine LIL_ind (fun n a L => ∃ (i : Int) (u : AV), (∃ r : Nat → AV, a = [r 0, .i .i64 k, .p b2 0, r 3, .p b4 0, .p b5 0, r 6, w7, .p b8 0, .p b9 0, r 10, r 11, r 12, r 13, r 14, r 15, r 16, r 17, r 18, r 19, r 20, r 21, r 22, r 23, r 24, r 25, r 26, r 27, r 28, r 29, r 30, r 31, r 32, r 33, r 34, r 35, r 36, r 37, r 38, r 39, r 40, r 41, r 42, r 43, r 44, r 45, r 46, w47, .i .i64 D.length, .i .i64 i, r 50, r 51, r 52, r 53, r 54, r 55, r 56, r 57, r 58, r 59, r 60, r 61, r 62, r 63, r 64, r 65, r 66, r 67, r 68, r 69, r 70, r 71, r 72, r 73, r 74, r 75, r 76, r 77, r 78, r 79, r 80, r 81, r 82, r 83, r 84, r 85, r 86, r 87, r 88, r 89, r 90, r 91, r 92, r 93, r 94, r 95, r 96, r 97, r 98, r 99, r 100, r 101]) ∧ L = [.sl u 2 (((D.take i.toNat).map (laterS p k)).flatMap enStep), .pt b9 [.i .i64 (liveM p k).length, u, .ns], .pt b8 [.i .i64 p.n, w37, w39], .sl w37 2 ((p.steps.take k.toNat).flatMap enStep), .sl w39 1 ((liveM p k).flatMap enI), .sl w7 1 ((liveM p k).flatMap enI), .pt b5 [.i .i64 0, .ns, .ns], .pt b4 [.i .i64 0, .ns, .ns], .pt b2 [.i .i64 p.n, vs, vo]] ∧ 0 ≤ i ∧ i + n = D.length ∧ u.sc = true ∧ lenA u = some (D.take i.toNat).length)
      D.length ⟨0, .ns, exJ rfl, rfl, by omega, by omega, rfl, rfl⟩ ?_
    rintro n a L ⟨i, u, ⟨r, rfl⟩, rfl, hi0, hn, su, lu⟩ IH
    refine W ?_
    (first | refine LS_gt rfl ?_ ?_ | refine LS_gf rfl ?_ ?_ | refine LI_cond rfl ?_ ?_) <;> intro hc <;> have hc' := hc <;> try simp only [decide_eq_true_eq, decide_eq_false_iff_not, Bool.not_eq_true', Bool.not_eq_false', Bool.not_eq_true, Bool.not_eq_false, beq_iff_eq, bne_iff_ne, beq_eq_false_iff_ne, bne_eq_false_iff_eq, Int.not_lt, Int.not_le, ge_iff_le, gt_iff_lt, not_and, ne_eq, Decidable.not_not] at hc'
    all_goals (try (dsimp only [st, setL, AV.cells, List.set_cons_zero, List.set_cons_succ, List.drop_zero, List.drop_succ_cons, List.take_zero, List.take_succ_cons, Nat.zero_add, Nat.add_zero, Nat.reduceAdd, List.cons_append, List.nil_append, List.eraseIdx_cons_zero, List.eraseIdx_cons_succ]))
    all_goals (refine W ?_)
    · obtain ⟨s, hs1, hsm, hd⟩ := drop_at (l := D) hi0 hc'
      have hb := hDs s hsm
      have htk : (D.take (i + 1).toNat).map (laterS p k) = (D.take i.toNat).map (laterS p k) ++ [laterS p k s] := by
        rw [toNat_succ hi0, take_snoc hs1, List.map_append]; rfl
      have htl : ((D.take i.toNat).map (laterS p k)).length ≤ 40 := by simp; omega
      refine LS_ix (fun h' HL => rw47 h' (hs.le HL.le)) enStep2 hs1 hi0 rfl rfl fun q1 o1 hrow1 => ?_
      try (dsimp only [st, setL, AV.cells, List.set_cons_zero, List.set_cons_succ, List.drop_zero, List.drop_succ_cons, List.take_zero, List.take_succ_cons, Nat.zero_add, Nat.add_zero, Nat.reduceAdd, List.cons_append, List.nil_append, List.eraseIdx_cons_zero, List.eraseIdx_cons_succ])
      refine W ?_
      refine LS_al rfl fun b11 => ?_
      try (dsimp only [st, setL, AV.cells, List.set_cons_zero, List.set_cons_succ, List.drop_zero, List.drop_succ_cons, List.take_zero, List.take_succ_cons, Nat.zero_add, Nat.add_zero, Nat.reduceAdd, List.cons_append, List.nil_append, List.eraseIdx_cons_zero, List.eraseIdx_cons_succ])
      refine W ?_
      refine dz47_1 ?_
      refine WX ?_
      refine W ?_
      refine LX_c0 (fun h' HL wf => duLater_ac p k s.1 _ w7 h'.frz ⟨vs, vo, rfl, (hs.le HL.le).frz, (ho.le HL.le).frz⟩ (HL.rdI 6 rfl enI1 (by decide)).frz hk hk0 hk1 (by omega) (by omega)) rfl rfl noG ?_
      try (dsimp only [st, setL, AV.cells, List.set_cons_zero, List.set_cons_succ, List.drop_zero, List.drop_succ_cons, List.take_zero, List.take_succ_cons, Nat.zero_add, Nat.add_zero, Nat.reduceAdd, List.cons_append, List.nil_append, List.eraseIdx_cons_zero, List.eraseIdx_cons_succ])
      refine WX ?_
      refine W ?_
      refine LX_c0 (fun h' HL wf => duLater_ac p k s.2 _ w7 h'.frz ⟨vs, vo, rfl, (hs.le HL.le).frz, (ho.le HL.le).frz⟩ (HL.rdI 6 rfl enI1 (by decide)).frz hk hk0 hk1 (by omega) (by omega)) rfl rfl noG ?_
      try (dsimp only [st, setL, AV.cells, List.set_cons_zero, List.set_cons_succ, List.drop_zero, List.drop_succ_cons, List.take_zero, List.take_succ_cons, Nat.zero_add, Nat.add_zero, Nat.reduceAdd, List.cons_append, List.nil_append, List.eraseIdx_cons_zero, List.eraseIdx_cons_succ])
      refine WX ?_
      refine W ?_
      refine LX_c0 (fun h' HL wf => plStep_ac (laterM p k s.1) (laterM p k s.2) h'.frz) rfl rfl noG ?_
      try (dsimp only [st, setL, AV.cells, List.set_cons_zero, List.set_cons_succ, List.drop_zero, List.drop_succ_cons, List.take_zero, List.take_succ_cons, Nat.zero_add, Nat.add_zero, Nat.reduceAdd, List.cons_append, List.nil_append, List.eraseIdx_cons_zero, List.eraseIdx_cons_succ])
      refine WX ?_
      refine W ?_
      refine LX_lt [laterS p k s] rfl rfl (by decide) rfl rfl rfl rfl enStep2 rfl rfl noG fun w1 hw1 sw1 => ?_
      try (dsimp only [st, setL, AV.cells, List.set_cons_zero, List.set_cons_succ, List.drop_zero, List.drop_succ_cons, List.take_zero, List.take_succ_cons, Nat.zero_add, Nat.add_zero, Nat.reduceAdd, List.cons_append, List.nil_append, List.eraseIdx_cons_zero, List.eraseIdx_cons_succ])
      refine WX ?_
      refine W ?_
      refine LX_f noG (LO_ap 2 rfl (fun h' HL => HL.rdI 0 rfl enStep2 (by decide)) enStep2 (by decide) (by simp) (by simp at htl ⊢; omega) (by simp at htl ⊢; omega) rfl rfl rfl fun w2 hw2 sw2 => ?_)
      try (dsimp only [st, setL, AV.cells, List.set_cons_zero, List.set_cons_succ, List.drop_zero, List.drop_succ_cons, List.take_zero, List.take_succ_cons, Nat.zero_add, Nat.add_zero, Nat.reduceAdd, List.cons_append, List.nil_append, List.eraseIdx_cons_zero, List.eraseIdx_cons_succ])
      refine WX ?_
      refine W ?_
      refine LIL_drop 2 ?_
      refine IH (n - 1) _ _ (by omega) ⟨i + 1, w2, exJ rfl, by rw [htk]; rfl, by omega, by omega, sw2, by rw [hw2, ← htk, List.length_map]⟩
    · rw [List.take_of_length_le (show D.length ≤ i.toNat by omega)] at lu ⊢
      clear IH
      refine W ?_
      refine LIL_nl (k := 1) ?_
      refine LIL_conv (L' := [.sl .ns 1 (([] : List Int).flatMap enI), .sl u 2 ((D.map (laterS p k)).flatMap enStep), .pt b9 [.i .i64 (liveM p k).length, u, .ns], .pt b8 [.i .i64 p.n, w37, w39], .sl w37 2 ((p.steps.take k.toNat).flatMap enStep), .sl w39 1 ((liveM p k).flatMap enI), .sl w7 1 ((liveM p k).flatMap enI), .pt b5 [.i .i64 0, .ns, .ns], .pt b4 [.i .i64 0, .ns, .ns], .pt b2 [.i .i64 p.n, vs, vo]]) (fun h' HL => HL) ?_
      refine LIL_ind (fun n a L => ∃ (i : Int) (uo : AV), (∃ r : Nat → AV, a = [r 0, .i .i64 k, .p b2 0, r 3, .p b4 0, .p b5 0, r 6, w7, .p b8 0, .p b9 0, r 10, r 11, r 12, r 13, r 14, r 15, r 16, r 17, r 18, r 19, r 20, r 21, r 22, r 23, r 24, r 25, r 26, r 27, r 28, r 29, r 30, r 31, r 32, r 33, r 34, r 35, r 36, r 37, r 38, r 39, r 40, r 41, r 42, r 43, r 44, r 45, r 46, r 47, r 48, r 49, r 50, r 51, r 52, r 53, r 54, r 55, r 56, r 57, r 58, r 59, r 60, r 61, r 62, r 63, r 64, r 65, r 66, r 67, r 68, r 69, r 70, r 71, r 72, vo, .i .i64 p.outs.length, .i .i64 i, r 76, r 77, r 78, r 79, r 80, r 81, r 82, r 83, r 84, r 85, r 86, r 87, r 88, r 89, r 90, r 91, r 92, r 93, r 94, r 95, r 96, r 97, r 98, r 99, r 100, r 101]) ∧ L = [.sl uo 1 (((p.outs.take i.toNat).map (laterM p k)).flatMap enI), .sl u 2 ((D.map (laterS p k)).flatMap enStep), .pt b9 [.i .i64 (liveM p k).length, u, uo], .pt b8 [.i .i64 p.n, w37, w39], .sl w37 2 ((p.steps.take k.toNat).flatMap enStep), .sl w39 1 ((liveM p k).flatMap enI), .sl w7 1 ((liveM p k).flatMap enI), .pt b5 [.i .i64 0, .ns, .ns], .pt b4 [.i .i64 0, .ns, .ns], .pt b2 [.i .i64 p.n, vs, vo]] ∧ 0 ≤ i ∧ i + n = p.outs.length ∧ uo.sc = true ∧ lenA uo = some (p.outs.take i.toNat).length)
        p.outs.length ⟨0, .ns, exJ rfl, rfl, by omega, by omega, rfl, rfl⟩ ?_
      rintro n a L ⟨i2, uo, ⟨r, rfl⟩, rfl, hi20, hn2, suo, luo⟩ IH
      refine W ?_
      (first | refine LS_gt rfl ?_ ?_ | refine LS_gf rfl ?_ ?_ | refine LI_cond rfl ?_ ?_) <;> intro hc <;> have hc' := hc <;> try simp only [decide_eq_true_eq, decide_eq_false_iff_not, Bool.not_eq_true', Bool.not_eq_false', Bool.not_eq_true, Bool.not_eq_false, beq_iff_eq, bne_iff_ne, beq_eq_false_iff_ne, bne_eq_false_iff_eq, Int.not_lt, Int.not_le, ge_iff_le, gt_iff_lt, not_and, ne_eq, Decidable.not_not] at hc'
      all_goals (try (dsimp only [st, setL, AV.cells, List.set_cons_zero, List.set_cons_succ, List.drop_zero, List.drop_succ_cons, List.take_zero, List.take_succ_cons, Nat.zero_add, Nat.add_zero, Nat.reduceAdd, List.cons_append, List.nil_append, List.eraseIdx_cons_zero, List.eraseIdx_cons_succ]))
      all_goals (refine W ?_)
      · obtain ⟨x, hx1, hxm, hd⟩ := drop_at (l := p.outs) hi20 hc'
        have hb := used_bd hk (k := k.toNat) (List.mem_append_right _ hxm)
        have htk : (p.outs.take (i2 + 1).toNat).map (laterM p k) = (p.outs.take i2.toNat).map (laterM p k) ++ [laterM p k x] := by
          rw [toNat_succ hi20, take_snoc hx1, List.map_append]; rfl
        have htl : ((p.outs.take i2.toNat).map (laterM p k)).length ≤ 6 := by simp; omega
        refine LS_ix (fun h' HL => ho.le HL.le) enI1 hx1 hi20 rfl rfl fun q1 o1 hrow1 => ?_
        try (dsimp only [st, setL, AV.cells, List.set_cons_zero, List.set_cons_succ, List.drop_zero, List.drop_succ_cons, List.take_zero, List.take_succ_cons, Nat.zero_add, Nat.add_zero, Nat.reduceAdd, List.cons_append, List.nil_append, List.eraseIdx_cons_zero, List.eraseIdx_cons_succ])
        refine W ?_
        refine dz47_2 ?_
        refine WX ?_
        refine W ?_
        refine LX_c0 (fun h' HL wf => duLater_ac p k x _ w7 h'.frz ⟨vs, vo, rfl, (hs.le HL.le).frz, (ho.le HL.le).frz⟩ (HL.rdI 6 rfl enI1 (by decide)).frz hk hk0 hk1 (by omega) (by omega)) rfl rfl noG ?_
        try (dsimp only [st, setL, AV.cells, List.set_cons_zero, List.set_cons_succ, List.drop_zero, List.drop_succ_cons, List.take_zero, List.take_succ_cons, Nat.zero_add, Nat.add_zero, Nat.reduceAdd, List.cons_append, List.nil_append, List.eraseIdx_cons_zero, List.eraseIdx_cons_succ])
        refine WX ?_
        refine W ?_
        refine LX_lt [laterM p k x] rfl rfl (by decide) rfl rfl rfl rfl enI1 rfl rfl noG fun w1 hw1 sw1 => ?_
        try (dsimp only [st, setL, AV.cells, List.set_cons_zero, List.set_cons_succ, List.drop_zero, List.drop_succ_cons, List.take_zero, List.take_succ_cons, Nat.zero_add, Nat.add_zero, Nat.reduceAdd, List.cons_append, List.nil_append, List.eraseIdx_cons_zero, List.eraseIdx_cons_succ])
        refine WX ?_
        refine W ?_
        refine LX_f noG (LO_ap 1 rfl (fun h' HL => HL.rdI 0 rfl enI1 (by decide)) enI1 (by decide) (by simp) (by simp at htl ⊢; omega) (by simp at htl ⊢; omega) rfl rfl rfl fun w2 hw2 sw2 => ?_)
        try (dsimp only [st, setL, AV.cells, List.set_cons_zero, List.set_cons_succ, List.drop_zero, List.drop_succ_cons, List.take_zero, List.take_succ_cons, Nat.zero_add, Nat.add_zero, Nat.reduceAdd, List.cons_append, List.nil_append, List.eraseIdx_cons_zero, List.eraseIdx_cons_succ])
        refine WX ?_
        refine W ?_
        refine LIL_drop 1 ?_
        refine IH (n - 1) _ _ (by omega) ⟨i2 + 1, w2, exJ rfl, by rw [htk]; rfl, by omega, by omega, sw2, by rw [hw2, ← htk, List.length_map]⟩
      · rw [List.take_of_length_le (show p.outs.length ≤ i2.toNat by omega)] at luo ⊢
        clear IH
        refine W ?_
        refine LS_conv (L' := [.pt b4 [.i .i64 0, .ns, .ns], .pt b5 [.i .i64 0, .ns, .ns], .pt b9 [.i .i64 (liveM p k).length, u, uo], .pt b8 [.i .i64 p.n, w37, w39], .sl w37 2 ((p.steps.take k.toNat).flatMap enStep), .sl w39 1 ((liveM p k).flatMap enI), .sl u 2 ((D.map (laterS p k)).flatMap enStep), .sl uo 1 ((p.outs.map (laterM p k)).flatMap enI)]) (fun h' HL => HL.sel [8, 7, 2, 3, 4, 5, 1, 0] (by decide)) ?_
        refine LS_c0 (fun h' HL wf => good_ac (splitA p k) _ h' (plr_of HL 4 5 rfl rfl) hpA) rfl rfl ?_
        try (dsimp only [st, setL, AV.cells, List.set_cons_zero, List.set_cons_succ, List.drop_zero, List.drop_succ_cons, List.take_zero, List.take_succ_cons, Nat.zero_add, Nat.add_zero, Nat.reduceAdd, List.cons_append, List.nil_append, List.eraseIdx_cons_zero, List.eraseIdx_cons_succ])
        refine W ?_
        cases e3 : planOk (splitA p k)
        · have hx : splOk p k = false := by rw [splOk, hk, e2, e3]; rfl
          rw [(splNone hx).1, (splNone hx).2, hx]
          refine W ?_
          refine RET fun h' HL => ?_
          try dsimp only [oneA]
          exact TupPP.none HL
        refine W ?_
        refine LS_c0 (fun h' HL wf => good_ac (splitB p k) _ h' (by rw [hB]; exact plr_of (p := ⟨(liveM p k).length, D.map (laterS p k), p.outs.map (laterM p k)⟩) HL 6 7 rfl rfl) hpB) rfl rfl ?_
        try (dsimp only [st, setL, AV.cells, List.set_cons_zero, List.set_cons_succ, List.drop_zero, List.drop_succ_cons, List.take_zero, List.take_succ_cons, Nat.zero_add, Nat.add_zero, Nat.reduceAdd, List.cons_append, List.nil_append, List.eraseIdx_cons_zero, List.eraseIdx_cons_succ])
        refine W ?_
        cases e4 : planOk (splitB p k)
        · have hx : splOk p k = false := by rw [splOk, hk, e2, e3, e4]; rfl
          rw [(splNone hx).1, (splNone hx).2, hx]
          refine W ?_
          refine RET fun h' HL => ?_
          try dsimp only [oneA]
          exact TupPP.none HL
        have hx : splOk p k = true := by rw [splOk, hk, e2, e3, e4]; rfl
        rw [splA, splB, hx, if_pos rfl, if_pos rfl, hB]
        refine W ?_
        refine dk47_3 [] (by simp) ?_
        refine WX ?_
        refine LX_two ?_ ?_
        · refine WX ?_
          refine LX_lwe 2 noG rfl rfl rfl ?_
          try (dsimp only [st, setL, AV.cells, List.set_cons_zero, List.set_cons_succ, List.drop_zero, List.drop_succ_cons, List.take_zero, List.take_succ_cons, Nat.zero_add, Nat.add_zero, Nat.reduceAdd, List.cons_append, List.nil_append, List.eraseIdx_cons_zero, List.eraseIdx_cons_succ])
          refine WX ?_
          refine W ?_
          refine RET fun h' HL => ?_
          try dsimp only [oneA]
          exact ⟨_, ⟨w37, w39, u, uo, rfl, ⟨l37, s37, l39, s39⟩, ⟨by rw [lu]; simp, su, by rw [luo]; simp, suo⟩, rfl⟩, HL.sel [4, 5, 6, 7] (by decide)⟩
        · refine WX ?_
          refine LX_lwe 2 noG rfl rfl rfl ?_
          try (dsimp only [st, setL, AV.cells, List.set_cons_zero, List.set_cons_succ, List.drop_zero, List.drop_succ_cons, List.take_zero, List.take_succ_cons, Nat.zero_add, Nat.add_zero, Nat.reduceAdd, List.cons_append, List.nil_append, List.eraseIdx_cons_zero, List.eraseIdx_cons_succ])
          refine WX ?_
          refine W ?_
          refine RET fun h' HL => ?_
          try dsimp only [oneA]
          exact ⟨_, ⟨w37, w39, u, uo, rfl, ⟨l37, s37, l39, s39⟩, ⟨by rw [lu]; simp, su, by rw [luo]; simp, suo⟩, rfl⟩, HL.sel [4, 5, 6, 7] (by decide)⟩

/-! ### Plans cut in two: the program -/
theorem pick_map {P l : List Int} {f : Int → Int} (h : ∀ x ∈ l, P[x.toNat]? = some (f x)) : pickM P l = l.map f := by
  unfold pickM
  induction l with
  | nil => rfl
  | cons x l ih =>
    rw [List.filterMap_cons, h x (by simp), List.map_cons]
    exact congrArg _ (ih fun y hy => h y (by simp [hy]))

theorem implSplit_ac (p : PlanM) (k : Int) (v : AV) (h : AH) (hR : PlR h v p) (hw : PSm p) : AC Try.prog 48 [v, .i .i64 k] h (fun r h' => ∃ M, TupPP (splA p k) (splB p k) (splOk p k) r M ∧ Loq h h' M) := by
  have hR0 := hR
  obtain ⟨vs, vo, rfl, hs, ho⟩ := hR
  have hsl := hs.len
  have hol := ho.len
  refine e48 _ _ fun wf => ?_
  unfold c48
  refine LI_start wf ?_
  refine W ?_
  refine LS_bxn rfl (sc_cons rfl (sc_cons (rd_sc hs) (sc_cons (rd_sc ho) rfl))) fun b2 => ?_
  try (dsimp only [st, setL, AV.cells, List.set_cons_zero, List.set_cons_succ, List.drop_zero, List.drop_succ_cons, List.take_zero, List.take_succ_cons, Nat.zero_add, Nat.add_zero, Nat.reduceAdd, List.cons_append, List.nil_append, List.eraseIdx_cons_zero, List.eraseIdx_cons_succ])
  refine W ?_
  refine LS_al rfl fun b4 => ?_
  try (dsimp only [st, setL, AV.cells, List.set_cons_zero, List.set_cons_succ, List.drop_zero, List.drop_succ_cons, List.take_zero, List.take_succ_cons, Nat.zero_add, Nat.add_zero, Nat.reduceAdd, List.cons_append, List.nil_append, List.eraseIdx_cons_zero, List.eraseIdx_cons_succ])
  refine W ?_
  refine LS_al rfl fun b5 => ?_
  try (dsimp only [st, setL, AV.cells, List.set_cons_zero, List.set_cons_succ, List.drop_zero, List.drop_succ_cons, List.take_zero, List.take_succ_cons, Nat.zero_add, Nat.add_zero, Nat.reduceAdd, List.cons_append, List.nil_append, List.eraseIdx_cons_zero, List.eraseIdx_cons_succ])
  refine W ?_
  refine LS_c0 (fun h' HL wf => isPlan_ac p _ h' (hR0.le HL.le) hw) rfl rfl ?_
  try (dsimp only [st, setL, AV.cells, List.set_cons_zero, List.set_cons_succ, List.drop_zero, List.drop_succ_cons, List.take_zero, List.take_succ_cons, Nat.zero_add, Nat.add_zero, Nat.reduceAdd, List.cons_append, List.nil_append, List.eraseIdx_cons_zero, List.eraseIdx_cons_succ])
  refine W ?_
  cases hk : planOk p
  · have hx : splOk p k = false := by rw [splOk, hk]; rfl
    rw [(splNone hx).1, (splNone hx).2, hx]
    refine W ?_
    refine RET fun h' HL => ?_
    try dsimp only [oneA]
    exact TupPP.none HL
  refine W ?_
  refine LS_c0' (fun h' HL wf => in_ac k 0 p.steps.length h') rfl rfl ?_
  try (dsimp only [st, setL, AV.cells, List.set_cons_zero, List.set_cons_succ, List.drop_zero, List.drop_succ_cons, List.take_zero, List.take_succ_cons, Nat.zero_add, Nat.add_zero, Nat.reduceAdd, List.cons_append, List.nil_append, List.eraseIdx_cons_zero, List.eraseIdx_cons_succ])
  refine W ?_
  cases e2 : decide (0 ≤ k ∧ k ≤ (p.steps.length : Int))
  · have hx : splOk p k = false := by rw [splOk, hk, e2]; rfl
    rw [(splNone hx).1, (splNone hx).2, hx]
    refine W ?_
    refine RET fun h' HL => ?_
    try dsimp only [oneA]
    exact TupPP.none HL
  refine W ?_
  obtain ⟨hk0, hk1⟩ := of_decide_eq_true e2
  obtain ⟨h1, h2, h3, h4, hf, h6⟩ := planOk_out hk
  have hll := liveM_len p k
  have hpA := psm_A hk hk0 hk1
  have hpB := psm_B hk hk0 hk1
  have hsb := okS_plan hk
  have hlb : ∀ x ∈ liveM p k, 0 ≤ x ∧ x < p.n + k := fun x hx => by have := (iotaI_mem _ _).1 (List.mem_filter.1 hx).1; omega
  refine LS_co (fun h' HL wf => liveAt_ac p k b2 vs vo h' ⟨HL.rowsP 2 rfl (Nat.le_refl 3) rfl, hs.le HL.le, ho.le HL.le⟩ hk hk0 hk1) enI1 rfl rfl fun w7 hw7 sw7 => ?_
  try (dsimp only [st, setL, AV.cells, List.set_cons_zero, List.set_cons_succ, List.drop_zero, List.drop_succ_cons, List.take_zero, List.take_succ_cons, Nat.zero_add, Nat.add_zero, Nat.reduceAdd, List.cons_append, List.nil_append, List.eraseIdx_cons_zero, List.eraseIdx_cons_succ])
  refine W ?_
  refine LI_post (fun a L => ∃ (b8 : Nat) (w36 : AV), (∃ r : Nat → AV, a = [r 0, .i .i64 k, .p b2 0, r 3, .p b4 0, .p b5 0, r 6, w7, .p b8 0, r 9, r 10, r 11, r 12, r 13, r 14, r 15, r 16, r 17, r 18, r 19, r 20, r 21, r 22, r 23, r 24, r 25, r 26, r 27, r 28, r 29, r 30, r 31, r 32, r 33, r 34, r 35, r 36, r 37, r 38, r 39, r 40, r 41, r 42, r 43, r 44, r 45, r 46, r 47, r 48, r 49, r 50, r 51, r 52, r 53, r 54, r 55, r 56, r 57, r 58, r 59, r 60, r 61, r 62, r 63, r 64, r 65, r 66, r 67, r 68, r 69, r 70, r 71, r 72, r 73, r 74, r 75, r 76, r 77, r 78, r 79, r 80, r 81, r 82, r 83, r 84, r 85, r 86, r 87, r 88, r 89, r 90, r 91, r 92, r 93, r 94, r 95, r 96, r 97, r 98, r 99, r 100, r 101, r 102, r 103, r 104, r 105, r 106, r 107, r 108]) ∧ lenA w36 = some (p.steps.take k.toNat).length ∧ w36.sc = true ∧ ∀ h', Loq h h' L → Loq h h' [.pt b8 [.i .i64 p.n, w36, w7], .sl w36 2 ((p.steps.take k.toNat).flatMap enStep), .sl w7 1 ((liveM p k).flatMap enI), .pt b5 [.i .i64 0, .ns, .ns], .pt b4 [.i .i64 0, .ns, .ns], .pt b2 [.i .i64 p.n, vs, vo]]) ?_ ?_
  · refine dz48_0 ?_
    refine WX ?_
    refine W ?_
    refine LX_sz (u := k.toNat) (q := 0) (fun h' HL => hs.le HL.le) enStep2 (.inl ⟨rfl, rfl⟩) (.inr ⟨_, _, _, rfl, rfl, by omega, rfl⟩) (by omega) (by omega) rfl noG fun w5 hw5 sw5 rw5 => ?_
    try (dsimp only [st, setL, AV.cells, List.set_cons_zero, List.set_cons_succ, List.drop_zero, List.drop_succ_cons, List.take_zero, List.take_succ_cons, Nat.zero_add, Nat.add_zero, Nat.reduceAdd, List.cons_append, List.nil_append, List.eraseIdx_cons_zero, List.eraseIdx_cons_succ])
    refine WX ?_
    refine W ?_
    refine LX_two ?_ ?_
    · refine WX ?_
      refine LX_co (fun h' HL wf => Clone_Step_ac ((p.steps.take k.toNat).drop 0) w5 h'.frz (rw5 h' (hs.le HL.le)).frz (by simp; omega)) enStep2 rfl rfl noG fun w6 hw6 sw6 => ?_
      try (dsimp only [st, setL, AV.cells, List.set_cons_zero, List.set_cons_succ, List.drop_zero, List.drop_succ_cons, List.take_zero, List.take_succ_cons, Nat.zero_add, Nat.add_zero, Nat.reduceAdd, List.cons_append, List.nil_append, List.eraseIdx_cons_zero, List.eraseIdx_cons_succ])
      refine WX ?_
      refine W ?_
      refine LX_al (by rfl) noG fun b8 => ?_
      try (dsimp only [st, setL, AV.cells, List.set_cons_zero, List.set_cons_succ, List.drop_zero, List.drop_succ_cons, List.take_zero, List.take_succ_cons, Nat.zero_add, Nat.add_zero, Nat.reduceAdd, List.cons_append, List.nil_append, List.eraseIdx_cons_zero, List.eraseIdx_cons_succ])
      refine WX ?_
      refine W ?_
      exact ⟨rfl, _, _, exJ rfl, by simpa using hw6, sw6, fun h' HL => HL.sel [0, 1, 2, 3, 4, 5] (by decide)⟩
    · refine WX ?_
      refine LX_al (by rfl) noG fun b8 => ?_
      try (dsimp only [st, setL, AV.cells, List.set_cons_zero, List.set_cons_succ, List.drop_zero, List.drop_succ_cons, List.take_zero, List.take_succ_cons, Nat.zero_add, Nat.add_zero, Nat.reduceAdd, List.cons_append, List.nil_append, List.eraseIdx_cons_zero, List.eraseIdx_cons_succ])
      refine WX ?_
      refine W ?_
      refine LX_co (fun h' HL wf => Clone_Step_ac ((p.steps.take k.toNat).drop 0) w5 h'.frz (rw5 h' (hs.le HL.le)).frz (by simp; omega)) enStep2 rfl rfl noG fun w6 hw6 sw6 => ?_
      try (dsimp only [st, setL, AV.cells, List.set_cons_zero, List.set_cons_succ, List.drop_zero, List.drop_succ_cons, List.take_zero, List.take_succ_cons, Nat.zero_add, Nat.add_zero, Nat.reduceAdd, List.cons_append, List.nil_append, List.eraseIdx_cons_zero, List.eraseIdx_cons_succ])
      refine WX ?_
      refine W ?_
      exact ⟨rfl, _, _, exJ rfl, by simpa using hw6, sw6, fun h' HL => HL.sel [1, 0, 2, 3, 4, 5] (by decide)⟩
  rintro _ L ⟨b8, w36, ⟨r, rfl⟩, l36, s36, hL⟩
  refine LThen_n ?_
  refine LI_conv hL ?_
  refine W ?_
  refine LI_post (fun a L => ∃ (b9 b10 : Nat), (∃ r : Nat → AV, a = [r 0, .i .i64 k, .p b2 0, r 3, .p b4 0, .p b5 0, r 6, w7, .p b8 0, .p b9 0, .sl b10 0 (p.n + p.steps.length).toNat true, r 11, r 12, r 13, r 14, r 15, r 16, r 17, r 18, r 19, r 20, r 21, r 22, r 23, r 24, r 25, r 26, r 27, r 28, r 29, r 30, r 31, r 32, r 33, r 34, r 35, r 36, r 37, r 38, r 39, r 40, r 41, r 42, r 43, r 44, r 45, r 46, r 47, r 48, r 49, r 50, r 51, r 52, r 53, r 54, r 55, r 56, r 57, r 58, r 59, r 60, r 61, r 62, r 63, r 64, r 65, r 66, r 67, r 68, r 69, r 70, r 71, r 72, r 73, r 74, r 75, r 76, r 77, r 78, r 79, r 80, r 81, r 82, r 83, r 84, r 85, r 86, r 87, r 88, r 89, r 90, r 91, r 92, r 93, r 94, r 95, r 96, r 97, r 98, r 99, r 100, r 101, r 102, r 103, r 104, r 105, r 106, r 107, r 108]) ∧ ∀ h', Loq h h' L → Loq h h' [.sl (.sl b10 0 (p.n + p.steps.length).toNat true) 1 ((List.replicate (p.n + p.steps.length).toNat 0).flatMap enI), .pt b9 [.i .i64 (liveM p k).length, .ns, .ns], .pt b8 [.i .i64 p.n, w36, w7], .sl w36 2 ((p.steps.take k.toNat).flatMap enStep), .sl w7 1 ((liveM p k).flatMap enI), .pt b5 [.i .i64 0, .ns, .ns], .pt b4 [.i .i64 0, .ns, .ns], .pt b2 [.i .i64 p.n, vs, vo]]) ?_ ?_
  · refine dz48_1 ?_
    refine WX ?_
    refine W ?_
    refine LX_two ?_ ?_
    · refine WX ?_
      refine LX_c0 (fun h' HL wf => many_ac p b2 vs vo h'.frz (PlP.frz ⟨HL.rowsP 5 rfl (Nat.le_refl 3) rfl, hs.le HL.le, ho.le HL.le⟩) (by omega) (by omega) (by omega)) rfl rfl noG ?_
      try (dsimp only [st, setL, AV.cells, List.set_cons_zero, List.set_cons_succ, List.drop_zero, List.drop_succ_cons, List.take_zero, List.take_succ_cons, Nat.zero_add, Nat.add_zero, Nat.reduceAdd, List.cons_append, List.nil_append, List.eraseIdx_cons_zero, List.eraseIdx_cons_succ])
      refine WX ?_
      refine W ?_
      refine LX_two ?_ ?_
      · refine WX ?_
        refine LX_mk 0 rfl rfl rfl rfl rfl (by omega) (by omega) (by omega) enI1 rfl noG fun b10 => ?_
        try (dsimp only [st, setL, AV.cells, List.set_cons_zero, List.set_cons_succ, List.drop_zero, List.drop_succ_cons, List.take_zero, List.take_succ_cons, Nat.zero_add, Nat.add_zero, Nat.reduceAdd, List.cons_append, List.nil_append, List.eraseIdx_cons_zero, List.eraseIdx_cons_succ])
        refine WX ?_
        refine W ?_
        refine LX_al (by rfl) noG fun b9 => ?_
        try (dsimp only [st, setL, AV.cells, List.set_cons_zero, List.set_cons_succ, List.drop_zero, List.drop_succ_cons, List.take_zero, List.take_succ_cons, Nat.zero_add, Nat.add_zero, Nat.reduceAdd, List.cons_append, List.nil_append, List.eraseIdx_cons_zero, List.eraseIdx_cons_succ])
        refine WX ?_
        refine W ?_
        exact ⟨rfl, _, _, exJ rfl, fun h' HL => HL.sel [1, 0, 2, 3, 4, 5, 6, 7] (by decide)⟩
      · refine WX ?_
        refine LX_al (by rfl) noG fun b9 => ?_
        try (dsimp only [st, setL, AV.cells, List.set_cons_zero, List.set_cons_succ, List.drop_zero, List.drop_succ_cons, List.take_zero, List.take_succ_cons, Nat.zero_add, Nat.add_zero, Nat.reduceAdd, List.cons_append, List.nil_append, List.eraseIdx_cons_zero, List.eraseIdx_cons_succ])
        refine WX ?_
        refine W ?_
        refine LX_two ?_ ?_
        · refine WX ?_
          refine LX_mk 0 rfl rfl rfl rfl rfl (by omega) (by omega) (by omega) enI1 rfl noG fun b10 => ?_
          try (dsimp only [st, setL, AV.cells, List.set_cons_zero, List.set_cons_succ, List.drop_zero, List.drop_succ_cons, List.take_zero, List.take_succ_cons, Nat.zero_add, Nat.add_zero, Nat.reduceAdd, List.cons_append, List.nil_append, List.eraseIdx_cons_zero, List.eraseIdx_cons_succ])
          refine WX ?_
          refine W ?_
          exact ⟨rfl, _, _, exJ rfl, fun h' HL => HL.sel [0, 1, 2, 3, 4, 5, 6, 7] (by decide)⟩
        · refine WX ?_
          refine LX_mk 0 rfl rfl rfl rfl rfl (by omega) (by omega) (by omega) enI1 rfl noG fun b10 => ?_
          try (dsimp only [st, setL, AV.cells, List.set_cons_zero, List.set_cons_succ, List.drop_zero, List.drop_succ_cons, List.take_zero, List.take_succ_cons, Nat.zero_add, Nat.add_zero, Nat.reduceAdd, List.cons_append, List.nil_append, List.eraseIdx_cons_zero, List.eraseIdx_cons_succ])
          refine WX ?_
          refine W ?_
          exact ⟨rfl, _, _, exJ rfl, fun h' HL => HL.sel [0, 1, 2, 3, 4, 5, 6, 7] (by decide)⟩
    · refine WX ?_
      refine LX_al (by rfl) noG fun b9 => ?_
      try (dsimp only [st, setL, AV.cells, List.set_cons_zero, List.set_cons_succ, List.drop_zero, List.drop_succ_cons, List.take_zero, List.take_succ_cons, Nat.zero_add, Nat.add_zero, Nat.reduceAdd, List.cons_append, List.nil_append, List.eraseIdx_cons_zero, List.eraseIdx_cons_succ])
      refine WX ?_
      refine W ?_
      refine LX_c0 (fun h' HL wf => many_ac p b2 vs vo h'.frz (PlP.frz ⟨HL.rowsP 6 rfl (Nat.le_refl 3) rfl, hs.le HL.le, ho.le HL.le⟩) (by omega) (by omega) (by omega)) rfl rfl noG ?_
      try (dsimp only [st, setL, AV.cells, List.set_cons_zero, List.set_cons_succ, List.drop_zero, List.drop_succ_cons, List.take_zero, List.take_succ_cons, Nat.zero_add, Nat.add_zero, Nat.reduceAdd, List.cons_append, List.nil_append, List.eraseIdx_cons_zero, List.eraseIdx_cons_succ])
      refine WX ?_
      refine W ?_
      refine LX_two ?_ ?_
      · refine WX ?_
        refine LX_mk 0 rfl rfl rfl rfl rfl (by omega) (by omega) (by omega) enI1 rfl noG fun b10 => ?_
        try (dsimp only [st, setL, AV.cells, List.set_cons_zero, List.set_cons_succ, List.drop_zero, List.drop_succ_cons, List.take_zero, List.take_succ_cons, Nat.zero_add, Nat.add_zero, Nat.reduceAdd, List.cons_append, List.nil_append, List.eraseIdx_cons_zero, List.eraseIdx_cons_succ])
        refine WX ?_
        refine W ?_
        exact ⟨rfl, _, _, exJ rfl, fun h' HL => HL.sel [0, 1, 2, 3, 4, 5, 6, 7] (by decide)⟩
      · refine WX ?_
        refine LX_mk 0 rfl rfl rfl rfl rfl (by omega) (by omega) (by omega) enI1 rfl noG fun b10 => ?_
        try (dsimp only [st, setL, AV.cells, List.set_cons_zero, List.set_cons_succ, List.drop_zero, List.drop_succ_cons, List.take_zero, List.take_succ_cons, Nat.zero_add, Nat.add_zero, Nat.reduceAdd, List.cons_append, List.nil_append, List.eraseIdx_cons_zero, List.eraseIdx_cons_succ])
        refine WX ?_
        refine W ?_
        exact ⟨rfl, _, _, exJ rfl, fun h' HL => HL.sel [0, 1, 2, 3, 4, 5, 6, 7] (by decide)⟩
  rintro _ L ⟨b9, b10, ⟨r, rfl⟩, hL⟩
  refine LThen_n ?_
  refine LI_conv hL ?_
  refine W ?_
  refine LIL_ind (fun n a L => ∃ (i : Int) (P : List Int), (∃ r : Nat → AV, a = [r 0, .i .i64 k, .p b2 0, r 3, .p b4 0, .p b5 0, r 6, r 7, .p b8 0, .p b9 0, .sl b10 0 (p.n + p.steps.length).toNat true, r 11, r 12, r 13, r 14, r 15, r 16, r 17, r 18, r 19, r 20, r 21, r 22, r 23, r 24, r 25, r 26, r 27, r 28, r 29, r 30, r 31, r 32, r 33, r 34, r 35, r 36, r 37, r 38, r 39, r 40, r 41, r 42, r 43, w7, .i .i64 (liveM p k).length, .i .i64 i, r 47, r 48, r 49, r 50, r 51, r 52, r 53, r 54, r 55, r 56, r 57, r 58, r 59, r 60, r 61, r 62, r 63, r 64, r 65, r 66, r 67, r 68, r 69, r 70, r 71, r 72, r 73, r 74, r 75, r 76, r 77, r 78, r 79, r 80, r 81, r 82, r 83, r 84, r 85, r 86, r 87, r 88, r 89, r 90, r 91, r 92, r 93, r 94, r 95, r 96, r 97, r 98, r 99, r 100, r 101, r 102, r 103, r 104, r 105, r 106, r 107, r 108]) ∧ L = [.sl (.sl b10 0 (p.n + p.steps.length).toNat true) 1 (P.flatMap enI), .pt b9 [.i .i64 (liveM p k).length, .ns, .ns], .pt b8 [.i .i64 p.n, w36, w7], .sl w36 2 ((p.steps.take k.toNat).flatMap enStep), .sl w7 1 ((liveM p k).flatMap enI), .pt b5 [.i .i64 0, .ns, .ns], .pt b4 [.i .i64 0, .ns, .ns], .pt b2 [.i .i64 p.n, vs, vo]] ∧ 0 ≤ i ∧ i + n = (liveM p k).length ∧ P.length = (p.n + p.steps.length).toNat ∧ ∀ (j : Nat) (x : Int), (j : Int) < i → (liveM p k)[j]? = some x → P[x.toNat]? = some (j : Int))
    (liveM p k).length ⟨0, _, exJ rfl, rfl, by omega, by omega, by simp, fun j x hj => by omega⟩ ?_
  rintro n a L ⟨i, P, ⟨r, rfl⟩, rfl, hi0, hn, hPl, hP⟩ IH
  refine W ?_
  (first | refine LS_gt rfl ?_ ?_ | refine LS_gf rfl ?_ ?_ | refine LI_cond rfl ?_ ?_) <;> intro hc <;> have hc' := hc <;> try simp only [decide_eq_true_eq, decide_eq_false_iff_not, Bool.not_eq_true', Bool.not_eq_false', Bool.not_eq_true, Bool.not_eq_false, beq_iff_eq, bne_iff_ne, beq_eq_false_iff_ne, bne_eq_false_iff_eq, Int.not_lt, Int.not_le, ge_iff_le, gt_iff_lt, not_and, ne_eq, Decidable.not_not] at hc'
  all_goals (try (dsimp only [st, setL, AV.cells, List.set_cons_zero, List.set_cons_succ, List.drop_zero, List.drop_succ_cons, List.take_zero, List.take_succ_cons, Nat.zero_add, Nat.add_zero, Nat.reduceAdd, List.cons_append, List.nil_append, List.eraseIdx_cons_zero, List.eraseIdx_cons_succ]))
  all_goals (refine W ?_)
  · obtain ⟨x, hx1, hxm, hd⟩ := drop_at (l := liveM p k) hi0 hc'
    have hxb := hlb x hxm
    refine LS_ix (fun h' HL => HL.rdI 4 rfl enI1 (by decide)) enI1 hx1 hi0 rfl rfl fun q1 o1 hrow1 => ?_
    try (dsimp only [st, setL, AV.cells, List.set_cons_zero, List.set_cons_succ, List.drop_zero, List.drop_succ_cons, List.take_zero, List.take_succ_cons, Nat.zero_add, Nat.add_zero, Nat.reduceAdd, List.cons_append, List.nil_append, List.eraseIdx_cons_zero, List.eraseIdx_cons_succ])
    refine W ?_
    refine LS_is hxb.1 (by omega) rfl rfl ?_
    try (dsimp only [st, setL, AV.cells, List.set_cons_zero, List.set_cons_succ, List.drop_zero, List.drop_succ_cons, List.take_zero, List.take_succ_cons, Nat.zero_add, Nat.add_zero, Nat.reduceAdd, List.cons_append, List.nil_append, List.eraseIdx_cons_zero, List.eraseIdx_cons_succ])
    refine W ?_
    refine LS_ss i 0 x.toNat rfl (by omega) (by omega) rfl enI1 (by decide) rfl rfl rfl ?_
    try (dsimp only [st, setL, AV.cells, List.set_cons_zero, List.set_cons_succ, List.drop_zero, List.drop_succ_cons, List.take_zero, List.take_succ_cons, Nat.zero_add, Nat.add_zero, Nat.reduceAdd, List.cons_append, List.nil_append, List.eraseIdx_cons_zero, List.eraseIdx_cons_succ])
    refine W ?_
    refine IH (n - 1) _ _ (by omega) ⟨i + 1, P.set x.toNat i, exJ rfl, rfl, by omega, by omega, by simpa using hPl, fun j y hj hy => ?_⟩
    have hyb := hlb y (List.mem_of_getElem? hy)
    by_cases e : (j : Int) = i
    · obtain rfl : j = i.toNat := by omega
      rw [hx1] at hy
      obtain rfl : x = y := by simpa using hy
      rw [List.getElem?_set_self (by omega)]
      congr 1; omega
    · have hjn : j ≠ i.toNat := by omega
      have hne : x ≠ y := fun e2 => by
        subst e2
        have hp := List.pairwise_iff_getElem.1 (liveM_si p k)
        obtain ⟨g1, e1⟩ := List.getElem?_eq_some_iff.1 hx1
        obtain ⟨g2, e2⟩ := List.getElem?_eq_some_iff.1 hy
        rcases Nat.lt_or_gt_of_ne hjn with hlt | hlt
        · have := hp _ _ g2 g1 hlt; omega
        · have := hp _ _ g1 g2 hlt; omega
      rw [List.getElem?_set_ne (by omega)]
      exact hP j y (by omega) hy
  clear IH
  have hPu : ∀ x ∈ usedL p k.toNat, x < p.n + k → P[x.toNat]? = some (laterM p k x) := fun x hx hlt => by
    have hb := used_bd hk hx
    obtain ⟨j, hj⟩ := List.mem_iff_getElem?.1 (liveM_mem hx hb.1 hlt)
    have hjl := (List.getElem?_eq_some_iff.1 hj).1
    rw [laterM, if_pos hlt, idx_at 0 (liveM_si p k) hj, Int.zero_add]
    exact hP j x (by omega) hj
  clear hP
  refine W ?_
  refine LS_sz (u := p.steps.length) (q := k.toNat) (fun h' HL => hs.le HL.le) enStep2 (.inr ⟨_, _, _, rfl, rfl, by omega, rfl⟩) (.inl ⟨rfl, rfl⟩) (by omega) (by omega) rfl fun w59 hw59 sw59 rw59 => ?_
  try (dsimp only [st, setL, AV.cells, List.set_cons_zero, List.set_cons_succ, List.drop_zero, List.drop_succ_cons, List.take_zero, List.take_succ_cons, Nat.zero_add, Nat.add_zero, Nat.reduceAdd, List.cons_append, List.nil_append, List.eraseIdx_cons_zero, List.eraseIdx_cons_succ])
  refine W ?_
  simp only [List.take_length] at rw59
  have hDm : ∀ t ∈ p.steps.drop k.toNat, t.1 ∈ usedL p k.toNat ∧ t.2 ∈ usedL p k.toNat := fun t ht => ⟨List.mem_append_left _ (List.mem_flatMap.2 ⟨t, ht, by simp⟩), List.mem_append_left _ (List.mem_flatMap.2 ⟨t, ht, by simp⟩)⟩
  have hDg : ∀ j : Nat, (p.steps.drop k.toNat)[j]? = p.steps[k.toNat + j]? := fun j => List.getElem?_drop
  have hDl : (p.steps.drop k.toNat).length = p.steps.length - k.toNat := by simp
  have hB : splitB p k = ⟨(liveM p k).length, (p.steps.drop k.toNat).map (laterS p k), p.outs.map (laterM p k)⟩ := rfl
  generalize p.steps.drop k.toNat = D at *
  rw [← hDl] at hw59 ⊢
  refine W ?_
  refine LIL_nl (k := 2) ?_
  refine LIL_conv (L' := [.sl .ns 2 (([] : List (Int × Int)).flatMap enStep), .pt b9 [.i .i64 (liveM p k).length, .ns, .ns], .sl (.sl b10 0 (p.n + p.steps.length).toNat true) 1 (P.flatMap enI), .pt b8 [.i .i64 p.n, w36, w7], .sl w36 2 ((p.steps.take k.toNat).flatMap enStep), .sl w7 1 ((liveM p k).flatMap enI), .pt b5 [.i .i64 0, .ns, .ns], .pt b4 [.i .i64 0, .ns, .ns], .pt b2 [.i .i64 p.n, vs, vo]]) (fun h' HL => HL.sel [0, 2, 1, 3, 4, 5, 6, 7, 8] (by decide)) ?_
  refine LIL_ind (fun n a L => ∃ (i : Int) (P : List Int) (u : AV), (∃ r : Nat → AV, a = [r 0, .i .i64 k, .p b2 0, r 3, .p b4 0, .p b5 0, r 6, r 7, .p b8 0, .p b9 0, .sl b10 0 (p.n + p.steps.length).toNat true, r 11, r 12, r 13, r 14, r 15, r 16, r 17, r 18, r 19, r 20, r 21, r 22, r 23, r 24, r 25, r 26, r 27, r 28, r 29, r 30, r 31, r 32, r 33, r 34, r 35, r 36, r 37, r 38, r 39, r 40, r 41, r 42, r 43, r 44, r 45, r 46, r 47, r 48, r 49, r 50, r 51, r 52, r 53, r 54, r 55, r 56, r 57, r 58, w59, .i .i64 D.length, .i .i64 i, r 62, r 63, r 64, r 65, r 66, r 67, r 68, r 69, r 70, r 71, r 72, r 73, r 74, r 75, r 76, r 77, r 78, r 79, r 80, r 81, r 82, r 83, r 84, r 85, r 86, r 87, r 88, r 89, r 90, r 91, r 92, r 93, r 94, r 95, r 96, r 97, r 98, r 99, r 100, r 101, r 102, r 103, r 104, r 105, r 106, r 107, r 108]) ∧ L = [.sl u 2 (((D.take i.toNat).map (laterS p k)).flatMap enStep), .pt b9 [.i .i64 (liveM p k).length, u, .ns], .sl (.sl b10 0 (p.n + p.steps.length).toNat true) 1 (P.flatMap enI), .pt b8 [.i .i64 p.n, w36, w7], .sl w36 2 ((p.steps.take k.toNat).flatMap enStep), .sl w7 1 ((liveM p k).flatMap enI), .pt b5 [.i .i64 0, .ns, .ns], .pt b4 [.i .i64 0, .ns, .ns], .pt b2 [.i .i64 p.n, vs, vo]] ∧ 0 ≤ i ∧ i + n = D.length ∧ P.length = (p.n + p.steps.length).toNat ∧ (∀ x ∈ usedL p k.toNat, x < p.n + k + i → P[x.toNat]? = some (laterM p k x)) ∧ u.sc = true ∧ lenA u = some (D.take i.toNat).length)
    D.length ⟨0, P, .ns, exJ rfl, rfl, by omega, by omega, hPl, fun x hx hlt => hPu x hx (by omega), rfl, rfl⟩ ?_
  clear hPu hPl P
  rintro n a L ⟨i, P, u, ⟨r, rfl⟩, rfl, hi0, hn, hPl, hPu, su, lu⟩ IH
  refine W ?_
  (first | refine LS_gt rfl ?_ ?_ | refine LS_gf rfl ?_ ?_ | refine LI_cond rfl ?_ ?_) <;> intro hc <;> have hc' := hc <;> try simp only [decide_eq_true_eq, decide_eq_false_iff_not, Bool.not_eq_true', Bool.not_eq_false', Bool.not_eq_true, Bool.not_eq_false, beq_iff_eq, bne_iff_ne, beq_eq_false_iff_ne, bne_eq_false_iff_eq, Int.not_lt, Int.not_le, ge_iff_le, gt_iff_lt, not_and, ne_eq, Decidable.not_not] at hc'
  all_goals (try (dsimp only [st, setL, AV.cells, List.set_cons_zero, List.set_cons_succ, List.drop_zero, List.drop_succ_cons, List.take_zero, List.take_succ_cons, Nat.zero_add, Nat.add_zero, Nat.reduceAdd, List.cons_append, List.nil_append, List.eraseIdx_cons_zero, List.eraseIdx_cons_succ]))
  all_goals (refine W ?_)
  · obtain ⟨s, hs1, hsm, hd⟩ := drop_at (l := D) hi0 hc'
    have hfs := formedS_get hf (by rw [← hDg]; exact hs1)
    have htk : (D.take (i + 1).toNat).map (laterS p k) = (D.take i.toNat).map (laterS p k) ++ [laterS p k s] := by
      rw [toNat_succ hi0, take_snoc hs1, List.map_append]; rfl
    have htl : ((D.take i.toNat).map (laterS p k)).length ≤ 40 := by simp; omega
    have htn : (D.take i.toNat).length = i.toNat := by simp; omega
    refine LS_ix (fun h' HL => rw59 h' (hs.le HL.le)) enStep2 hs1 hi0 rfl rfl fun q1 o1 hrow1 => ?_
    try (dsimp only [st, setL, AV.cells, List.set_cons_zero, List.set_cons_succ, List.drop_zero, List.drop_succ_cons, List.take_zero, List.take_succ_cons, Nat.zero_add, Nat.add_zero, Nat.reduceAdd, List.cons_append, List.nil_append, List.eraseIdx_cons_zero, List.eraseIdx_cons_succ])
    refine W ?_
    refine LS_al rfl fun b14 => ?_
    try (dsimp only [st, setL, AV.cells, List.set_cons_zero, List.set_cons_succ, List.drop_zero, List.drop_succ_cons, List.take_zero, List.take_succ_cons, Nat.zero_add, Nat.add_zero, Nat.reduceAdd, List.cons_append, List.nil_append, List.eraseIdx_cons_zero, List.eraseIdx_cons_succ])
    refine W ?_
    refine dz48_2 ?_
    refine WX ?_
    refine W ?_
    refine LX_c0 (fun h' HL wf => manyC_ac (liveM p k).length (D.take i.toNat).length b9 u h'.frz (HL.cellP 2 rfl rfl) (HL.cellP 2 rfl rfl) lu (by omega) (by omega) (by omega)) rfl rfl noG ?_
    try (dsimp only [st, setL, AV.cells, List.set_cons_zero, List.set_cons_succ, List.drop_zero, List.drop_succ_cons, List.take_zero, List.take_succ_cons, Nat.zero_add, Nat.add_zero, Nat.reduceAdd, List.cons_append, List.nil_append, List.eraseIdx_cons_zero, List.eraseIdx_cons_succ])
    refine WX ?_
    refine W ?_
    refine LX_is (by omega) (by omega) rfl rfl noG ?_
    try (dsimp only [st, setL, AV.cells, List.set_cons_zero, List.set_cons_succ, List.drop_zero, List.drop_succ_cons, List.take_zero, List.take_succ_cons, Nat.zero_add, Nat.add_zero, Nat.reduceAdd, List.cons_append, List.nil_append, List.eraseIdx_cons_zero, List.eraseIdx_cons_succ])
    refine WX ?_
    refine W ?_
    refine LX_f noG (LO_ss (((liveM p k).length : Int) + ((D.take i.toNat).length : Nat)) 3 (p.n + k + i).toNat rfl (by omega) (by omega) rfl enI1 (by decide) rfl rfl rfl ?_)
    try (dsimp only [st, setL, AV.cells, List.set_cons_zero, List.set_cons_succ, List.drop_zero, List.drop_succ_cons, List.take_zero, List.take_succ_cons, Nat.zero_add, Nat.add_zero, Nat.reduceAdd, List.cons_append, List.nil_append, List.eraseIdx_cons_zero, List.eraseIdx_cons_succ])
    refine WX ?_
    refine W ?_
    have hPl2 : (P.set (p.n + k + i).toNat (((liveM p k).length : Int) + ((D.take i.toNat).length : Nat))).length = (p.n + p.steps.length).toNat := by simpa using hPl
    have hPu2 : ∀ x ∈ usedL p k.toNat, x < p.n + k + (i + 1) → (P.set (p.n + k + i).toNat (((liveM p k).length : Int) + ((D.take i.toNat).length : Nat)))[x.toNat]? = some (laterM p k x) := fun x hx hlt => by
      have hb := used_bd hk hx
      by_cases e : x = p.n + k + i
      · subst e
        rw [List.getElem?_set_self (by omega), laterM, if_neg (by omega)]
        congr 1; omega
      · rw [List.getElem?_set_ne (by omega)]
        exact hPu x hx (by omega)
    generalize P.set (p.n + k + i).toNat (((liveM p k).length : Int) + ((D.take i.toNat).length : Nat)) = P2 at *
    refine dz48_3 ?_
    refine WX ?_
    refine W ?_
    refine LX_ix (fun h' HL => HL.rdI 3 rfl enI1 (by decide)) enI1 (hPu2 s.1 (hDm s hsm).1 (by omega)) (by omega) rfl rfl noG fun q2 o2 hrow2 => ?_
    try (dsimp only [st, setL, AV.cells, List.set_cons_zero, List.set_cons_succ, List.drop_zero, List.drop_succ_cons, List.take_zero, List.take_succ_cons, Nat.zero_add, Nat.add_zero, Nat.reduceAdd, List.cons_append, List.nil_append, List.eraseIdx_cons_zero, List.eraseIdx_cons_succ])
    refine WX ?_
    refine W ?_
    refine LX_ix (fun h' HL => HL.rdI 3 rfl enI1 (by decide)) enI1 (hPu2 s.2 (hDm s hsm).2 (by omega)) (by omega) rfl rfl noG fun q3 o3 hrow3 => ?_
    try (dsimp only [st, setL, AV.cells, List.set_cons_zero, List.set_cons_succ, List.drop_zero, List.drop_succ_cons, List.take_zero, List.take_succ_cons, Nat.zero_add, Nat.add_zero, Nat.reduceAdd, List.cons_append, List.nil_append, List.eraseIdx_cons_zero, List.eraseIdx_cons_succ])
    refine WX ?_
    refine W ?_
    refine LX_c0 (fun h' HL wf => step_ac (laterM p k s.1) (laterM p k s.2) h'.frz) rfl rfl noG ?_
    try (dsimp only [st, setL, AV.cells, List.set_cons_zero, List.set_cons_succ, List.drop_zero, List.drop_succ_cons, List.take_zero, List.take_succ_cons, Nat.zero_add, Nat.add_zero, Nat.reduceAdd, List.cons_append, List.nil_append, List.eraseIdx_cons_zero, List.eraseIdx_cons_succ])
    refine WX ?_
    refine W ?_
    refine LX_lt [laterS p k s] rfl rfl (by decide) rfl rfl rfl rfl enStep2 rfl rfl noG fun w1 hw1 sw1 => ?_
    try (dsimp only [st, setL, AV.cells, List.set_cons_zero, List.set_cons_succ, List.drop_zero, List.drop_succ_cons, List.take_zero, List.take_succ_cons, Nat.zero_add, Nat.add_zero, Nat.reduceAdd, List.cons_append, List.nil_append, List.eraseIdx_cons_zero, List.eraseIdx_cons_succ])
    refine WX ?_
    refine W ?_
    refine LX_f noG (LO_ap 2 rfl (fun h' HL => HL.rdI 0 rfl enStep2 (by decide)) enStep2 (by decide) (by simp) (by simp at htl ⊢; omega) (by simp at htl ⊢; omega) rfl rfl rfl fun w2 hw2 sw2 => ?_)
    try (dsimp only [st, setL, AV.cells, List.set_cons_zero, List.set_cons_succ, List.drop_zero, List.drop_succ_cons, List.take_zero, List.take_succ_cons, Nat.zero_add, Nat.add_zero, Nat.reduceAdd, List.cons_append, List.nil_append, List.eraseIdx_cons_zero, List.eraseIdx_cons_succ])
    refine WX ?_
    refine W ?_
    refine LIL_drop 2 ?_
    refine IH (n - 1) _ _ (by omega) ⟨i + 1, P2, w2, exJ rfl, by rw [htk]; rfl, by omega, by omega, hPl2, hPu2, sw2, by rw [hw2, ← htk, List.length_map]⟩
  rw [List.take_of_length_le (show D.length ≤ i.toNat by omega)] at lu ⊢
  clear IH
  refine W ?_
  have hpick : pickM P p.outs = p.outs.map (laterM p k) := pick_map fun x hx => hPu x (List.mem_append_right _ hx) (by have := used_bd hk (k := k.toNat) (List.mem_append_right _ hx); omega)
  refine LS_co (ll := p.outs.map (laterM p k)) (fun h' HL wf => by rw [← hpick]; exact renamed_ac P p.outs _ vo h' (HL.rdI 2 rfl enI1 (by decide)) (ho.le HL.le) (by omega) (fun x hx => by have := used_bd hk (k := k.toNat) (List.mem_append_right _ hx); omega)) enI1 rfl rfl fun uo luo suo => ?_
  try (dsimp only [st, setL, AV.cells, List.set_cons_zero, List.set_cons_succ, List.drop_zero, List.drop_succ_cons, List.take_zero, List.take_succ_cons, Nat.zero_add, Nat.add_zero, Nat.reduceAdd, List.cons_append, List.nil_append, List.eraseIdx_cons_zero, List.eraseIdx_cons_succ])
  refine W ?_
  refine LS_conv (L' := [.pt b4 [.i .i64 0, .ns, .ns], .pt b5 [.i .i64 0, .ns, .ns], .pt b9 [.i .i64 (liveM p k).length, u, uo], .pt b8 [.i .i64 p.n, w36, w7], .sl w36 2 ((p.steps.take k.toNat).flatMap enStep), .sl w7 1 ((liveM p k).flatMap enI), .sl u 2 ((D.map (laterS p k)).flatMap enStep), .sl uo 1 ((p.outs.map (laterM p k)).flatMap enI)]) (fun h' HL => HL.sel [8, 7, 2, 4, 5, 6, 1, 0] (by decide)) ?_
  refine LS_c0 (fun h' HL wf => isPlan_ac (splitA p k) _ h' (plr_of HL 4 5 rfl rfl) hpA) rfl rfl ?_
  try (dsimp only [st, setL, AV.cells, List.set_cons_zero, List.set_cons_succ, List.drop_zero, List.drop_succ_cons, List.take_zero, List.take_succ_cons, Nat.zero_add, Nat.add_zero, Nat.reduceAdd, List.cons_append, List.nil_append, List.eraseIdx_cons_zero, List.eraseIdx_cons_succ])
  refine W ?_
  cases e3 : planOk (splitA p k)
  · have hx : splOk p k = false := by rw [splOk, hk, e2, e3]; rfl
    rw [(splNone hx).1, (splNone hx).2, hx]
    refine W ?_
    refine RET fun h' HL => ?_
    try dsimp only [oneA]
    exact TupPP.none HL
  refine W ?_
  refine LS_c0 (fun h' HL wf => isPlan_ac (splitB p k) _ h' (by rw [hB]; exact plr_of (p := ⟨(liveM p k).length, D.map (laterS p k), p.outs.map (laterM p k)⟩) HL 6 7 rfl rfl) hpB) rfl rfl ?_
  try (dsimp only [st, setL, AV.cells, List.set_cons_zero, List.set_cons_succ, List.drop_zero, List.drop_succ_cons, List.take_zero, List.take_succ_cons, Nat.zero_add, Nat.add_zero, Nat.reduceAdd, List.cons_append, List.nil_append, List.eraseIdx_cons_zero, List.eraseIdx_cons_succ])
  refine W ?_
  cases e4 : planOk (splitB p k)
  · have hx : splOk p k = false := by rw [splOk, hk, e2, e3, e4]; rfl
    rw [(splNone hx).1, (splNone hx).2, hx]
    refine W ?_
    refine RET fun h' HL => ?_
    try dsimp only [oneA]
    exact TupPP.none HL
  have hx : splOk p k = true := by rw [splOk, hk, e2, e3, e4]; rfl
  rw [splA, splB, hx, if_pos rfl, if_pos rfl, hB]
  refine W ?_
  refine dk48_4 [] (by simp) ?_
  refine WX ?_
  refine LX_two ?_ ?_
  · refine WX ?_
    refine LX_lwe 2 noG rfl rfl rfl ?_
    try (dsimp only [st, setL, AV.cells, List.set_cons_zero, List.set_cons_succ, List.drop_zero, List.drop_succ_cons, List.take_zero, List.take_succ_cons, Nat.zero_add, Nat.add_zero, Nat.reduceAdd, List.cons_append, List.nil_append, List.eraseIdx_cons_zero, List.eraseIdx_cons_succ])
    refine WX ?_
    refine W ?_
    refine RET fun h' HL => ?_
    try dsimp only [oneA]
    exact ⟨_, ⟨w36, w7, u, uo, rfl, ⟨l36, s36, hw7, sw7⟩, ⟨by rw [lu]; simp, su, by rw [luo], suo⟩, rfl⟩, HL.sel [4, 5, 6, 7] (by decide)⟩
  · refine WX ?_
    refine LX_lwe 2 noG rfl rfl rfl ?_
    try (dsimp only [st, setL, AV.cells, List.set_cons_zero, List.set_cons_succ, List.drop_zero, List.drop_succ_cons, List.take_zero, List.take_succ_cons, Nat.zero_add, Nat.add_zero, Nat.reduceAdd, List.cons_append, List.nil_append, List.eraseIdx_cons_zero, List.eraseIdx_cons_succ])
    refine WX ?_
    refine W ?_
    refine RET fun h' HL => ?_
    try dsimp only [oneA]
    exact ⟨_, ⟨w36, w7, u, uo, rfl, ⟨l36, s36, hw7, sw7⟩, ⟨by rw [lu]; simp, su, by rw [luo], suo⟩, rfl⟩, HL.sel [4, 5, 6, 7] (by decide)⟩

/-! ### Plans cut in two: the law -/
theorem splOk_p {p : PlanM} {k : Int} (h : splOk p k = true) : planOk (splitA p k) = true ∧ planOk (splitB p k) = true := by
  simp only [splOk, Bool.and_eq_true] at h
  exact h.2.2

theorem lawFnExactSplitPlan_ac (p : PlanM) (v : AV) (k : Int) (wk : (Lit.int .i64 k).wf = true) (h : AH) (hR : PlR h v p) (hw0 : p.wf) : AC Try.prog 13 [v, .i .i64 k] h (fun r h' => r = .b true) := by
  have hR0 := hR
  obtain ⟨vs, vo, rfl, hs, ho⟩ := hR
  refine e13 _ _ fun wf => ?_
  unfold c13
  refine LI_start wf ?_
  refine W ?_
  refine LS_bxn rfl (sc_cons rfl (sc_cons (rd_sc hs) (sc_cons (rd_sc ho) rfl))) fun b2 => ?_
  try (dsimp only [st, setL, AV.cells, List.set_cons_zero, List.set_cons_succ, List.drop_zero, List.drop_succ_cons, List.take_zero, List.take_succ_cons, Nat.zero_add, Nat.add_zero, Nat.reduceAdd, List.cons_append, List.nil_append, List.eraseIdx_cons_zero, List.eraseIdx_cons_succ])
  refine W ?_
  refine LS_cq (fun h' HL wf => szPlan_ac p _ 1048576 h' (hR0.le HL.le) (by omega) (by omega) hw0.ls hw0.lo) rfl rfl ?_
  try (dsimp only [st, setL, AV.cells, List.set_cons_zero, List.set_cons_succ, List.drop_zero, List.drop_succ_cons, List.take_zero, List.take_succ_cons, Nat.zero_add, Nat.add_zero, Nat.reduceAdd, List.cons_append, List.nil_append, List.eraseIdx_cons_zero, List.eraseIdx_cons_succ])
  refine W ?_
  rintro _ ⟨z, rfl, hz⟩
  try (dsimp only [st, setL, AV.cells, List.set_cons_zero, List.set_cons_succ, List.drop_zero, List.drop_succ_cons, List.take_zero, List.take_succ_cons, Nat.zero_add, Nat.add_zero, Nat.reduceAdd, List.cons_append, List.nil_append, List.eraseIdx_cons_zero, List.eraseIdx_cons_succ])
  refine W ?_
  (first | refine LS_gt rfl ?_ ?_ | refine LS_gf rfl ?_ ?_ | refine LI_cond rfl ?_ ?_) <;> intro hc <;> have hc' := hc <;> try simp only [decide_eq_true_eq, decide_eq_false_iff_not, Bool.not_eq_true', Bool.not_eq_false', Bool.not_eq_true, Bool.not_eq_false, beq_iff_eq, bne_iff_ne, beq_eq_false_iff_ne, bne_eq_false_iff_eq, Int.not_lt, Int.not_le, ge_iff_le, gt_iff_lt, not_and, ne_eq, Decidable.not_not] at hc'
  all_goals (try (dsimp only [st, setL, AV.cells, List.set_cons_zero, List.set_cons_succ, List.drop_zero, List.drop_succ_cons, List.take_zero, List.take_succ_cons, Nat.zero_add, Nat.add_zero, Nat.reduceAdd, List.cons_append, List.nil_append, List.eraseIdx_cons_zero, List.eraseIdx_cons_succ]))
  all_goals (refine W ?_)
  · refine RET fun h' HL => ?_
    try dsimp only [oneA]
  have hw := psm_of hw0 hz hc'
  have hls := hw.ls
  have hlo := hw.lo
  have hlA : (splA p k).steps.length ≤ 1048576 ∧ (splA p k).outs.length ≤ 1048576 := ok_len fun e => (splOk_p e).1
  have hlB : (splB p k).steps.length ≤ 1048576 ∧ (splB p k).outs.length ≤ 1048576 := ok_len fun e => (splOk_p e).2
  generalize hA : splA p k = A at *
  generalize hB : splB p k = B at *
  refine LS_c1 (fun h' HL wf => toPlanX_ac p _ h' (hR0.le HL.le) hw) rfl rfl ?_
  try (dsimp only [st, setL, AV.cells, List.set_cons_zero, List.set_cons_succ, List.drop_zero, List.drop_succ_cons, List.take_zero, List.take_succ_cons, Nat.zero_add, Nat.add_zero, Nat.reduceAdd, List.cons_append, List.nil_append, List.eraseIdx_cons_zero, List.eraseIdx_cons_succ])
  refine W ?_
  rintro _ _ ⟨vs1, vo1, ⟨rfl, l1, l2, s1, s2⟩, rfl⟩
  try (dsimp only [st, setL, AV.cells, List.set_cons_zero, List.set_cons_succ, List.drop_zero, List.drop_succ_cons, List.take_zero, List.take_succ_cons, Nat.zero_add, Nat.add_zero, Nat.reduceAdd, List.cons_append, List.nil_append, List.eraseIdx_cons_zero, List.eraseIdx_cons_succ])
  refine W ?_
  refine LS_c1 (fun h' HL wf => specSplit_ac p k _ h' (plr_of HL 0 1 rfl rfl) hw) rfl rfl ?_
  try (dsimp only [st, setL, AV.cells, List.set_cons_zero, List.set_cons_succ, List.drop_zero, List.drop_succ_cons, List.take_zero, List.take_succ_cons, Nat.zero_add, Nat.add_zero, Nat.reduceAdd, List.cons_append, List.nil_append, List.eraseIdx_cons_zero, List.eraseIdx_cons_succ])
  refine W ?_
  rw [hA, hB]
  rintro _ _ ⟨aw, ao, bw, bo, rfl, ⟨l3, s3, l4, s4⟩, ⟨l5, s5, l6, s6⟩, rfl⟩
  try (dsimp only [st, setL, AV.cells, List.set_cons_zero, List.set_cons_succ, List.drop_zero, List.drop_succ_cons, List.take_zero, List.take_succ_cons, Nat.zero_add, Nat.add_zero, Nat.reduceAdd, List.cons_append, List.nil_append, List.eraseIdx_cons_zero, List.eraseIdx_cons_succ])
  refine W ?_
  refine LS_al rfl fun b6 => ?_
  try (dsimp only [st, setL, AV.cells, List.set_cons_zero, List.set_cons_succ, List.drop_zero, List.drop_succ_cons, List.take_zero, List.take_succ_cons, Nat.zero_add, Nat.add_zero, Nat.reduceAdd, List.cons_append, List.nil_append, List.eraseIdx_cons_zero, List.eraseIdx_cons_succ])
  refine W ?_
  refine LS_al rfl fun b7 => ?_
  try (dsimp only [st, setL, AV.cells, List.set_cons_zero, List.set_cons_succ, List.drop_zero, List.drop_succ_cons, List.take_zero, List.take_succ_cons, Nat.zero_add, Nat.add_zero, Nat.reduceAdd, List.cons_append, List.nil_append, List.eraseIdx_cons_zero, List.eraseIdx_cons_succ])
  refine W ?_
  refine LS_rm 6 (LS_rm 6 ?_)
  try (dsimp only [st, setL, AV.cells, List.set_cons_zero, List.set_cons_succ, List.drop_zero, List.drop_succ_cons, List.take_zero, List.take_succ_cons, Nat.zero_add, Nat.add_zero, Nat.reduceAdd, List.cons_append, List.nil_append, List.eraseIdx_cons_zero, List.eraseIdx_cons_succ])
  refine W ?_
  refine LS_c1 (fun h' HL wf => toPlanX_ac p _ h' (hR0.le HL.le) hw) rfl rfl ?_
  try (dsimp only [st, setL, AV.cells, List.set_cons_zero, List.set_cons_succ, List.drop_zero, List.drop_succ_cons, List.take_zero, List.take_succ_cons, Nat.zero_add, Nat.add_zero, Nat.reduceAdd, List.cons_append, List.nil_append, List.eraseIdx_cons_zero, List.eraseIdx_cons_succ])
  refine W ?_
  rintro _ _ ⟨vs2, vo2, ⟨rfl, l7, l8, s7, s8⟩, rfl⟩
  try (dsimp only [st, setL, AV.cells, List.set_cons_zero, List.set_cons_succ, List.drop_zero, List.drop_succ_cons, List.take_zero, List.take_succ_cons, Nat.zero_add, Nat.add_zero, Nat.reduceAdd, List.cons_append, List.nil_append, List.eraseIdx_cons_zero, List.eraseIdx_cons_succ])
  refine W ?_
  refine LS_al rfl fun b9 => ?_
  try (dsimp only [st, setL, AV.cells, List.set_cons_zero, List.set_cons_succ, List.drop_zero, List.drop_succ_cons, List.take_zero, List.take_succ_cons, Nat.zero_add, Nat.add_zero, Nat.reduceAdd, List.cons_append, List.nil_append, List.eraseIdx_cons_zero, List.eraseIdx_cons_succ])
  refine W ?_
  refine LS_c1 (fun h' HL wf => implSplit_ac p k _ h' (plr_of HL 1 2 rfl rfl) hw) rfl rfl ?_
  try (dsimp only [st, setL, AV.cells, List.set_cons_zero, List.set_cons_succ, List.drop_zero, List.drop_succ_cons, List.take_zero, List.take_succ_cons, Nat.zero_add, Nat.add_zero, Nat.reduceAdd, List.cons_append, List.nil_append, List.eraseIdx_cons_zero, List.eraseIdx_cons_succ])
  refine W ?_
  rw [hA, hB]
  rintro _ _ ⟨gs1, go1, gs2, go2, rfl, ⟨l9, s9, l10, s10⟩, ⟨l11, s11, l12, s12⟩, rfl⟩
  try (dsimp only [st, setL, AV.cells, List.set_cons_zero, List.set_cons_succ, List.drop_zero, List.drop_succ_cons, List.take_zero, List.take_succ_cons, Nat.zero_add, Nat.add_zero, Nat.reduceAdd, List.cons_append, List.nil_append, List.eraseIdx_cons_zero, List.eraseIdx_cons_succ])
  refine W ?_
  refine LS_al rfl fun b10 => ?_
  try (dsimp only [st, setL, AV.cells, List.set_cons_zero, List.set_cons_succ, List.drop_zero, List.drop_succ_cons, List.take_zero, List.take_succ_cons, Nat.zero_add, Nat.add_zero, Nat.reduceAdd, List.cons_append, List.nil_append, List.eraseIdx_cons_zero, List.eraseIdx_cons_succ])
  refine W ?_
  refine LS_al rfl fun b11 => ?_
  try (dsimp only [st, setL, AV.cells, List.set_cons_zero, List.set_cons_succ, List.drop_zero, List.drop_succ_cons, List.take_zero, List.take_succ_cons, Nat.zero_add, Nat.add_zero, Nat.reduceAdd, List.cons_append, List.nil_append, List.eraseIdx_cons_zero, List.eraseIdx_cons_succ])
  refine W ?_
  refine LS_rot 15 rfl (LS_rot 11 rfl (LS_rot 11 rfl (LS_rot 9 rfl (LS_rot 5 rfl (LS_rot 5 rfl ?_)))))
  try (dsimp only [st, setL, AV.cells, List.set_cons_zero, List.set_cons_succ, List.drop_zero, List.drop_succ_cons, List.take_zero, List.take_succ_cons, Nat.zero_add, Nat.add_zero, Nat.reduceAdd, List.cons_append, List.nil_append, List.eraseIdx_cons_zero, List.eraseIdx_cons_succ])
  refine W ?_
  refine LS_c0 (fun h' HL wf => eqPlan_same A _ _ h' (plr_of HL 6 7 rfl rfl) (plr_of HL 12 13 rfl rfl) hlA.1 hlA.2) rfl rfl ?_
  try (dsimp only [st, setL, AV.cells, List.set_cons_zero, List.set_cons_succ, List.drop_zero, List.drop_succ_cons, List.take_zero, List.take_succ_cons, Nat.zero_add, Nat.add_zero, Nat.reduceAdd, List.cons_append, List.nil_append, List.eraseIdx_cons_zero, List.eraseIdx_cons_succ])
  refine W ?_
  refine LS_c0 (fun h' HL wf => eqPlan_same B _ _ h' (plr_of HL 8 9 rfl rfl) (plr_of HL 14 15 rfl rfl) hlB.1 hlB.2) rfl rfl ?_
  try (dsimp only [st, setL, AV.cells, List.set_cons_zero, List.set_cons_succ, List.drop_zero, List.drop_succ_cons, List.take_zero, List.take_succ_cons, Nat.zero_add, Nat.add_zero, Nat.reduceAdd, List.cons_append, List.nil_append, List.eraseIdx_cons_zero, List.eraseIdx_cons_succ])
  refine W ?_
  try ((first | (refine LS_gtnH rfl (by simp) ?_; intro hg; try (dsimp only [st, setL, AV.cells, List.set_cons_zero, List.set_cons_succ, List.drop_zero, List.drop_succ_cons, List.take_zero, List.take_succ_cons, Nat.zero_add, Nat.add_zero, Nat.reduceAdd, List.cons_append, List.nil_append, List.eraseIdx_cons_zero, List.eraseIdx_cons_succ])) | (refine LS_gfnH rfl (by simp) ?_; intro hg; try (dsimp only [st, setL, AV.cells, List.set_cons_zero, List.set_cons_succ, List.drop_zero, List.drop_succ_cons, List.take_zero, List.take_succ_cons, Nat.zero_add, Nat.add_zero, Nat.reduceAdd, List.cons_append, List.nil_append, List.eraseIdx_cons_zero, List.eraseIdx_cons_succ])) | (refine LI_cond_fH rfl (by simp) ?_; intro hg)); refine W ?_)
  refine dz13_0 ?_
  refine WX ?_
  refine W ?_
  refine LX_c1 (fun h' HL wf => toPlanX_ac p _ h'.frz (hR0.le HL.le).frz hw) rfl rfl noG ?_
  try (dsimp only [st, setL, AV.cells, List.set_cons_zero, List.set_cons_succ, List.drop_zero, List.drop_succ_cons, List.take_zero, List.take_succ_cons, Nat.zero_add, Nat.add_zero, Nat.reduceAdd, List.cons_append, List.nil_append, List.eraseIdx_cons_zero, List.eraseIdx_cons_succ])
  refine WX ?_
  refine W ?_
  rintro _ _ ⟨vs3, vo3, ⟨rfl, l13, l14, s13, s14⟩, rfl⟩
  try (dsimp only [st, setL, AV.cells, List.set_cons_zero, List.set_cons_succ, List.drop_zero, List.drop_succ_cons, List.take_zero, List.take_succ_cons, Nat.zero_add, Nat.add_zero, Nat.reduceAdd, List.cons_append, List.nil_append, List.eraseIdx_cons_zero, List.eraseIdx_cons_succ])
  refine WX ?_
  refine LX_c0 (fun h' HL wf => eqPlan_same p _ _ h'.frz (plr_of HL 12 13 rfl rfl).frz (plr_of HL 0 1 rfl rfl).frz hw.ls hw.lo) rfl rfl noG ?_
  try (dsimp only [st, setL, AV.cells, List.set_cons_zero, List.set_cons_succ, List.drop_zero, List.drop_succ_cons, List.take_zero, List.take_succ_cons, Nat.zero_add, Nat.add_zero, Nat.reduceAdd, List.cons_append, List.nil_append, List.eraseIdx_cons_zero, List.eraseIdx_cons_succ])
  refine WX ?_
  refine W ?_
  refine LS_drop 2 (LS_rot 11 rfl (LS_rot 11 rfl ?_))
  refine LS_cm (.refl _) (fun h' HL wf => markPlan_ac p vs2 vo2 1 h h' _ HL (by omega) (by omega)) rfl rfl ?_
  try (dsimp only [st, setL, AV.cells, List.set_cons_zero, List.set_cons_succ, List.drop_zero, List.drop_succ_cons, List.take_zero, List.take_succ_cons, Nat.zero_add, Nat.add_zero, Nat.reduceAdd, List.cons_append, List.nil_append, List.eraseIdx_cons_zero, List.eraseIdx_cons_succ])
  refine W ?_
  rintro _ _ ⟨rfl, rfl⟩
  try (dsimp only [st, setL, AV.cells, List.set_cons_zero, List.set_cons_succ, List.drop_zero, List.drop_succ_cons, List.take_zero, List.take_succ_cons, Nat.zero_add, Nat.add_zero, Nat.reduceAdd, List.cons_append, List.nil_append, List.eraseIdx_cons_zero, List.eraseIdx_cons_succ])
  refine W ?_
  first | (refine LS_gyH rfl (by simp; omega) ?_; intro hg) | (refine LI_cond_tH rfl (by simp; omega) ?_; intro hg)
  refine W ?_
  refine LS_c0 (fun h' HL wf => eqPlan_same A _ _ h' (plr_of HL 8 9 rfl rfl) (plr_of HL 12 13 rfl rfl) hlA.1 hlA.2) rfl rfl ?_
  try (dsimp only [st, setL, AV.cells, List.set_cons_zero, List.set_cons_succ, List.drop_zero, List.drop_succ_cons, List.take_zero, List.take_succ_cons, Nat.zero_add, Nat.add_zero, Nat.reduceAdd, List.cons_append, List.nil_append, List.eraseIdx_cons_zero, List.eraseIdx_cons_succ])
  refine W ?_
  refine LS_c0 (fun h' HL wf => eqPlan_same B _ _ h' (plr_of HL 10 11 rfl rfl) (plr_of HL 14 15 rfl rfl) hlB.1 hlB.2) rfl rfl ?_
  try (dsimp only [st, setL, AV.cells, List.set_cons_zero, List.set_cons_succ, List.drop_zero, List.drop_succ_cons, List.take_zero, List.take_succ_cons, Nat.zero_add, Nat.add_zero, Nat.reduceAdd, List.cons_append, List.nil_append, List.eraseIdx_cons_zero, List.eraseIdx_cons_succ])
  refine W ?_
  try ((first | (refine LS_gtnH rfl (by simp) ?_; intro hg; try (dsimp only [st, setL, AV.cells, List.set_cons_zero, List.set_cons_succ, List.drop_zero, List.drop_succ_cons, List.take_zero, List.take_succ_cons, Nat.zero_add, Nat.add_zero, Nat.reduceAdd, List.cons_append, List.nil_append, List.eraseIdx_cons_zero, List.eraseIdx_cons_succ])) | (refine LS_gfnH rfl (by simp) ?_; intro hg; try (dsimp only [st, setL, AV.cells, List.set_cons_zero, List.set_cons_succ, List.drop_zero, List.drop_succ_cons, List.take_zero, List.take_succ_cons, Nat.zero_add, Nat.add_zero, Nat.reduceAdd, List.cons_append, List.nil_append, List.eraseIdx_cons_zero, List.eraseIdx_cons_succ])) | (refine LI_cond_fH rfl (by simp) ?_; intro hg)); refine W ?_)
  refine LS_rot 9 rfl (LS_rot 9 rfl ?_)
  refine LS_cm (.refl _) (fun h' HL wf => markPlan_ac A gs1 go1 1 h h' _ HL (by omega) (by omega)) rfl rfl ?_
  try (dsimp only [st, setL, AV.cells, List.set_cons_zero, List.set_cons_succ, List.drop_zero, List.drop_succ_cons, List.take_zero, List.take_succ_cons, Nat.zero_add, Nat.add_zero, Nat.reduceAdd, List.cons_append, List.nil_append, List.eraseIdx_cons_zero, List.eraseIdx_cons_succ])
  refine W ?_
  rintro _ _ ⟨rfl, rfl⟩
  try (dsimp only [st, setL, AV.cells, List.set_cons_zero, List.set_cons_succ, List.drop_zero, List.drop_succ_cons, List.take_zero, List.take_succ_cons, Nat.zero_add, Nat.add_zero, Nat.reduceAdd, List.cons_append, List.nil_append, List.eraseIdx_cons_zero, List.eraseIdx_cons_succ])
  refine W ?_
  refine LS_rot 11 rfl (LS_rot 11 rfl ?_)
  refine LS_cm (.refl _) (fun h' HL wf => markPlan_ac B gs2 go2 _ h h' _ HL (by omega) (by omega)) rfl rfl ?_
  try (dsimp only [st, setL, AV.cells, List.set_cons_zero, List.set_cons_succ, List.drop_zero, List.drop_succ_cons, List.take_zero, List.take_succ_cons, Nat.zero_add, Nat.add_zero, Nat.reduceAdd, List.cons_append, List.nil_append, List.eraseIdx_cons_zero, List.eraseIdx_cons_succ])
  refine W ?_
  rintro _ _ ⟨rfl, rfl⟩
  try (dsimp only [st, setL, AV.cells, List.set_cons_zero, List.set_cons_succ, List.drop_zero, List.drop_succ_cons, List.take_zero, List.take_succ_cons, Nat.zero_add, Nat.add_zero, Nat.reduceAdd, List.cons_append, List.nil_append, List.eraseIdx_cons_zero, List.eraseIdx_cons_succ])
  refine W ?_
  refine LS_rm 8 (LS_rm 5 (LS_rm 4 ?_))
  try (dsimp only [st, setL, AV.cells, List.set_cons_zero, List.set_cons_succ, List.drop_zero, List.drop_succ_cons, List.take_zero, List.take_succ_cons, Nat.zero_add, Nat.add_zero, Nat.reduceAdd, List.cons_append, List.nil_append, List.eraseIdx_cons_zero, List.eraseIdx_cons_succ])
  refine W ?_
  refine LS_c0 (fun h' HL wf => heldPlan_ac A.steps.length A.outs.length A.n gs1 go1 1 h' (HL.rdI 2 rfl enStep2 (by decide)) (HL.rdI 3 rfl enI1 (by decide)) (by omega) (by omega)) rfl rfl ?_
  try (dsimp only [st, setL, AV.cells, List.set_cons_zero, List.set_cons_succ, List.drop_zero, List.drop_succ_cons, List.take_zero, List.take_succ_cons, Nat.zero_add, Nat.add_zero, Nat.reduceAdd, List.cons_append, List.nil_append, List.eraseIdx_cons_zero, List.eraseIdx_cons_succ])
  refine W ?_
  try ((first | (refine LS_gtnH rfl (by simp; omega) ?_; intro hg; try (dsimp only [st, setL, AV.cells, List.set_cons_zero, List.set_cons_succ, List.drop_zero, List.drop_succ_cons, List.take_zero, List.take_succ_cons, Nat.zero_add, Nat.add_zero, Nat.reduceAdd, List.cons_append, List.nil_append, List.eraseIdx_cons_zero, List.eraseIdx_cons_succ])) | (refine LS_gfnH rfl (by simp; omega) ?_; intro hg; try (dsimp only [st, setL, AV.cells, List.set_cons_zero, List.set_cons_succ, List.drop_zero, List.drop_succ_cons, List.take_zero, List.take_succ_cons, Nat.zero_add, Nat.add_zero, Nat.reduceAdd, List.cons_append, List.nil_append, List.eraseIdx_cons_zero, List.eraseIdx_cons_succ])) | (refine LI_cond_fH rfl (by simp; omega) ?_; intro hg)); refine W ?_)
  refine LS_c0 (fun h' HL wf => heldPlan_ac B.steps.length B.outs.length B.n gs2 go2 _ h' (HL.rdI 0 rfl enStep2 (by decide)) (HL.rdI 1 rfl enI1 (by decide)) (by omega) (by omega)) rfl rfl ?_
  try (dsimp only [st, setL, AV.cells, List.set_cons_zero, List.set_cons_succ, List.drop_zero, List.drop_succ_cons, List.take_zero, List.take_succ_cons, Nat.zero_add, Nat.add_zero, Nat.reduceAdd, List.cons_append, List.nil_append, List.eraseIdx_cons_zero, List.eraseIdx_cons_succ])
  refine W ?_
  try ((first | (refine LS_gtnH rfl (by simp; omega) ?_; intro hg; try (dsimp only [st, setL, AV.cells, List.set_cons_zero, List.set_cons_succ, List.drop_zero, List.drop_succ_cons, List.take_zero, List.take_succ_cons, Nat.zero_add, Nat.add_zero, Nat.reduceAdd, List.cons_append, List.nil_append, List.eraseIdx_cons_zero, List.eraseIdx_cons_succ])) | (refine LS_gfnH rfl (by simp; omega) ?_; intro hg; try (dsimp only [st, setL, AV.cells, List.set_cons_zero, List.set_cons_succ, List.drop_zero, List.drop_succ_cons, List.take_zero, List.take_succ_cons, Nat.zero_add, Nat.add_zero, Nat.reduceAdd, List.cons_append, List.nil_append, List.eraseIdx_cons_zero, List.eraseIdx_cons_succ])) | (refine LI_cond_fH rfl (by simp; omega) ?_; intro hg)); refine W ?_)
  try ((first | (refine LS_gtnH rfl (by simp) ?_; intro hg; try (dsimp only [st, setL, AV.cells, List.set_cons_zero, List.set_cons_succ, List.drop_zero, List.drop_succ_cons, List.take_zero, List.take_succ_cons, Nat.zero_add, Nat.add_zero, Nat.reduceAdd, List.cons_append, List.nil_append, List.eraseIdx_cons_zero, List.eraseIdx_cons_succ])) | (refine LS_gfnH rfl (by simp) ?_; intro hg; try (dsimp only [st, setL, AV.cells, List.set_cons_zero, List.set_cons_succ, List.drop_zero, List.drop_succ_cons, List.take_zero, List.take_succ_cons, Nat.zero_add, Nat.add_zero, Nat.reduceAdd, List.cons_append, List.nil_append, List.eraseIdx_cons_zero, List.eraseIdx_cons_succ])) | (refine LI_cond_fH rfl (by simp) ?_; intro hg)); refine W ?_)
  refine LS_c1 (fun h' HL wf => toPlanX_ac p _ h' (hR0.le HL.le) hw) rfl rfl ?_
  try (dsimp only [st, setL, AV.cells, List.set_cons_zero, List.set_cons_succ, List.drop_zero, List.drop_succ_cons, List.take_zero, List.take_succ_cons, Nat.zero_add, Nat.add_zero, Nat.reduceAdd, List.cons_append, List.nil_append, List.eraseIdx_cons_zero, List.eraseIdx_cons_succ])
  refine W ?_
  rintro _ _ ⟨vs4, vo4, ⟨rfl, l15, l16, s15, s16⟩, rfl⟩
  try (dsimp only [st, setL, AV.cells, List.set_cons_zero, List.set_cons_succ, List.drop_zero, List.drop_succ_cons, List.take_zero, List.take_succ_cons, Nat.zero_add, Nat.add_zero, Nat.reduceAdd, List.cons_append, List.nil_append, List.eraseIdx_cons_zero, List.eraseIdx_cons_succ])
  refine W ?_
  refine LS_c1 (fun h' HL wf => implSplit_ac p k _ h' (plr_of HL 0 1 rfl rfl) hw) rfl rfl ?_
  try (dsimp only [st, setL, AV.cells, List.set_cons_zero, List.set_cons_succ, List.drop_zero, List.drop_succ_cons, List.take_zero, List.take_succ_cons, Nat.zero_add, Nat.add_zero, Nat.reduceAdd, List.cons_append, List.nil_append, List.eraseIdx_cons_zero, List.eraseIdx_cons_succ])
  refine W ?_
  rw [hA, hB]
  rintro _ _ ⟨g1a, g1b, g2a, g2b, rfl, ⟨l17, s17, l18, s18⟩, ⟨l19, s19, l20, s20⟩, rfl⟩
  try (dsimp only [st, setL, AV.cells, List.set_cons_zero, List.set_cons_succ, List.drop_zero, List.drop_succ_cons, List.take_zero, List.take_succ_cons, Nat.zero_add, Nat.add_zero, Nat.reduceAdd, List.cons_append, List.nil_append, List.eraseIdx_cons_zero, List.eraseIdx_cons_succ])
  refine W ?_
  refine LS_rm 4 (LS_rm 4 (LS_rot 11 rfl (LS_rot 11 rfl (LS_rot 11 rfl (LS_rot 11 rfl ?_)))))
  try (dsimp only [st, setL, AV.cells, List.set_cons_zero, List.set_cons_succ, List.drop_zero, List.drop_succ_cons, List.take_zero, List.take_succ_cons, Nat.zero_add, Nat.add_zero, Nat.reduceAdd, List.cons_append, List.nil_append, List.eraseIdx_cons_zero, List.eraseIdx_cons_succ])
  refine W ?_
  refine LS_al rfl fun b16 => ?_
  try (dsimp only [st, setL, AV.cells, List.set_cons_zero, List.set_cons_succ, List.drop_zero, List.drop_succ_cons, List.take_zero, List.take_succ_cons, Nat.zero_add, Nat.add_zero, Nat.reduceAdd, List.cons_append, List.nil_append, List.eraseIdx_cons_zero, List.eraseIdx_cons_succ])
  refine W ?_
  refine LS_al rfl fun b17 => ?_
  try (dsimp only [st, setL, AV.cells, List.set_cons_zero, List.set_cons_succ, List.drop_zero, List.drop_succ_cons, List.take_zero, List.take_succ_cons, Nat.zero_add, Nat.add_zero, Nat.reduceAdd, List.cons_append, List.nil_append, List.eraseIdx_cons_zero, List.eraseIdx_cons_succ])
  refine W ?_
  refine LS_c0 (fun h' HL wf => eqPlan_same A _ _ h' (plr_of HL 6 7 rfl rfl) (plr_of HL 15 16 rfl rfl) hlA.1 hlA.2) rfl rfl ?_
  try (dsimp only [st, setL, AV.cells, List.set_cons_zero, List.set_cons_succ, List.drop_zero, List.drop_succ_cons, List.take_zero, List.take_succ_cons, Nat.zero_add, Nat.add_zero, Nat.reduceAdd, List.cons_append, List.nil_append, List.eraseIdx_cons_zero, List.eraseIdx_cons_succ])
  refine W ?_
  refine LS_c0 (fun h' HL wf => eqPlan_same B _ _ h' (plr_of HL 8 9 rfl rfl) (plr_of HL 17 18 rfl rfl) hlB.1 hlB.2) rfl rfl ?_
  try (dsimp only [st, setL, AV.cells, List.set_cons_zero, List.set_cons_succ, List.drop_zero, List.drop_succ_cons, List.take_zero, List.take_succ_cons, Nat.zero_add, Nat.add_zero, Nat.reduceAdd, List.cons_append, List.nil_append, List.eraseIdx_cons_zero, List.eraseIdx_cons_succ])
  refine W ?_
  try ((first | (refine LS_gtnH rfl (by simp) ?_; intro hg; try (dsimp only [st, setL, AV.cells, List.set_cons_zero, List.set_cons_succ, List.drop_zero, List.drop_succ_cons, List.take_zero, List.take_succ_cons, Nat.zero_add, Nat.add_zero, Nat.reduceAdd, List.cons_append, List.nil_append, List.eraseIdx_cons_zero, List.eraseIdx_cons_succ])) | (refine LS_gfnH rfl (by simp) ?_; intro hg; try (dsimp only [st, setL, AV.cells, List.set_cons_zero, List.set_cons_succ, List.drop_zero, List.drop_succ_cons, List.take_zero, List.take_succ_cons, Nat.zero_add, Nat.add_zero, Nat.reduceAdd, List.cons_append, List.nil_append, List.eraseIdx_cons_zero, List.eraseIdx_cons_succ])) | (refine LI_cond_fH rfl (by simp) ?_; intro hg)); refine W ?_)
  refine LS_c0 (fun h' HL wf => heldPlan_ac A.steps.length A.outs.length A.n gs1 go1 1 h' (HL.rdI 12 rfl enStep2 (by decide)) (HL.rdI 13 rfl enI1 (by decide)) (by omega) (by omega)) rfl rfl ?_
  try (dsimp only [st, setL, AV.cells, List.set_cons_zero, List.set_cons_succ, List.drop_zero, List.drop_succ_cons, List.take_zero, List.take_succ_cons, Nat.zero_add, Nat.add_zero, Nat.reduceAdd, List.cons_append, List.nil_append, List.eraseIdx_cons_zero, List.eraseIdx_cons_succ])
  refine W ?_
  try ((first | (refine LS_gtnH rfl (by simp; omega) ?_; intro hg; try (dsimp only [st, setL, AV.cells, List.set_cons_zero, List.set_cons_succ, List.drop_zero, List.drop_succ_cons, List.take_zero, List.take_succ_cons, Nat.zero_add, Nat.add_zero, Nat.reduceAdd, List.cons_append, List.nil_append, List.eraseIdx_cons_zero, List.eraseIdx_cons_succ])) | (refine LS_gfnH rfl (by simp; omega) ?_; intro hg; try (dsimp only [st, setL, AV.cells, List.set_cons_zero, List.set_cons_succ, List.drop_zero, List.drop_succ_cons, List.take_zero, List.take_succ_cons, Nat.zero_add, Nat.add_zero, Nat.reduceAdd, List.cons_append, List.nil_append, List.eraseIdx_cons_zero, List.eraseIdx_cons_succ])) | (refine LI_cond_fH rfl (by simp; omega) ?_; intro hg)); refine W ?_)
  refine LS_c0 (fun h' HL wf => heldPlan_ac B.steps.length B.outs.length B.n gs2 go2 _ h' (HL.rdI 10 rfl enStep2 (by decide)) (HL.rdI 11 rfl enI1 (by decide)) (by omega) (by omega)) rfl rfl ?_
  try (dsimp only [st, setL, AV.cells, List.set_cons_zero, List.set_cons_succ, List.drop_zero, List.drop_succ_cons, List.take_zero, List.take_succ_cons, Nat.zero_add, Nat.add_zero, Nat.reduceAdd, List.cons_append, List.nil_append, List.eraseIdx_cons_zero, List.eraseIdx_cons_succ])
  refine W ?_
  try ((first | (refine LS_gtnH rfl (by simp; omega) ?_; intro hg; try (dsimp only [st, setL, AV.cells, List.set_cons_zero, List.set_cons_succ, List.drop_zero, List.drop_succ_cons, List.take_zero, List.take_succ_cons, Nat.zero_add, Nat.add_zero, Nat.reduceAdd, List.cons_append, List.nil_append, List.eraseIdx_cons_zero, List.eraseIdx_cons_succ])) | (refine LS_gfnH rfl (by simp; omega) ?_; intro hg; try (dsimp only [st, setL, AV.cells, List.set_cons_zero, List.set_cons_succ, List.drop_zero, List.drop_succ_cons, List.take_zero, List.take_succ_cons, Nat.zero_add, Nat.add_zero, Nat.reduceAdd, List.cons_append, List.nil_append, List.eraseIdx_cons_zero, List.eraseIdx_cons_succ])) | (refine LI_cond_fH rfl (by simp; omega) ?_; intro hg)); refine W ?_)
  try ((first | (refine LS_gtnH rfl (by simp) ?_; intro hg; try (dsimp only [st, setL, AV.cells, List.set_cons_zero, List.set_cons_succ, List.drop_zero, List.drop_succ_cons, List.take_zero, List.take_succ_cons, Nat.zero_add, Nat.add_zero, Nat.reduceAdd, List.cons_append, List.nil_append, List.eraseIdx_cons_zero, List.eraseIdx_cons_succ])) | (refine LS_gfnH rfl (by simp) ?_; intro hg; try (dsimp only [st, setL, AV.cells, List.set_cons_zero, List.set_cons_succ, List.drop_zero, List.drop_succ_cons, List.take_zero, List.take_succ_cons, Nat.zero_add, Nat.add_zero, Nat.reduceAdd, List.cons_append, List.nil_append, List.eraseIdx_cons_zero, List.eraseIdx_cons_succ])) | (refine LI_cond_fH rfl (by simp) ?_; intro hg)); refine W ?_)
  refine RET fun h' HL => ?_
  try dsimp only [oneA]
end Go.Proofs.Ytdcliofmdlhmaaa
