/- The walk of the law FnExactBinaryPlan, part 2: what each function that it reaches computes. -/
import Derived.Test.YtdcliofmdlhmaaaXFnExactBinaryPlana
namespace Go.Proofs.Ytdcliofmdlhmaaa
open Go.AL
set_option linter.unusedVariables false
set_option linter.unusedSimpArgs false
set_option maxRecDepth 100000
set_option maxHeartbeats 1000000
attribute [local irreducible] AS AI AIL OpR AC CW AWP ALoop LS LI LIL LThen LLoop LBlk LRet Lh AX OpV OpF

theorem implBin_ac (n : Int) (h : AH) : AC Try.prog 23 [.i .i64 n] h (fun r h' => ∃ M, TupP (binR n) (binOk n) r M ∧ Loq h h' M) := by
  refine e23 _ fun wf => ?_
  unfold c23
  refine LF_seq ?_
  refine W ?_
  refine LS_al rfl fun b2 => ?_
  try (dsimp only [st, setL, AV.cells, List.set_cons_zero, List.set_cons_succ, List.drop_zero, List.drop_succ_cons, List.take_zero, List.take_succ_cons, Nat.zero_add, Nat.add_zero, Nat.reduceAdd, List.cons_append, List.nil_append, List.eraseIdx_cons_zero, List.eraseIdx_cons_succ])
  refine W ?_
  refine LFQ_n ?_
  refine LF_seq ?_
  refine W ?_
  refine LS_c0 (fun h' HL wf => isNumber_ac n h') rfl rfl ?_
  try (dsimp only [st, setL, AV.cells, List.set_cons_zero, List.set_cons_succ, List.drop_zero, List.drop_succ_cons, List.take_zero, List.take_succ_cons, Nat.zero_add, Nat.add_zero, Nat.reduceAdd, List.cons_append, List.nil_append, List.eraseIdx_cons_zero, List.eraseIdx_cons_succ])
  refine W ?_
  (first | refine LS_gt rfl ?_ ?_ | refine LS_gf rfl ?_ ?_ | refine LI_cond rfl ?_ ?_) <;> intro hc <;> have hc' := hc <;> try simp only [decide_eq_true_eq, decide_eq_false_iff_not, Bool.not_eq_true', Bool.not_eq_false', Bool.not_eq_true, Bool.not_eq_false, beq_iff_eq, bne_iff_ne, beq_eq_false_iff_ne, bne_eq_false_iff_eq, Int.not_lt, Int.not_le, ge_iff_le, gt_iff_lt, not_and, ne_eq, Decidable.not_not] at hc'
  all_goals (try (dsimp only [st, setL, AV.cells, List.set_cons_zero, List.set_cons_succ, List.drop_zero, List.drop_succ_cons, List.take_zero, List.take_succ_cons, Nat.zero_add, Nat.add_zero, Nat.reduceAdd, List.cons_append, List.nil_append, List.eraseIdx_cons_zero, List.eraseIdx_cons_succ]))
  all_goals (refine W ?_)
  · have hx : binOk n = false := by rw [binOk, nt hc, Bool.false_and]
    rw [binR, hx, if_neg (by simp)]
    refine LFQ_ret (rs := [.cell 2 31, .tmp 3]) (by kernel_rfl) ?_
    refine RET fun h' HL => ?_
    try dsimp only [oneA]
    exact TupP.none HL
  · have hn : 1 ≤ n ∧ n ≤ 1000000 := by simpa using hc
    have hdl := dig2_len 20 n.toNat (by omega)
    have hdn := dig2_ne hn.1
    refine LFQ_n ?_
    refine LF_seq ?_
    refine W ?_
    refine LS_c1 (fun h' HL wf => newMaker_ac 1 h') rfl rfl ?_
    try (dsimp only [st, setL, AV.cells, List.set_cons_zero, List.set_cons_succ, List.drop_zero, List.drop_succ_cons, List.take_zero, List.take_succ_cons, Nat.zero_add, Nat.add_zero, Nat.reduceAdd, List.cons_append, List.nil_append, List.eraseIdx_cons_zero, List.eraseIdx_cons_succ])
    refine W ?_
    rintro _ _ ⟨bm, rfl, rfl⟩
    try (dsimp only [st, setL, AV.cells, List.set_cons_zero, List.set_cons_succ, List.drop_zero, List.drop_succ_cons, List.take_zero, List.take_succ_cons, Nat.zero_add, Nat.add_zero, Nat.reduceAdd, List.cons_append, List.nil_append, List.eraseIdx_cons_zero, List.eraseIdx_cons_succ])
    refine W ?_
    refine LS_al rfl fun b4 => ?_
    try (dsimp only [st, setL, AV.cells, List.set_cons_zero, List.set_cons_succ, List.drop_zero, List.drop_succ_cons, List.take_zero, List.take_succ_cons, Nat.zero_add, Nat.add_zero, Nat.reduceAdd, List.cons_append, List.nil_append, List.eraseIdx_cons_zero, List.eraseIdx_cons_succ])
    refine W ?_
    refine LS_al rfl fun b5 => ?_
    try (dsimp only [st, setL, AV.cells, List.set_cons_zero, List.set_cons_succ, List.drop_zero, List.drop_succ_cons, List.take_zero, List.take_succ_cons, Nat.zero_add, Nat.add_zero, Nat.reduceAdd, List.cons_append, List.nil_append, List.eraseIdx_cons_zero, List.eraseIdx_cons_succ])
    refine W ?_
    refine LFQ_n ?_
    refine LF_seq ?_
    refine W ?_
    refine LS_co (fun h' HL wf => digits_ac n h' (by omega) hn.2) enI1 rfl rfl fun w3 hw3 sw3 => ?_
    try (dsimp only [st, setL, AV.cells, List.set_cons_zero, List.set_cons_succ, List.drop_zero, List.drop_succ_cons, List.take_zero, List.take_succ_cons, Nat.zero_add, Nat.add_zero, Nat.reduceAdd, List.cons_append, List.nil_append, List.eraseIdx_cons_zero, List.eraseIdx_cons_succ])
    refine W ?_
    have hQ : binQ n = ⟨1, (bEnd n).ss, [(bEnd n).vt]⟩ := rfl
    have hE : bEnd n = bSt (binE n) (binE n).length := rfl
    have hEd : binE n = (dig2 n.toNat).take ((dig2 n.toNat).length - 1) := rfl
    generalize hD : dig2 n.toNat = D at *
    refine LFQ_n ?_
    generalize binE n = E at *
    refine LF_conv (L' := [.pt bm [.i .i64 1, .ns, .ns], .sl .ns 2 (([] : List (Int × Int)).flatMap enStep), .pt b5 [.i .i64 0], .pt b4 [.p bm 0], .sl w3 1 (D.flatMap enI), .pt b2 [.i .i64 0, .ns, .ns]]) (fun h' HL => (loq_ns HL 2).sel [4, 0, 2, 3, 1, 5] (by decide)) ?_
    refine LF_rf hfa23_0 hfb23_0 rfl ?_
    refine W ?_
    refine LS_sz (u := D.length - 1) (q := 0) (fun h' HL => HL.rdI 4 rfl enI1 (by decide)) enI1 (.inl ⟨rfl, rfl⟩) (.inr ⟨_, _, _, rfl, rfl, by omega, by omega⟩) (by omega) (by omega) rfl fun w20 hw20 sw20 rw20 => ?_
    try (dsimp only [st, setL, AV.cells, List.set_cons_zero, List.set_cons_succ, List.drop_zero, List.drop_succ_cons, List.take_zero, List.take_succ_cons, Nat.zero_add, Nat.add_zero, Nat.reduceAdd, List.cons_append, List.nil_append, List.eraseIdx_cons_zero, List.eraseIdx_cons_succ])
    refine W ?_
    rw [List.drop_zero, ← hEd] at rw20
    have hEl : E.length = D.length - 1 := by rw [hEd, List.length_take]; omega
    refine LS_c1 (fun h' HL wf => backward_ac (rw20 h' (HL.rdI 4 rfl enI1 (by decide)))) rfl rfl ?_
    try (dsimp only [st, setL, AV.cells, List.set_cons_zero, List.set_cons_succ, List.drop_zero, List.drop_succ_cons, List.take_zero, List.take_succ_cons, Nat.zero_add, Nat.add_zero, Nat.reduceAdd, List.cons_append, List.nil_append, List.eraseIdx_cons_zero, List.eraseIdx_cons_succ])
    refine W ?_
    rintro _ _ ⟨bb, rfl, rfl⟩
    try (dsimp only [st, setL, AV.cells, List.set_cons_zero, List.set_cons_succ, List.drop_zero, List.drop_succ_cons, List.take_zero, List.take_succ_cons, Nat.zero_add, Nat.add_zero, Nat.reduceAdd, List.cons_append, List.nil_append, List.eraseIdx_cons_zero, List.eraseIdx_cons_succ])
    refine LS_conv (L' := [.pt bm [.i .i64 1, .ns, .ns], .sl .ns 2 (([] : List (Int × Int)).flatMap enStep), .pt b5 [.i .i64 0], .pt b4 [.p bm 0], .pt bb [w20], .sl w3 1 (D.flatMap enI), .pt b2 [.i .i64 0, .ns, .ns]]) (fun h' HL => HL.sel [1, 2, 3, 4, 0, 5, 6] (by decide)) (W ?_)
    refine ⟨rfl, _, _, E.length, fun k L => ∃ u, L = [.pt bm [.i .i64 1, u, .ns], .sl u 2 ((bSt E k).ss.flatMap enStep), .pt b5 [.i .i64 (bSt E k).vt], .pt b4 [.p bm 0], .pt bb [w20], .sl w3 1 (D.flatMap enI), .pt b2 [.i .i64 0, .ns, .ns]] ∧ lenA u = some (bSt E k).ss.length ∧ u.sc = true, _, rfl,
      back_iter (by omega) (fun k L' h' ⟨u, e, _⟩ HL' => by subst e; exact ⟨HL'.cellP 4 rfl rfl, rw20 h' (HL'.rdI 5 rfl enI1 (by decide))⟩), ⟨.ns, rfl, rfl, rfl⟩, ?_, ?_⟩
    · rintro k L' ⟨u, rfl, lu, su⟩ hk l m
      have hI := bSt_inv E k (by omega)
      have hI2 := bSq_inv hI (by omega)
      have hsl := hI.ln
      have hsl2 := hI2.ln
      simp only [setps, List.zip_cons_cons, List.zip_nil_left, List.foldl_cons, List.foldl_nil, List.set_cons_succ, List.set_cons_zero]
      unfold cfa23_0
      refine LR_reg NoOut.nor rfl ?_
      refine W ?_
      refine ⟨rfl, ?_⟩
      unfold cfb23_0
      refine LR_block (LR_seq (LR_reg (NoOut.then (NoOut.blk NoOut.nor)) rfl ?_))
      refine W ?_
      refine LS_cm (.refl _) (fun h' HL wf => multiply_ac 1 (bSt E k).ss u .ns (bSt E k).vt (bSt E k).vt bm h h' _ HL (by omega) (by omega) (by omega)) rfl rfl ?_
      try (dsimp only [st, setL, AV.cells, List.set_cons_zero, List.set_cons_succ, List.drop_zero, List.drop_succ_cons, List.take_zero, List.take_succ_cons, Nat.zero_add, Nat.add_zero, Nat.reduceAdd, List.cons_append, List.nil_append, List.eraseIdx_cons_zero, List.eraseIdx_cons_succ])
      refine W ?_
      rintro _ _ ⟨w, rfl, lw, sw, rfl⟩
      try (dsimp only [st, setL, AV.cells, List.set_cons_zero, List.set_cons_succ, List.drop_zero, List.drop_succ_cons, List.take_zero, List.take_succ_cons, Nat.zero_add, Nat.add_zero, Nat.reduceAdd, List.cons_append, List.nil_append, List.eraseIdx_cons_zero, List.eraseIdx_cons_succ])
      refine W ?_
      refine LRThen_n (LR_seq (LR_reg (NoOut.then (NoOut.blk NoOut.nor)) rfl ?_))
      refine W ?_
      refine LRThen_n (LR_cond rfl (fun hc => ?_) (fun hc => ?_))
      · have hd : E[E.length - 1 - k]?.getD 0 = 1 := by simpa using hc
        refine LR_reg (NoOut.blk NoOut.nor) rfl ?_
        refine W ?_
        refine LS_cm (.refl _) (fun h' HL wf => multiply_ac 1 (bSq (bSt E k)).ss w .ns (bSq (bSt E k)).vt 0 bm h h' _ HL (by omega) (by omega) (by omega)) rfl rfl ?_
        try (dsimp only [st, setL, AV.cells, List.set_cons_zero, List.set_cons_succ, List.drop_zero, List.drop_succ_cons, List.take_zero, List.take_succ_cons, Nat.zero_add, Nat.add_zero, Nat.reduceAdd, List.cons_append, List.nil_append, List.eraseIdx_cons_zero, List.eraseIdx_cons_succ])
        refine W ?_
        rintro _ _ ⟨w2, rfl, lw2, sw2, rfl⟩
        try (dsimp only [st, setL, AV.cells, List.set_cons_zero, List.set_cons_succ, List.drop_zero, List.drop_succ_cons, List.take_zero, List.take_succ_cons, Nat.zero_add, Nat.add_zero, Nat.reduceAdd, List.cons_append, List.nil_append, List.eraseIdx_cons_zero, List.eraseIdx_cons_succ])
        refine W ?_
        refine ⟨rfl, w2, ?_, ?_, sw2⟩ <;> rw [bSt, bAd, if_pos hd]
        exact lw2
      · have hd : ¬ E[E.length - 1 - k]?.getD 0 = 1 := by simpa using hc
        refine LR_skip (LBlk_n ⟨rfl, w, ?_, ?_, sw⟩) <;> rw [bSt, bAd, if_neg hd]
        · rfl
        · exact lw
    · rintro L' ⟨u, rfl, lu, su⟩
      have hI := bSt_inv E E.length (by omega)
      have hsl := hI.ln
      rw [← hE] at lu hI hsl ⊢
      refine LF_seq ?_
      refine W ?_
      have hq0 : PSm (binQ n) := by rw [hQ]; exact psm_r (by omega) hI.os (by omega) (by have := hI.q0; omega) hI.q1
      refine LS_lt [(bEnd n).vt] rfl rfl (by decide) rfl rfl rfl rfl enI1 rfl rfl fun wq lq sq => ?_
      try (dsimp only [st, setL, AV.cells, List.set_cons_zero, List.set_cons_succ, List.drop_zero, List.drop_succ_cons, List.take_zero, List.take_succ_cons, Nat.zero_add, Nat.add_zero, Nat.reduceAdd, List.cons_append, List.nil_append, List.eraseIdx_cons_zero, List.eraseIdx_cons_succ])
      refine W ?_
      refine LS_rot 1 rfl ?_
      refine LS_cm (.refl _) (fun h' HL wf => makerPlan_ac 1 u .ns wq bm h h' _ HL su sq) rfl rfl ?_
      try (dsimp only [st, setL, AV.cells, List.set_cons_zero, List.set_cons_succ, List.drop_zero, List.drop_succ_cons, List.take_zero, List.take_succ_cons, Nat.zero_add, Nat.add_zero, Nat.reduceAdd, List.cons_append, List.nil_append, List.eraseIdx_cons_zero, List.eraseIdx_cons_succ])
      refine W ?_
      rintro _ _ ⟨rfl, rfl⟩
      try (dsimp only [st, setL, AV.cells, List.set_cons_zero, List.set_cons_succ, List.drop_zero, List.drop_succ_cons, List.take_zero, List.take_succ_cons, Nat.zero_add, Nat.add_zero, Nat.reduceAdd, List.cons_append, List.nil_append, List.eraseIdx_cons_zero, List.eraseIdx_cons_succ])
      refine W ?_
      refine LS_conv (L' := [.pt b2 [.i .i64 0, .ns, .ns], .sl wq 1 ([(bEnd n).vt].flatMap enI), .sl u 2 ((bEnd n).ss.flatMap enStep)]) (fun h' HL => HL.sel [7, 1, 2] (by decide)) ?_
      cases hq : planOk (binQ n)
      · have hx : binOk n = false := by rw [binOk, hq, Bool.and_false]
        rw [binR, hx, if_neg (by simp)]
        rw [hQ] at hq0 hq
        refine LS_c0 (fun h' HL wf => told_f ⟨1, (bEnd n).ss, [(bEnd n).vt]⟩ _ h' (plr_of HL 2 1 rfl rfl) hq0 hq) rfl rfl ?_
        try (dsimp only [st, setL, AV.cells, List.set_cons_zero, List.set_cons_succ, List.drop_zero, List.drop_succ_cons, List.take_zero, List.take_succ_cons, Nat.zero_add, Nat.add_zero, Nat.reduceAdd, List.cons_append, List.nil_append, List.eraseIdx_cons_zero, List.eraseIdx_cons_succ])
        refine W ?_
        refine LFQ_n (LF_retL (rs := [.cell 2 31, .tmp 3]) (by kernel_rfl) ?_)
        refine RET fun h' HL => ?_
        try dsimp only [oneA]
        exact TupP.none HL
      · have hx : binOk n = true := by rw [binOk, hq, Bool.and_true]; exact decide_eq_true hn
        rw [binR, hx, if_pos rfl, hQ]
        rw [hQ] at hq0 hq
        refine LS_c0 (fun h' HL wf => told_t ⟨1, (bEnd n).ss, [(bEnd n).vt]⟩ _ h' (plr_of HL 2 1 rfl rfl) hq0 hq) rfl rfl ?_
        try (dsimp only [st, setL, AV.cells, List.set_cons_zero, List.set_cons_succ, List.drop_zero, List.drop_succ_cons, List.take_zero, List.take_succ_cons, Nat.zero_add, Nat.add_zero, Nat.reduceAdd, List.cons_append, List.nil_append, List.eraseIdx_cons_zero, List.eraseIdx_cons_succ])
        refine W ?_
        refine LFQ_n (LF_retL (rs := [.cell 2 31, .tmp 3]) (by kernel_rfl) ?_)
        refine RET fun h' HL => ?_
        try dsimp only [oneA]
        exact ⟨_, ⟨u, wq, rfl, lu, su, lq, sq, rfl⟩, HL.sel [2, 1] (by decide)⟩

theorem meBin_ac (n : Int) (h : AH) (h0' : 1 ≤ n) (h1 : n ≤ 1000000) :
    AC Try.prog 57 [.i .i64 n] h (fun r h' => ∃ M, (∃ ws wo, r = .agg [.i .i64 1, ws, wo] ∧ lenA ws = some (bEnd n).ss.length ∧ ws.sc = true ∧ lenA wo = some 1 ∧ wo.sc = true ∧ M = [.sl ws 2 ((bEnd n).ss.flatMap enStep), .sl wo 1 ([(bEnd n).vt].flatMap enI)]) ∧ Loq h h' M) := by
  have hdl := dig2_len 20 n.toNat (by omega)
  have hdn := dig2_ne h0'
  have hE : bEnd n = bSt (binE n) (binE n).length := rfl
  have hEd : binE n = (dig2 n.toNat).take ((dig2 n.toNat).length - 1) := rfl
  generalize bEnd n = B at *
  generalize binE n = E at *
  refine e57 _ fun wf => ?_
  unfold c57
  refine LI_start wf ?_
  refine W ?_
  refine LS_al rfl fun b2 => ?_
  try (dsimp only [st, setL, AV.cells, List.set_cons_zero, List.set_cons_succ, List.drop_zero, List.drop_succ_cons, List.take_zero, List.take_succ_cons, Nat.zero_add, Nat.add_zero, Nat.reduceAdd, List.cons_append, List.nil_append, List.eraseIdx_cons_zero, List.eraseIdx_cons_succ])
  refine W ?_
  refine LS_co (fun h' HL wf => meDigits_ac n h' (by omega) h1) enI1 rfl rfl fun w3 hw3 sw3 => ?_
  try (dsimp only [st, setL, AV.cells, List.set_cons_zero, List.set_cons_succ, List.drop_zero, List.drop_succ_cons, List.take_zero, List.take_succ_cons, Nat.zero_add, Nat.add_zero, Nat.reduceAdd, List.cons_append, List.nil_append, List.eraseIdx_cons_zero, List.eraseIdx_cons_succ])
  refine W ?_
  generalize hD : dig2 n.toNat = D at *
  have hEl : E.length = D.length - 1 := by rw [hEd, List.length_take]; omega
  refine LS_al rfl fun b4 => ?_
  try (dsimp only [st, setL, AV.cells, List.set_cons_zero, List.set_cons_succ, List.drop_zero, List.drop_succ_cons, List.take_zero, List.take_succ_cons, Nat.zero_add, Nat.add_zero, Nat.reduceAdd, List.cons_append, List.nil_append, List.eraseIdx_cons_zero, List.eraseIdx_cons_succ])
  refine W ?_
  refine LIL_nl (k := 2) ?_
  refine LIL_ind (fun m a L => ∃ (k : Int) (j : Nat) (u : AV), (∃ r : Nat → AV, a = [r 0, r 1, .p b2 0, w3, .p b4 0, .i .i64 (bSt E j).vt, .i .i64 k, r 7, r 8, r 9, r 10, r 11, r 12, r 13, r 14, r 15, r 16, r 17, r 18, r 19, r 20, r 21, r 22, r 23, r 24, r 25, r 26, r 27, r 28, r 29, r 30, r 31, r 32, r 33, r 34, r 35, r 36, r 37]) ∧ L = [.sl u 2 ((bSt E j).ss.flatMap enStep), .pt b4 [.i .i64 1, u, .ns], .sl w3 1 (D.flatMap enI), .pt b2 [.i .i64 0, .ns, .ns]] ∧ k = E.length - 1 - j ∧ j + m = E.length ∧ lenA u = some (bSt E j).ss.length ∧ u.sc = true)
    E.length ⟨_, 0, .ns, exJ rfl, rfl, by omega, by omega, rfl, rfl⟩ ?_
  rintro m a L ⟨k, j, u, ⟨r, rfl⟩, rfl, hk, hm, lu, su⟩ IH
  have hI := bSt_inv E j (by omega)
  have hI2 := bSq_inv hI (by omega)
  have hsl := hI.ln
  have hsl2 := hI2.ln
  refine W ?_
  (first | refine LS_gt rfl ?_ ?_ | refine LS_gf rfl ?_ ?_ | refine LI_cond rfl ?_ ?_) <;> intro hc <;> have hc' := hc <;> try simp only [decide_eq_true_eq, decide_eq_false_iff_not, Bool.not_eq_true', Bool.not_eq_false', Bool.not_eq_true, Bool.not_eq_false, beq_iff_eq, bne_iff_ne, beq_eq_false_iff_ne, bne_eq_false_iff_eq, Int.not_lt, Int.not_le, ge_iff_le, gt_iff_lt, not_and, ne_eq, Decidable.not_not] at hc'
  all_goals (try (dsimp only [st, setL, AV.cells, List.set_cons_zero, List.set_cons_succ, List.drop_zero, List.drop_succ_cons, List.take_zero, List.take_succ_cons, Nat.zero_add, Nat.add_zero, Nat.reduceAdd, List.cons_append, List.nil_append, List.eraseIdx_cons_zero, List.eraseIdx_cons_succ]))
  all_goals (refine W ?_)
  · have hjl : j < E.length := by omega
    have hkn : k.toNat = E.length - 1 - j := by omega
    have hdk : D[k.toNat]? = some (E[E.length - 1 - j]?.getD 0) := by
      have hlt : k.toNat < D.length - 1 := by omega
      have hEi : E[k.toNat]? = D[k.toNat]? := by rw [hEd, List.getElem?_take_of_lt hlt]
      have hlt2 : E.length - 1 - j < E.length := by omega
      rw [← hEi, hkn, List.getElem?_eq_getElem hlt2]
      rfl
    refine LS_c1 (fun h' HL wf => meTimes_ac 1 (bSt E j).ss (bSt E j).vt (bSt E j).vt u .ns h' (HL.rdI 0 rfl enStep2 (by decide)) rfl (by omega) (by omega) (by omega)) rfl rfl ?_
    try (dsimp only [st, setL, AV.cells, List.set_cons_zero, List.set_cons_succ, List.drop_zero, List.drop_succ_cons, List.take_zero, List.take_succ_cons, Nat.zero_add, Nat.add_zero, Nat.reduceAdd, List.cons_append, List.nil_append, List.eraseIdx_cons_zero, List.eraseIdx_cons_succ])
    refine W ?_
    rintro _ _ ⟨w, rfl, lw, sw, rfl⟩
    try (dsimp only [st, setL, AV.cells, List.set_cons_zero, List.set_cons_succ, List.drop_zero, List.drop_succ_cons, List.take_zero, List.take_succ_cons, Nat.zero_add, Nat.add_zero, Nat.reduceAdd, List.cons_append, List.nil_append, List.eraseIdx_cons_zero, List.eraseIdx_cons_succ])
    refine W ?_
    refine LS_ix (fun h' HL => HL.rdI 3 rfl enI1 (by decide)) enI1 hdk hc' rfl rfl fun q1 o1 hrow1 => ?_
    try (dsimp only [st, setL, AV.cells, List.set_cons_zero, List.set_cons_succ, List.drop_zero, List.drop_succ_cons, List.take_zero, List.take_succ_cons, Nat.zero_add, Nat.add_zero, Nat.reduceAdd, List.cons_append, List.nil_append, List.eraseIdx_cons_zero, List.eraseIdx_cons_succ])
    refine W ?_
    (first | refine LS_gt rfl ?_ ?_ | refine LS_gf rfl ?_ ?_ | refine LI_cond rfl ?_ ?_) <;> intro hc <;> have hc' := hc <;> try simp only [decide_eq_true_eq, decide_eq_false_iff_not, Bool.not_eq_true', Bool.not_eq_false', Bool.not_eq_true, Bool.not_eq_false, beq_iff_eq, bne_iff_ne, beq_eq_false_iff_ne, bne_eq_false_iff_eq, Int.not_lt, Int.not_le, ge_iff_le, gt_iff_lt, not_and, ne_eq, Decidable.not_not] at hc'
    all_goals (try (dsimp only [st, setL, AV.cells, List.set_cons_zero, List.set_cons_succ, List.drop_zero, List.drop_succ_cons, List.take_zero, List.take_succ_cons, Nat.zero_add, Nat.add_zero, Nat.reduceAdd, List.cons_append, List.nil_append, List.eraseIdx_cons_zero, List.eraseIdx_cons_succ]))
    all_goals (refine W ?_)
    · refine LS_c1 (fun h' HL wf => meTimes_ac 1 (bSq (bSt E j)).ss (bSq (bSt E j)).vt 0 w .ns h' (HL.rdI 0 rfl enStep2 (by decide)) rfl (by omega) (by omega) (by omega)) rfl rfl ?_
      try (dsimp only [st, setL, AV.cells, List.set_cons_zero, List.set_cons_succ, List.drop_zero, List.drop_succ_cons, List.take_zero, List.take_succ_cons, Nat.zero_add, Nat.add_zero, Nat.reduceAdd, List.cons_append, List.nil_append, List.eraseIdx_cons_zero, List.eraseIdx_cons_succ])
      refine W ?_
      rintro _ _ ⟨w2, rfl, lw2, sw2, rfl⟩
      try (dsimp only [st, setL, AV.cells, List.set_cons_zero, List.set_cons_succ, List.drop_zero, List.drop_succ_cons, List.take_zero, List.take_succ_cons, Nat.zero_add, Nat.add_zero, Nat.reduceAdd, List.cons_append, List.nil_append, List.eraseIdx_cons_zero, List.eraseIdx_cons_succ])
      refine W ?_
      refine LIL_conv (L' := [.sl w2 2 (((bSq (bSt E j)).ss ++ [stepM (bSq (bSt E j)).vt 0]).flatMap enStep), .pt b4 [.i .i64 1, w2, .ns], .sl w3 1 (D.flatMap enI), .pt b2 [.i .i64 0, .ns, .ns]]) (fun h' HL => HL.sel [0, 3, 4, 5] (by decide)) ?_
      refine IH (m - 1) _ _ (by omega) ⟨k - 1, j + 1, w2, exJ ?_, ?_, by omega, by omega, ?_, sw2⟩ <;> rw [bSt, bAd, if_pos hc']
      · rfl
      · exact lw2
    · refine LIL_conv (L' := [.sl w 2 (((bSt E j).ss ++ [stepM (bSt E j).vt (bSt E j).vt]).flatMap enStep), .pt b4 [.i .i64 1, w, .ns], .sl w3 1 (D.flatMap enI), .pt b2 [.i .i64 0, .ns, .ns]]) (fun h' HL => HL.sel [0, 2, 3, 4] (by decide)) ?_
      refine IH (m - 1) _ _ (by omega) ⟨k - 1, j + 1, w, exJ ?_, ?_, by omega, by omega, ?_, sw⟩ <;> rw [bSt, bAd, if_neg hc']
      · rfl
      · rfl
      · exact lw
  · have hj : j = E.length := by omega
    subst hj
    rw [← hE] at *
    refine LS_c1 (fun h' HL wf => meEnd_ac 1 B.ss B.vt u .ns h' (HL.rdI 0 rfl enStep2 (by decide)) rfl) rfl rfl ?_
    try (dsimp only [st, setL, AV.cells, List.set_cons_zero, List.set_cons_succ, List.drop_zero, List.drop_succ_cons, List.take_zero, List.take_succ_cons, Nat.zero_add, Nat.add_zero, Nat.reduceAdd, List.cons_append, List.nil_append, List.eraseIdx_cons_zero, List.eraseIdx_cons_succ])
    refine W ?_
    rintro _ _ ⟨wq, rfl, lq, sq, rfl⟩
    try (dsimp only [st, setL, AV.cells, List.set_cons_zero, List.set_cons_succ, List.drop_zero, List.drop_succ_cons, List.take_zero, List.take_succ_cons, Nat.zero_add, Nat.add_zero, Nat.reduceAdd, List.cons_append, List.nil_append, List.eraseIdx_cons_zero, List.eraseIdx_cons_succ])
    refine W ?_
    refine RET fun h' HL => ?_
    try dsimp only [oneA]
    exact ⟨_, ⟨u, wq, rfl, lu, su, lq, sq, rfl⟩, HL.sel [1, 0] (by decide)⟩

theorem bin_psm (n : Int) (hn : 1 ≤ n ∧ n ≤ 1000000) : PSm (binQ n) := by
  have hdl := dig2_len 20 n.toNat (by omega)
  have hEl : (binE n).length ≤ 20 := by unfold binE; rw [List.length_take]; omega
  have hI : BInv (2 * ((binE n).length : Nat)) (bEnd n) := bSt_inv (binE n) (binE n).length (by omega)
  exact psm_r (by omega) hI.os (by have := hI.ln; omega) (by have := hI.q0; omega) hI.q1

theorem specBin_ac (n : Int) (h : AH) : AC Try.prog 22 [.i .i64 n] h (fun r h' => ∃ M, TupP (binR n) (binOk n) r M ∧ Loq h h' M) := by
  refine e22 _ fun wf => ?_
  unfold c22
  refine LI_start wf ?_
  refine W ?_
  refine LS_al rfl fun b2 => ?_
  try (dsimp only [st, setL, AV.cells, List.set_cons_zero, List.set_cons_succ, List.drop_zero, List.drop_succ_cons, List.take_zero, List.take_succ_cons, Nat.zero_add, Nat.add_zero, Nat.reduceAdd, List.cons_append, List.nil_append, List.eraseIdx_cons_zero, List.eraseIdx_cons_succ])
  refine W ?_
  refine LS_c0 (fun h' HL wf => chNumber_ac n h') rfl rfl ?_
  try (dsimp only [st, setL, AV.cells, List.set_cons_zero, List.set_cons_succ, List.drop_zero, List.drop_succ_cons, List.take_zero, List.take_succ_cons, Nat.zero_add, Nat.add_zero, Nat.reduceAdd, List.cons_append, List.nil_append, List.eraseIdx_cons_zero, List.eraseIdx_cons_succ])
  refine W ?_
  (first | refine LS_gt rfl ?_ ?_ | refine LS_gf rfl ?_ ?_ | refine LI_cond rfl ?_ ?_) <;> intro hc <;> have hc' := hc <;> try simp only [decide_eq_true_eq, decide_eq_false_iff_not, Bool.not_eq_true', Bool.not_eq_false', Bool.not_eq_true, Bool.not_eq_false, beq_iff_eq, bne_iff_ne, beq_eq_false_iff_ne, bne_eq_false_iff_eq, Int.not_lt, Int.not_le, ge_iff_le, gt_iff_lt, not_and, ne_eq, Decidable.not_not] at hc'
  all_goals (try (dsimp only [st, setL, AV.cells, List.set_cons_zero, List.set_cons_succ, List.drop_zero, List.drop_succ_cons, List.take_zero, List.take_succ_cons, Nat.zero_add, Nat.add_zero, Nat.reduceAdd, List.cons_append, List.nil_append, List.eraseIdx_cons_zero, List.eraseIdx_cons_succ]))
  all_goals (refine W ?_)
  rotate_left
  · have hn : 1 ≤ n ∧ n ≤ 1000000 := by simpa using hc
    have hq0 := bin_psm n hn
    refine LS_c1 (fun h' HL wf => meBin_ac n h' hn.1 hn.2) rfl rfl ?_
    try (dsimp only [st, setL, AV.cells, List.set_cons_zero, List.set_cons_succ, List.drop_zero, List.drop_succ_cons, List.take_zero, List.take_succ_cons, Nat.zero_add, Nat.add_zero, Nat.reduceAdd, List.cons_append, List.nil_append, List.eraseIdx_cons_zero, List.eraseIdx_cons_succ])
    refine W ?_
    rintro _ _ ⟨ws, wo, rfl, l1, s1, l2, s2, rfl⟩
    try (dsimp only [st, setL, AV.cells, List.set_cons_zero, List.set_cons_succ, List.drop_zero, List.drop_succ_cons, List.take_zero, List.take_succ_cons, Nat.zero_add, Nat.add_zero, Nat.reduceAdd, List.cons_append, List.nil_append, List.eraseIdx_cons_zero, List.eraseIdx_cons_succ])
    refine W ?_
    cases hq : planOk (binQ n)
    · have hx : binOk n = false := by rw [binOk, hq, Bool.and_false]
      rw [binR, hx, if_neg (by simp)]
      refine LS_c0 (fun h' HL wf => plIf_f (binQ n) _ h' (plr_of HL 0 1 rfl rfl) hq0 hq) rfl rfl ?_
      try (dsimp only [st, setL, AV.cells, List.set_cons_zero, List.set_cons_succ, List.drop_zero, List.drop_succ_cons, List.take_zero, List.take_succ_cons, Nat.zero_add, Nat.add_zero, Nat.reduceAdd, List.cons_append, List.nil_append, List.eraseIdx_cons_zero, List.eraseIdx_cons_succ])
      refine W ?_
      refine RET fun h' HL => ?_
      try dsimp only [oneA]
      exact TupP.none HL
    · have hx : binOk n = true := by rw [binOk, hq, Bool.and_true]; exact decide_eq_true hn
      rw [binR, hx, if_pos rfl]
      refine LS_c0 (fun h' HL wf => plIf_t (binQ n) _ h' (plr_of HL 0 1 rfl rfl) hq0 hq) rfl rfl ?_
      try (dsimp only [st, setL, AV.cells, List.set_cons_zero, List.set_cons_succ, List.drop_zero, List.drop_succ_cons, List.take_zero, List.take_succ_cons, Nat.zero_add, Nat.add_zero, Nat.reduceAdd, List.cons_append, List.nil_append, List.eraseIdx_cons_zero, List.eraseIdx_cons_succ])
      refine W ?_
      refine RET fun h' HL => ?_
      try dsimp only [oneA]
      exact ⟨_, ⟨ws, wo, rfl, l1, s1, l2, s2, rfl⟩, HL.sel [0, 1] (by decide)⟩
  · have hx : binOk n = false := by rw [binOk, nt hc, Bool.false_and]
    rw [binR, hx, if_neg (by simp)]
    refine RET fun h' HL => ?_
    try dsimp only [oneA]
    exact TupP.none HL

theorem binOk_p {n : Int} (h : binOk n = true) : planOk (binQ n) = true := by
  simp only [binOk, Bool.and_eq_true] at h
  exact h.2

theorem lawFnExactBinaryPlan_ac (n : Int) (w0 : (Lit.int .i64 n).wf = true) (h : AH) : AC Try.prog 6 [.i .i64 n] h (fun r h' => r = .b true) := by
  have hrl : (binR n).steps.length ≤ 1048576 ∧ (binR n).outs.length ≤ 1048576 := ok_len binOk_p
  generalize hQ : binR n = Q at *
  refine e6 _ fun wf => ?_
  unfold c6
  refine LI_start wf ?_
  refine W ?_
  refine LS_c1 (fun h' HL wf => specBin_ac n h') rfl rfl ?_
  try (dsimp only [st, setL, AV.cells, List.set_cons_zero, List.set_cons_succ, List.drop_zero, List.drop_succ_cons, List.take_zero, List.take_succ_cons, Nat.zero_add, Nat.add_zero, Nat.reduceAdd, List.cons_append, List.nil_append, List.eraseIdx_cons_zero, List.eraseIdx_cons_succ])
  refine W ?_
  rw [hQ]
  rintro _ _ ⟨ws, wo, rfl, lw1, sw1, lw2, sw2, rfl⟩
  try (dsimp only [st, setL, AV.cells, List.set_cons_zero, List.set_cons_succ, List.drop_zero, List.drop_succ_cons, List.take_zero, List.take_succ_cons, Nat.zero_add, Nat.add_zero, Nat.reduceAdd, List.cons_append, List.nil_append, List.eraseIdx_cons_zero, List.eraseIdx_cons_succ])
  refine W ?_
  refine LS_al rfl fun b3 => ?_
  try (dsimp only [st, setL, AV.cells, List.set_cons_zero, List.set_cons_succ, List.drop_zero, List.drop_succ_cons, List.take_zero, List.take_succ_cons, Nat.zero_add, Nat.add_zero, Nat.reduceAdd, List.cons_append, List.nil_append, List.eraseIdx_cons_zero, List.eraseIdx_cons_succ])
  refine W ?_
  refine LS_c1 (fun h' HL wf => implBin_ac n h') rfl rfl ?_
  try (dsimp only [st, setL, AV.cells, List.set_cons_zero, List.set_cons_succ, List.drop_zero, List.drop_succ_cons, List.take_zero, List.take_succ_cons, Nat.zero_add, Nat.add_zero, Nat.reduceAdd, List.cons_append, List.nil_append, List.eraseIdx_cons_zero, List.eraseIdx_cons_succ])
  refine W ?_
  rw [hQ]
  rintro _ _ ⟨gs, go, rfl, lg1, sg1, lg2, sg2, rfl⟩
  try (dsimp only [st, setL, AV.cells, List.set_cons_zero, List.set_cons_succ, List.drop_zero, List.drop_succ_cons, List.take_zero, List.take_succ_cons, Nat.zero_add, Nat.add_zero, Nat.reduceAdd, List.cons_append, List.nil_append, List.eraseIdx_cons_zero, List.eraseIdx_cons_succ])
  refine W ?_
  refine LS_al rfl fun b5 => ?_
  try (dsimp only [st, setL, AV.cells, List.set_cons_zero, List.set_cons_succ, List.drop_zero, List.drop_succ_cons, List.take_zero, List.take_succ_cons, Nat.zero_add, Nat.add_zero, Nat.reduceAdd, List.cons_append, List.nil_append, List.eraseIdx_cons_zero, List.eraseIdx_cons_succ])
  refine W ?_
  refine LS_c0 (fun h' HL wf => eqPlan_same Q _ _ h' (plr_of HL 1 2 rfl rfl) (plr_of HL 4 5 rfl rfl) hrl.1 hrl.2) rfl rfl ?_
  try (dsimp only [st, setL, AV.cells, List.set_cons_zero, List.set_cons_succ, List.drop_zero, List.drop_succ_cons, List.take_zero, List.take_succ_cons, Nat.zero_add, Nat.add_zero, Nat.reduceAdd, List.cons_append, List.nil_append, List.eraseIdx_cons_zero, List.eraseIdx_cons_succ])
  refine W ?_
  try ((first | (refine LS_gtnH rfl (by simp) ?_; intro hg; try (dsimp only [st, setL, AV.cells, List.set_cons_zero, List.set_cons_succ, List.drop_zero, List.drop_succ_cons, List.take_zero, List.take_succ_cons, Nat.zero_add, Nat.add_zero, Nat.reduceAdd, List.cons_append, List.nil_append, List.eraseIdx_cons_zero, List.eraseIdx_cons_succ])) | (refine LS_gfnH rfl (by simp) ?_; intro hg; try (dsimp only [st, setL, AV.cells, List.set_cons_zero, List.set_cons_succ, List.drop_zero, List.drop_succ_cons, List.take_zero, List.take_succ_cons, Nat.zero_add, Nat.add_zero, Nat.reduceAdd, List.cons_append, List.nil_append, List.eraseIdx_cons_zero, List.eraseIdx_cons_succ])) | (refine LI_cond_fH rfl (by simp) ?_; intro hg)); refine W ?_)
  refine LS_rot 2 rfl (LS_rot 2 rfl ?_)
  refine LS_cm (.refl _) (fun h' HL wf => markPlan_ac Q gs go 1 h h' _ HL (by omega) (by omega)) rfl rfl ?_
  try (dsimp only [st, setL, AV.cells, List.set_cons_zero, List.set_cons_succ, List.drop_zero, List.drop_succ_cons, List.take_zero, List.take_succ_cons, Nat.zero_add, Nat.add_zero, Nat.reduceAdd, List.cons_append, List.nil_append, List.eraseIdx_cons_zero, List.eraseIdx_cons_succ])
  refine W ?_
  rintro _ _ ⟨rfl, rfl⟩
  try (dsimp only [st, setL, AV.cells, List.set_cons_zero, List.set_cons_succ, List.drop_zero, List.drop_succ_cons, List.take_zero, List.take_succ_cons, Nat.zero_add, Nat.add_zero, Nat.reduceAdd, List.cons_append, List.nil_append, List.eraseIdx_cons_zero, List.eraseIdx_cons_succ])
  refine W ?_
  refine LS_c0 (fun h' HL wf => heldPlan_ac Q.steps.length Q.outs.length Q.n gs go 1 h' (HL.rdI 0 rfl enStep2 (by decide)) (HL.rdI 1 rfl enI1 (by decide)) (by omega) (by omega)) rfl rfl ?_
  try (dsimp only [st, setL, AV.cells, List.set_cons_zero, List.set_cons_succ, List.drop_zero, List.drop_succ_cons, List.take_zero, List.take_succ_cons, Nat.zero_add, Nat.add_zero, Nat.reduceAdd, List.cons_append, List.nil_append, List.eraseIdx_cons_zero, List.eraseIdx_cons_succ])
  refine W ?_
  try ((first | (refine LS_gtnH rfl (by simp; omega) ?_; intro hg; try (dsimp only [st, setL, AV.cells, List.set_cons_zero, List.set_cons_succ, List.drop_zero, List.drop_succ_cons, List.take_zero, List.take_succ_cons, Nat.zero_add, Nat.add_zero, Nat.reduceAdd, List.cons_append, List.nil_append, List.eraseIdx_cons_zero, List.eraseIdx_cons_succ])) | (refine LS_gfnH rfl (by simp; omega) ?_; intro hg; try (dsimp only [st, setL, AV.cells, List.set_cons_zero, List.set_cons_succ, List.drop_zero, List.drop_succ_cons, List.take_zero, List.take_succ_cons, Nat.zero_add, Nat.add_zero, Nat.reduceAdd, List.cons_append, List.nil_append, List.eraseIdx_cons_zero, List.eraseIdx_cons_succ])) | (refine LI_cond_fH rfl (by simp; omega) ?_; intro hg)); refine W ?_)
  try ((first | (refine LS_gtnH rfl (by simp) ?_; intro hg; try (dsimp only [st, setL, AV.cells, List.set_cons_zero, List.set_cons_succ, List.drop_zero, List.drop_succ_cons, List.take_zero, List.take_succ_cons, Nat.zero_add, Nat.add_zero, Nat.reduceAdd, List.cons_append, List.nil_append, List.eraseIdx_cons_zero, List.eraseIdx_cons_succ])) | (refine LS_gfnH rfl (by simp) ?_; intro hg; try (dsimp only [st, setL, AV.cells, List.set_cons_zero, List.set_cons_succ, List.drop_zero, List.drop_succ_cons, List.take_zero, List.take_succ_cons, Nat.zero_add, Nat.add_zero, Nat.reduceAdd, List.cons_append, List.nil_append, List.eraseIdx_cons_zero, List.eraseIdx_cons_succ])) | (refine LI_cond_fH rfl (by simp) ?_; intro hg)); refine W ?_)
  refine LS_c1 (fun h' HL wf => implBin_ac n h') rfl rfl ?_
  try (dsimp only [st, setL, AV.cells, List.set_cons_zero, List.set_cons_succ, List.drop_zero, List.drop_succ_cons, List.take_zero, List.take_succ_cons, Nat.zero_add, Nat.add_zero, Nat.reduceAdd, List.cons_append, List.nil_append, List.eraseIdx_cons_zero, List.eraseIdx_cons_succ])
  refine W ?_
  rw [hQ]
  rintro _ _ ⟨gs2, go2, rfl, lg3, sg3, lg4, sg4, rfl⟩
  try (dsimp only [st, setL, AV.cells, List.set_cons_zero, List.set_cons_succ, List.drop_zero, List.drop_succ_cons, List.take_zero, List.take_succ_cons, Nat.zero_add, Nat.add_zero, Nat.reduceAdd, List.cons_append, List.nil_append, List.eraseIdx_cons_zero, List.eraseIdx_cons_succ])
  refine W ?_
  refine LS_al rfl fun b9 => ?_
  try (dsimp only [st, setL, AV.cells, List.set_cons_zero, List.set_cons_succ, List.drop_zero, List.drop_succ_cons, List.take_zero, List.take_succ_cons, Nat.zero_add, Nat.add_zero, Nat.reduceAdd, List.cons_append, List.nil_append, List.eraseIdx_cons_zero, List.eraseIdx_cons_succ])
  refine W ?_
  refine LS_c0 (fun h' HL wf => eqPlan_same Q _ _ h' (plr_of HL 1 2 rfl rfl) (plr_of HL 7 8 rfl rfl) hrl.1 hrl.2) rfl rfl ?_
  try (dsimp only [st, setL, AV.cells, List.set_cons_zero, List.set_cons_succ, List.drop_zero, List.drop_succ_cons, List.take_zero, List.take_succ_cons, Nat.zero_add, Nat.add_zero, Nat.reduceAdd, List.cons_append, List.nil_append, List.eraseIdx_cons_zero, List.eraseIdx_cons_succ])
  refine W ?_
  try ((first | (refine LS_gtnH rfl (by simp) ?_; intro hg; try (dsimp only [st, setL, AV.cells, List.set_cons_zero, List.set_cons_succ, List.drop_zero, List.drop_succ_cons, List.take_zero, List.take_succ_cons, Nat.zero_add, Nat.add_zero, Nat.reduceAdd, List.cons_append, List.nil_append, List.eraseIdx_cons_zero, List.eraseIdx_cons_succ])) | (refine LS_gfnH rfl (by simp) ?_; intro hg; try (dsimp only [st, setL, AV.cells, List.set_cons_zero, List.set_cons_succ, List.drop_zero, List.drop_succ_cons, List.take_zero, List.take_succ_cons, Nat.zero_add, Nat.add_zero, Nat.reduceAdd, List.cons_append, List.nil_append, List.eraseIdx_cons_zero, List.eraseIdx_cons_succ])) | (refine LI_cond_fH rfl (by simp) ?_; intro hg)); refine W ?_)
  refine LS_c0 (fun h' HL wf => heldPlan_ac Q.steps.length Q.outs.length Q.n gs go 1 h' (HL.rdI 3 rfl enStep2 (by decide)) (HL.rdI 4 rfl enI1 (by decide)) (by omega) (by omega)) rfl rfl ?_
  try (dsimp only [st, setL, AV.cells, List.set_cons_zero, List.set_cons_succ, List.drop_zero, List.drop_succ_cons, List.take_zero, List.take_succ_cons, Nat.zero_add, Nat.add_zero, Nat.reduceAdd, List.cons_append, List.nil_append, List.eraseIdx_cons_zero, List.eraseIdx_cons_succ])
  refine W ?_
  try ((first | (refine LS_gtnH rfl (by simp; omega) ?_; intro hg; try (dsimp only [st, setL, AV.cells, List.set_cons_zero, List.set_cons_succ, List.drop_zero, List.drop_succ_cons, List.take_zero, List.take_succ_cons, Nat.zero_add, Nat.add_zero, Nat.reduceAdd, List.cons_append, List.nil_append, List.eraseIdx_cons_zero, List.eraseIdx_cons_succ])) | (refine LS_gfnH rfl (by simp; omega) ?_; intro hg; try (dsimp only [st, setL, AV.cells, List.set_cons_zero, List.set_cons_succ, List.drop_zero, List.drop_succ_cons, List.take_zero, List.take_succ_cons, Nat.zero_add, Nat.add_zero, Nat.reduceAdd, List.cons_append, List.nil_append, List.eraseIdx_cons_zero, List.eraseIdx_cons_succ])) | (refine LI_cond_fH rfl (by simp; omega) ?_; intro hg)); refine W ?_)
  try ((first | (refine LS_gtnH rfl (by simp) ?_; intro hg; try (dsimp only [st, setL, AV.cells, List.set_cons_zero, List.set_cons_succ, List.drop_zero, List.drop_succ_cons, List.take_zero, List.take_succ_cons, Nat.zero_add, Nat.add_zero, Nat.reduceAdd, List.cons_append, List.nil_append, List.eraseIdx_cons_zero, List.eraseIdx_cons_succ])) | (refine LS_gfnH rfl (by simp) ?_; intro hg; try (dsimp only [st, setL, AV.cells, List.set_cons_zero, List.set_cons_succ, List.drop_zero, List.drop_succ_cons, List.take_zero, List.take_succ_cons, Nat.zero_add, Nat.add_zero, Nat.reduceAdd, List.cons_append, List.nil_append, List.eraseIdx_cons_zero, List.eraseIdx_cons_succ])) | (refine LI_cond_fH rfl (by simp) ?_; intro hg)); refine W ?_)
  refine RET fun h' HL => ?_
  try dsimp only [oneA]
end Go.Proofs.Ytdcliofmdlhmaaa
