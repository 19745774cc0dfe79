/- The walk of the law FnExactPressureOf, part 2: what each function that it reaches computes. -/
import Derived.Test.YtdeeeacnmkmeiaaXFnExactPressureOfa
namespace Go.Proofs.Ytdeeeacnmkmeiaa
open Go.AL
set_option linter.unusedVariables false
set_option linter.unusedSimpArgs false
set_option maxRecDepth 100000
set_option maxHeartbeats 1000000
attribute [local irreducible] AS AI AIL OpR AC CW AWP ALoop LS LI LIL LThen LLoop LBlk LRet Lh AX OpV OpF

theorem held_ac (p : PlanM) (D : List Int) (i : Int) (b : Nat) (vs vo w : AV) (h : AH) (hp : PlP h b p vs vo) (hk : planOk p = true) (hD : RdG 1 enB h w (fnL p.steps.length (hasL D))) (hi0 : 0 ≤ i) (hi1 : i < p.steps.length) :
    AC Try.prog 128 [.p b 0, w, .i .i64 i] h (fun r h' => r = .i .i64 (heldM p D i) ∧ h.le h') := by
  have c0 := hp.c0
  obtain ⟨h1, h2, h3, h4, hf, h6⟩ := planOk_out hk
  rw [heldM_eq h1 hi0 hi1]
  refine e128 _ _ _ fun wf => ?_
  unfold c128
  refine LI_start wf ?_
  refine W ?_
  refine LS_co (fun h' HL wf => needed_ac p D b vs vo w h' (hp.le HL.le) hk (hD.le HL.le)) enB1 rfl rfl fun w2 hw2 sw2 => ?_
  try (dsimp only [st, AV.cells, List.set_cons_zero, List.set_cons_succ, List.drop_zero, List.drop_succ_cons, List.take_zero, List.take_succ_cons, Nat.zero_add, Nat.add_zero, Nat.reduceAdd, List.cons_append, List.nil_append, List.eraseIdx_cons_zero, List.eraseIdx_cons_succ])
  refine W ?_
  rw [fnL_len] at hw2
  obtain ⟨b2, o2, c2, rfl⟩ := sl_of hw2 (by omega)
  refine LS_is (j := p.n + i) (by omega) (by omega) rfl rfl ?_
  try (dsimp only [st, AV.cells, List.set_cons_zero, List.set_cons_succ, List.drop_zero, List.drop_succ_cons, List.take_zero, List.take_succ_cons, Nat.zero_add, Nat.add_zero, Nat.reduceAdd, List.cons_append, List.nil_append, List.eraseIdx_cons_zero, List.eraseIdx_cons_succ])
  refine W ?_
  refine LS_ss true 0 (p.n + i).toNat rfl (by rw [fnL_len]; omega) rfl rfl enB1 (by decide) rfl rfl rfl ?_
  try (dsimp only [st, AV.cells, List.set_cons_zero, List.set_cons_succ, List.drop_zero, List.drop_succ_cons, List.take_zero, List.take_succ_cons, Nat.zero_add, Nat.add_zero, Nat.reduceAdd, List.cons_append, List.nil_append, List.eraseIdx_cons_zero, List.eraseIdx_cons_succ])
  refine W ?_
  rw [fnL_set (by omega)]
  generalize hG : (fun y => if y = p.n + i then true else ndK p D y) = G
  refine W ?_
  refine LIL_ind (fun n a L => ∃ (x m : Int), (∃ r : Nat → AV, a = [r 0, r 1, r 2, r 3, r 4, r 5, r 6, r 7, .i .i64 m, r 9, r 10, r 11, r 12, r 13, r 14, r 15, r 16, r 17, r 18, r 19, r 20, r 21, .sl b2 o2 (p.n + p.steps.length).toNat c2, .i .i64 ((p.n + p.steps.length).toNat : Nat), .i .i64 x, r 25, r 26, r 27, r 28, r 29, r 30, r 31, r 32]) ∧ L = [.sl (.sl b2 o2 (p.n + p.steps.length).toNat c2) 1 ((fnL (p.n + p.steps.length).toNat G).flatMap enB)] ∧ 0 ≤ x ∧ x + n = p.n + p.steps.length ∧ m = ((iotaI x.toNat).filter G).length)
    (p.n + p.steps.length).toNat ⟨0, 0, exJ rfl, rfl, by omega, by omega, rfl⟩ ?_
  rintro n a L ⟨x, m, ⟨r, rfl⟩, rfl, h0, hn, hm⟩ IH
  have hel := List.length_filter_le G (iotaI x.toNat)
  rw [iotaI_len] at hel
  have hii : ((x.toNat : Nat) : Int) = x := by omega
  have hnx : (iotaI (x + 1).toNat).filter G = (iotaI x.toNat).filter G ++ [x].filter G := by
    rw [toNat_succ h0, iotaI_succ, List.filter_append, hii]
  rw [List.filter_cons, List.filter_nil] at hnx
  refine W ?_
  (first | refine LS_gt rfl ?_ ?_ | refine LS_gf rfl ?_ ?_ | refine LI_cond rfl ?_ ?_) <;> intro hc <;> have hc' := hc <;> try simp only [decide_eq_true_eq, decide_eq_false_iff_not, Bool.not_eq_true', Bool.not_eq_false', Bool.not_eq_true, Bool.not_eq_false, beq_iff_eq, bne_iff_ne, beq_eq_false_iff_ne, bne_eq_false_iff_eq, Int.not_lt, Int.not_le, ge_iff_le, gt_iff_lt, not_and, ne_eq, Decidable.not_not] at hc'
  all_goals (try (dsimp only [st, AV.cells, List.set_cons_zero, List.set_cons_succ, List.drop_zero, List.drop_succ_cons, List.take_zero, List.take_succ_cons, Nat.zero_add, Nat.add_zero, Nat.reduceAdd, List.cons_append, List.nil_append, List.eraseIdx_cons_zero, List.eraseIdx_cons_succ]))
  all_goals (refine W ?_)
  · have hu : (fnL (p.n + p.steps.length).toNat G)[x.toNat]? = some (G x) := by rw [fnL_get (by omega), hii]
    refine LS_ix (fun h' HL => HL.rdI 0 rfl enB1 (by decide)) enB1 hu h0 rfl rfl fun q o hrow => ?_
    try (dsimp only [st, AV.cells, List.set_cons_zero, List.set_cons_succ, List.drop_zero, List.drop_succ_cons, List.take_zero, List.take_succ_cons, Nat.zero_add, Nat.add_zero, Nat.reduceAdd, List.cons_append, List.nil_append, List.eraseIdx_cons_zero, List.eraseIdx_cons_succ])
    refine W ?_
    (first | refine LS_gt rfl ?_ ?_ | refine LS_gf rfl ?_ ?_ | refine LI_cond rfl ?_ ?_) <;> intro hc <;> have hc' := hc <;> try simp only [decide_eq_true_eq, decide_eq_false_iff_not, Bool.not_eq_true', Bool.not_eq_false', Bool.not_eq_true, Bool.not_eq_false, beq_iff_eq, bne_iff_ne, beq_eq_false_iff_ne, bne_eq_false_iff_eq, Int.not_lt, Int.not_le, ge_iff_le, gt_iff_lt, not_and, ne_eq, Decidable.not_not] at hc'
    all_goals (try (dsimp only [st, AV.cells, List.set_cons_zero, List.set_cons_succ, List.drop_zero, List.drop_succ_cons, List.take_zero, List.take_succ_cons, Nat.zero_add, Nat.add_zero, Nat.reduceAdd, List.cons_append, List.nil_append, List.eraseIdx_cons_zero, List.eraseIdx_cons_succ]))
    all_goals (refine W ?_)
    · rw [hc, if_pos rfl] at hnx
      refine IH (n - 1) _ _ (by omega) ⟨x + 1, _, exJ rfl, rfl, by omega, by omega, by rw [hnx, List.length_append, hm]; rfl⟩
    · rw [hc, if_neg (by simp), List.append_nil] at hnx
      refine IH (n - 1) _ _ (by omega) ⟨x + 1, _, exJ rfl, rfl, by omega, by omega, by rw [hnx, hm]⟩
  · have ex : x.toNat = (p.n + p.steps.length).toNat := by omega
    rw [ex] at hm
    refine RET fun h' HL => ?_
    try dsimp only [oneA]
    exact ⟨by rw [hm], HL.le⟩

theorem pressure_ac (p : PlanM) (O : List Int) (b : Nat) (vs vo w : AV) (h : AH) (hp : PlP h b p vs vo) (hk : planOk p = true) (hO : Rd h w O) (hOl : O.length ≤ 1048576) (hOb : ∀ i ∈ O, 0 ≤ i ∧ i < p.steps.length) :
    AC Try.prog 93 [.p b 0, w] h (fun r h' => r = .i .i64 (pressM p O) ∧ h.le h') := by
  have c0 := hp.c0
  have c1 := hp.c1
  have c2 := hp.c2
  have hs := hp.steps
  obtain ⟨h1, h2, h3, h4, hf, h6⟩ := planOk_out hk
  refine e93 _ _ fun wf => ?_
  unfold c93
  refine LI_start wf ?_
  refine W ?_
  refine dz93_0 ?_
  refine WX ?_
  refine W ?_
  refine LX_mk false rfl rfl rfl rfl rfl (by omega) (by omega) (by omega) enB1 rfl noG fun b2 => ?_
  try (dsimp only [st, AV.cells, List.set_cons_zero, List.set_cons_succ, List.drop_zero, List.drop_succ_cons, List.take_zero, List.take_succ_cons, Nat.zero_add, Nat.add_zero, Nat.reduceAdd, List.cons_append, List.nil_append, List.eraseIdx_cons_zero, List.eraseIdx_cons_succ])
  refine WX ?_
  refine W ?_
  refine LIL_ind (fun n a L => ∃ (k m : Int), (∃ r : Nat → AV, a = [.p b 0, r 1, r 2, r 3, r 4, .i .i64 m, .sl b2 0 (p.steps.length : Int).toNat true, r 7, r 8, r 9, r 10, r 11, r 12, r 13, r 14, r 15, r 16, r 17, r 18, w, .i .i64 O.length, .i .i64 k, r 22, r 23, r 24, r 25, r 26, r 27, r 28, r 29, r 30, r 31, r 32, r 33, r 34, r 35]) ∧ L = [.sl (.sl b2 0 (p.steps.length : Int).toNat true) 1 ((fnL p.steps.length (hasL (O.take k.toNat))).flatMap enB)] ∧ 0 ≤ k ∧ k + n = O.length ∧ pressM p O = pressF p (O.take k.toNat) m (O.drop k.toNat))
    O.length ⟨0, p.n, exJ rfl, by rw [fnL_rep]; rfl, by omega, by omega, rfl⟩ ?_
  rintro n a L ⟨k, m, ⟨r, rfl⟩, rfl, h0, hn, heq⟩ IH
  refine W ?_
  (first | refine LS_gt rfl ?_ ?_ | refine LS_gf rfl ?_ ?_ | refine LI_cond rfl ?_ ?_) <;> intro hc <;> have hc' := hc <;> try simp only [decide_eq_true_eq, decide_eq_false_iff_not, Bool.not_eq_true', Bool.not_eq_false', Bool.not_eq_true, Bool.not_eq_false, beq_iff_eq, bne_iff_ne, beq_eq_false_iff_ne, bne_eq_false_iff_eq, Int.not_lt, Int.not_le, ge_iff_le, gt_iff_lt, not_and, ne_eq, Decidable.not_not] at hc'
  all_goals (try (dsimp only [st, AV.cells, List.set_cons_zero, List.set_cons_succ, List.drop_zero, List.drop_succ_cons, List.take_zero, List.take_succ_cons, Nat.zero_add, Nat.add_zero, Nat.reduceAdd, List.cons_append, List.nil_append, List.eraseIdx_cons_zero, List.eraseIdx_cons_succ]))
  all_goals (refine W ?_)
  · obtain ⟨i, hi, him, hd⟩ := drop_at (l := O) h0 hc'
    have hib := hOb i him
    rw [hd, pressF] at heq
    have htk : O.take (k + 1).toNat = O.take k.toNat ++ [i] := by rw [toNat_succ h0, take_snoc hi]
    have hset : (fnL p.steps.length (hasL (O.take k.toNat))).set i.toNat true = fnL p.steps.length (hasL (O.take k.toNat ++ [i])) := by
      rw [fnL_set hib.1]
      refine fnL_congr fun x _ _ => ?_
      rw [hasL_snoc]
      by_cases e : x = i
      · simp [e]
      · simp [e, Ne.symm e]
    refine LS_ix (fun h' HL => hO.le HL.le) enI1 hi h0 rfl rfl fun q o hrow => ?_
    try (dsimp only [st, AV.cells, List.set_cons_zero, List.set_cons_succ, List.drop_zero, List.drop_succ_cons, List.take_zero, List.take_succ_cons, Nat.zero_add, Nat.add_zero, Nat.reduceAdd, List.cons_append, List.nil_append, List.eraseIdx_cons_zero, List.eraseIdx_cons_succ])
    refine W ?_
    refine LS_is hib.1 (by omega) rfl rfl ?_
    try (dsimp only [st, AV.cells, List.set_cons_zero, List.set_cons_succ, List.drop_zero, List.drop_succ_cons, List.take_zero, List.take_succ_cons, Nat.zero_add, Nat.add_zero, Nat.reduceAdd, List.cons_append, List.nil_append, List.eraseIdx_cons_zero, List.eraseIdx_cons_succ])
    refine W ?_
    refine LS_ss true 0 i.toNat rfl (by rw [fnL_len]; omega) (by omega) rfl enB1 (by decide) rfl rfl rfl ?_
    try (dsimp only [st, AV.cells, List.set_cons_zero, List.set_cons_succ, List.drop_zero, List.drop_succ_cons, List.take_zero, List.take_succ_cons, Nat.zero_add, Nat.add_zero, Nat.reduceAdd, List.cons_append, List.nil_append, List.eraseIdx_cons_zero, List.eraseIdx_cons_succ])
    refine W ?_
    rw [hset]
    refine LS_c0 (fun h' HL wf => held_ac p (O.take k.toNat ++ [i]) i b vs vo _ h' (hp.le HL.le) hk (HL.rdI 0 rfl enB1 (by decide)) hib.1 hib.2) rfl rfl ?_
    try (dsimp only [st, AV.cells, List.set_cons_zero, List.set_cons_succ, List.drop_zero, List.drop_succ_cons, List.take_zero, List.take_succ_cons, Nat.zero_add, Nat.add_zero, Nat.reduceAdd, List.cons_append, List.nil_append, List.eraseIdx_cons_zero, List.eraseIdx_cons_succ])
    refine W ?_
    refine IH (n - 1) _ _ (by omega) ⟨k + 1, _, exJ rfl, by rw [htk], by omega, by omega, ?_⟩
    rw [heq, htk, toNat_succ h0]
    rfl
  · rw [List.drop_eq_nil_of_le (by omega)] at heq
    refine RET fun h' HL => ?_
    try dsimp only [oneA]
    exact ⟨by rw [heq]; rfl, HL.le⟩

theorem rePressure_ac (p : PlanM) (O : List Int) (v w : AV) (h : AH) (hR : PlR h v p) (hk : planOk p = true) (hO : Rd h w O) (hOl : O.length ≤ 1048576) (hOb : ∀ i ∈ O, 0 ≤ i ∧ i < p.steps.length) :
    AC Try.prog 92 [v, w] h (fun r h' => r = .i .i64 (pressM p O) ∧ h.le h') := by
  have hR0 := hR
  obtain ⟨vs, vo, rfl, hs, ho⟩ := hR
  obtain ⟨h1, h2, h3, h4, hf, h6⟩ := planOk_out hk
  refine e92 _ _ fun wf => ?_
  unfold c92
  refine LI_start wf ?_
  refine W ?_
  refine LS_bxn rfl (sc_cons rfl (sc_cons (rd_sc hs) (sc_cons (rd_sc ho) rfl))) fun b1 => ?_
  try (dsimp only [st, AV.cells, List.set_cons_zero, List.set_cons_succ, List.drop_zero, List.drop_succ_cons, List.take_zero, List.take_succ_cons, Nat.zero_add, Nat.add_zero, Nat.reduceAdd, List.cons_append, List.nil_append, List.eraseIdx_cons_zero, List.eraseIdx_cons_succ])
  refine W ?_
  refine LIL_ind (fun n a L => ∃ (k m : Int), (∃ r : Nat → AV, a = [r 0, w, .p b1 0, r 3, r 4, .i .i64 m, r 6, r 7, r 8, r 9, w, .i .i64 O.length, .i .i64 k, r 13, r 14, r 15, r 16, r 17, r 18, r 19, r 20, r 21, r 22, r 23, r 24, r 25, r 26, r 27, r 28, r 29, r 30, r 31, r 32]) ∧ L = [.pt b1 [.i .i64 p.n, vs, vo]] ∧ 0 ≤ k ∧ k + n = O.length ∧ pressM p O = pressF p (O.take k.toNat) m (O.drop k.toNat))
    O.length ⟨0, p.n, exJ rfl, rfl, by omega, by omega, rfl⟩ ?_
  rintro n a L ⟨k, m, ⟨r, rfl⟩, rfl, h0, hn, heq⟩ IH
  refine W ?_
  (first | refine LS_gt rfl ?_ ?_ | refine LS_gf rfl ?_ ?_ | refine LI_cond rfl ?_ ?_) <;> intro hc <;> have hc' := hc <;> try simp only [decide_eq_true_eq, decide_eq_false_iff_not, Bool.not_eq_true', Bool.not_eq_false', Bool.not_eq_true, Bool.not_eq_false, beq_iff_eq, bne_iff_ne, beq_eq_false_iff_ne, bne_eq_false_iff_eq, Int.not_lt, Int.not_le, ge_iff_le, gt_iff_lt, not_and, ne_eq, Decidable.not_not] at hc'
  all_goals (try (dsimp only [st, AV.cells, List.set_cons_zero, List.set_cons_succ, List.drop_zero, List.drop_succ_cons, List.take_zero, List.take_succ_cons, Nat.zero_add, Nat.add_zero, Nat.reduceAdd, List.cons_append, List.nil_append, List.eraseIdx_cons_zero, List.eraseIdx_cons_succ]))
  all_goals (refine W ?_)
  · obtain ⟨i, hi, him, hd⟩ := drop_at (l := O) h0 hc'
    have hib := hOb i him
    rw [hd, pressF] at heq
    have htk : O.take (k + 1).toNat = O.take k.toNat ++ [i] := by rw [toNat_succ h0, take_snoc hi]
    have htl : (O.take k.toNat).length ≤ 1048575 := by rw [List.length_take]; omega
    have hnl := needM_len p (O.take k.toNat ++ [i])
    refine LS_ix (fun h' HL => hO.le HL.le) enI1 hi h0 rfl rfl fun q o hrow => ?_
    try (dsimp only [st, AV.cells, List.set_cons_zero, List.set_cons_succ, List.drop_zero, List.drop_succ_cons, List.take_zero, List.take_succ_cons, Nat.zero_add, Nat.add_zero, Nat.reduceAdd, List.cons_append, List.nil_append, List.eraseIdx_cons_zero, List.eraseIdx_cons_succ])
    refine W ?_
    refine dz92_0 ?_
    refine WX ?_
    refine W ?_
    refine LX_sz (u := (k + 1).toNat) (q := 0) (fun h' HL => hO.le HL.le) enI1 (.inl ⟨rfl, rfl⟩) (.inr ⟨_, _, _, rfl, rfl, by omega, rfl⟩) (by omega) (by omega) rfl noG fun w4 hw4 sw4 rw4 => ?_
    try (dsimp only [st, AV.cells, List.set_cons_zero, List.set_cons_succ, List.drop_zero, List.drop_succ_cons, List.take_zero, List.take_succ_cons, Nat.zero_add, Nat.add_zero, Nat.reduceAdd, List.cons_append, List.nil_append, List.eraseIdx_cons_zero, List.eraseIdx_cons_succ])
    refine WX ?_
    refine W ?_
    simp only [List.drop_zero, htk] at rw4
    refine LX_co (fun h' HL wf => reNeeded_ac p (O.take k.toNat ++ [i]) _ w4 h'.frz (hR0.le HL.le).frz (rw4 _ (hO.le HL.le)).frz hk (by simp; omega)) enI1 rfl rfl noG fun w5 hw5 sw5 => ?_
    try (dsimp only [st, AV.cells, List.set_cons_zero, List.set_cons_succ, List.drop_zero, List.drop_succ_cons, List.take_zero, List.take_succ_cons, Nat.zero_add, Nat.add_zero, Nat.reduceAdd, List.cons_append, List.nil_append, List.eraseIdx_cons_zero, List.eraseIdx_cons_succ])
    refine WX ?_
    refine W ?_
    refine LX_c1 (fun h' HL wf => l1Put_ac (needM p (O.take k.toNat ++ [i])) (p.n + i) w5 h'.frz (HL.rdI 0 rfl enI1 (by decide)).frz (by omega)) rfl rfl noG ?_
    try (dsimp only [st, AV.cells, List.set_cons_zero, List.set_cons_succ, List.drop_zero, List.drop_succ_cons, List.take_zero, List.take_succ_cons, Nat.zero_add, Nat.add_zero, Nat.reduceAdd, List.cons_append, List.nil_append, List.eraseIdx_cons_zero, List.eraseIdx_cons_succ])
    refine WX ?_
    refine W ?_
    rintro u1 M1 ⟨⟨lu1, su1⟩, cv1⟩
    try (dsimp only [st, AV.cells, List.set_cons_zero, List.set_cons_succ, List.drop_zero, List.drop_succ_cons, List.take_zero, List.take_succ_cons, Nat.zero_add, Nat.add_zero, Nat.reduceAdd, List.cons_append, List.nil_append, List.eraseIdx_cons_zero, List.eraseIdx_cons_succ])
    refine WX ?_
    refine LX_c0 (fun h' HL wf => l1Most_ac m _ h'.frz) rfl rfl noG ?_
    try (dsimp only [st, AV.cells, List.set_cons_zero, List.set_cons_succ, List.drop_zero, List.drop_succ_cons, List.take_zero, List.take_succ_cons, Nat.zero_add, Nat.add_zero, Nat.reduceAdd, List.cons_append, List.nil_append, List.eraseIdx_cons_zero, List.eraseIdx_cons_succ])
    refine WX ?_
    refine W ?_
    refine LIL_conv (L' := [.pt b1 [.i .i64 p.n, vs, vo]]) (fun h' HL => (cv1 _ _ [] [] _ HL).tail) ?_
    refine IH (n - 1) _ _ (by omega) ⟨k + 1, _, exJ rfl, rfl, by omega, by omega, ?_⟩
    rw [heq, htk, toNat_succ h0]
    congr 1
    unfold mxI heldM
    split <;> split <;> omega
  · rw [List.drop_eq_nil_of_le (by omega)] at heq
    refine RET fun h' HL => ?_
    try dsimp only [oneA]
    exact ⟨by rw [heq]; rfl, HL.le⟩

def pressR (p : PlanM) : Int := if planOk p = true then pressM p (iotaI p.steps.length) else 0

theorem specPressureOf_ac (p : PlanM) (v : AV) (h : AH) (hR : PlR h v p) (hw : PSm p) : AC Try.prog 44 [v] h (fun r h' => r = .tup [.i .i64 (pressR p), .b (planOk p)] ∧ h.le h') := by
  have hR0 := hR
  obtain ⟨vs, vo, rfl, hs, ho⟩ := hR
  refine e44 _ fun wf => ?_
  unfold c44
  refine LI_start wf ?_
  refine W ?_
  refine LS_bxn rfl (sc_cons rfl (sc_cons (rd_sc hs) (sc_cons (rd_sc ho) rfl))) fun b1 => ?_
  try (dsimp only [st, AV.cells, List.set_cons_zero, List.set_cons_succ, List.drop_zero, List.drop_succ_cons, List.take_zero, List.take_succ_cons, Nat.zero_add, Nat.add_zero, Nat.reduceAdd, List.cons_append, List.nil_append, List.eraseIdx_cons_zero, List.eraseIdx_cons_succ])
  refine W ?_
  refine LS_c0 (fun h' HL wf => good_ac p _ h' (hR0.le HL.le) hw) rfl rfl ?_
  try (dsimp only [st, AV.cells, List.set_cons_zero, List.set_cons_succ, List.drop_zero, List.drop_succ_cons, List.take_zero, List.take_succ_cons, Nat.zero_add, Nat.add_zero, Nat.reduceAdd, List.cons_append, List.nil_append, List.eraseIdx_cons_zero, List.eraseIdx_cons_succ])
  refine W ?_
  (first | refine LS_gt rfl ?_ ?_ | refine LS_gf rfl ?_ ?_ | refine LI_cond rfl ?_ ?_) <;> intro hc <;> have hc' := hc <;> try simp only [decide_eq_true_eq, decide_eq_false_iff_not, Bool.not_eq_true', Bool.not_eq_false', Bool.not_eq_true, Bool.not_eq_false, beq_iff_eq, bne_iff_ne, beq_eq_false_iff_ne, bne_eq_false_iff_eq, Int.not_lt, Int.not_le, ge_iff_le, gt_iff_lt, not_and, ne_eq, Decidable.not_not] at hc'
  all_goals (try (dsimp only [st, AV.cells, List.set_cons_zero, List.set_cons_succ, List.drop_zero, List.drop_succ_cons, List.take_zero, List.take_succ_cons, Nat.zero_add, Nat.add_zero, Nat.reduceAdd, List.cons_append, List.nil_append, List.eraseIdx_cons_zero, List.eraseIdx_cons_succ]))
  all_goals (refine W ?_)
  · rw [pressR, nt hc, if_neg (by simp)]
    refine RET fun h' HL => ?_
    try dsimp only [oneA]
    exact ⟨rfl, HL.le⟩
  · have hk := nf hc
    obtain ⟨h1, h2, h3, h4, hf, h6⟩ := planOk_out hk
    rw [pressR, hk, if_pos rfl]
    refine dz44_0 ?_
    refine WX ?_
    refine W ?_
    refine LX_co (fun h' HL wf => plUpTo_ac (p.steps.length : Int) h'.frz (frz_wf wf) (by omega) (by omega)) enI1 rfl rfl noG fun w hw sw => ?_
    try (dsimp only [st, AV.cells, List.set_cons_zero, List.set_cons_succ, List.drop_zero, List.drop_succ_cons, List.take_zero, List.take_succ_cons, Nat.zero_add, Nat.add_zero, Nat.reduceAdd, List.cons_append, List.nil_append, List.eraseIdx_cons_zero, List.eraseIdx_cons_succ])
    refine WX ?_
    refine W ?_
    refine LX_c0 (fun h' HL wf => rePressure_ac p (iotaI p.steps.length) _ w h'.frz (hR0.le HL.le).frz hk (HL.rdI 0 rfl enI1 (by decide)).frz (by rw [iotaI_len]; omega) (fun i hi => (iotaI_mem _ _).1 hi)) rfl rfl noG ?_
    try (dsimp only [st, AV.cells, List.set_cons_zero, List.set_cons_succ, List.drop_zero, List.drop_succ_cons, List.take_zero, List.take_succ_cons, Nat.zero_add, Nat.add_zero, Nat.reduceAdd, List.cons_append, List.nil_append, List.eraseIdx_cons_zero, List.eraseIdx_cons_succ])
    refine WX ?_
    refine W ?_
    refine RET fun h' HL => ?_
    try dsimp only [oneA]
    exact ⟨rfl, HL.le⟩

theorem implPressureOf_ac (p : PlanM) (v : AV) (h : AH) (hR : PlR h v p) (hw : PSm p) : AC Try.prog 45 [v] h (fun r h' => r = .tup [.i .i64 (pressR p), .b (planOk p)] ∧ h.le h') := by
  have hR0 := hR
  obtain ⟨vs, vo, rfl, hs, ho⟩ := hR
  refine e45 _ fun wf => ?_
  unfold c45
  refine LI_start wf ?_
  refine W ?_
  refine LS_bxn rfl (sc_cons rfl (sc_cons (rd_sc hs) (sc_cons (rd_sc ho) rfl))) fun b1 => ?_
  try (dsimp only [st, AV.cells, List.set_cons_zero, List.set_cons_succ, List.drop_zero, List.drop_succ_cons, List.take_zero, List.take_succ_cons, Nat.zero_add, Nat.add_zero, Nat.reduceAdd, List.cons_append, List.nil_append, List.eraseIdx_cons_zero, List.eraseIdx_cons_succ])
  refine W ?_
  refine LS_c0 (fun h' HL wf => isPlan_ac p _ h' (hR0.le HL.le) hw) rfl rfl ?_
  try (dsimp only [st, AV.cells, List.set_cons_zero, List.set_cons_succ, List.drop_zero, List.drop_succ_cons, List.take_zero, List.take_succ_cons, Nat.zero_add, Nat.add_zero, Nat.reduceAdd, List.cons_append, List.nil_append, List.eraseIdx_cons_zero, List.eraseIdx_cons_succ])
  refine W ?_
  (first | refine LS_gt rfl ?_ ?_ | refine LS_gf rfl ?_ ?_ | refine LI_cond rfl ?_ ?_) <;> intro hc <;> have hc' := hc <;> try simp only [decide_eq_true_eq, decide_eq_false_iff_not, Bool.not_eq_true', Bool.not_eq_false', Bool.not_eq_true, Bool.not_eq_false, beq_iff_eq, bne_iff_ne, beq_eq_false_iff_ne, bne_eq_false_iff_eq, Int.not_lt, Int.not_le, ge_iff_le, gt_iff_lt, not_and, ne_eq, Decidable.not_not] at hc'
  all_goals (try (dsimp only [st, AV.cells, List.set_cons_zero, List.set_cons_succ, List.drop_zero, List.drop_succ_cons, List.take_zero, List.take_succ_cons, Nat.zero_add, Nat.add_zero, Nat.reduceAdd, List.cons_append, List.nil_append, List.eraseIdx_cons_zero, List.eraseIdx_cons_succ]))
  all_goals (refine W ?_)
  · rw [pressR, nt hc, if_neg (by simp)]
    refine RET fun h' HL => ?_
    try dsimp only [oneA]
    exact ⟨rfl, HL.le⟩
  · have hk := nf hc
    obtain ⟨h1, h2, h3, h4, hf, h6⟩ := planOk_out hk
    rw [pressR, hk, if_pos rfl]
    refine LS_co (fun h' HL wf => firsts_ac (p.steps.length : Int) h' wf (by omega) (by omega)) enI1 rfl rfl fun w hw sw => ?_
    try (dsimp only [st, AV.cells, List.set_cons_zero, List.set_cons_succ, List.drop_zero, List.drop_succ_cons, List.take_zero, List.take_succ_cons, Nat.zero_add, Nat.add_zero, Nat.reduceAdd, List.cons_append, List.nil_append, List.eraseIdx_cons_zero, List.eraseIdx_cons_succ])
    refine W ?_
    refine LS_c0 (fun h' HL wf => pressure_ac p (iotaI p.steps.length) b1 vs vo w h' ⟨HL.rowsP 1 rfl (Nat.le_refl 3) rfl, hs.le HL.le, ho.le HL.le⟩ hk (HL.rdI 0 rfl enI1 (by decide)) (by rw [iotaI_len]; omega) (fun i hi => (iotaI_mem _ _).1 hi)) rfl rfl ?_
    try (dsimp only [st, AV.cells, List.set_cons_zero, List.set_cons_succ, List.drop_zero, List.drop_succ_cons, List.take_zero, List.take_succ_cons, Nat.zero_add, Nat.add_zero, Nat.reduceAdd, List.cons_append, List.nil_append, List.eraseIdx_cons_zero, List.eraseIdx_cons_succ])
    refine W ?_
    refine RET fun h' HL => ?_
    try dsimp only [oneA]
    exact ⟨rfl, HL.le⟩

theorem lawFnExactPressureOf_ac (p : PlanM) (v : AV)  (h : AH) (hR : PlR h v p) (hw0 : p.wf) : AC Try.prog 13 [v] h (fun r h' => r = .b true) := by
  have hR0 := hR
  obtain ⟨vs, vo, rfl, hs, ho⟩ := hR
  refine e13 _ fun wf => ?_
  unfold c13
  refine LI_start wf ?_
  refine W ?_
  refine LS_bxn rfl (sc_cons rfl (sc_cons (rd_sc hs) (sc_cons (rd_sc ho) rfl))) fun b1 => ?_
  try (dsimp only [st, AV.cells, List.set_cons_zero, List.set_cons_succ, List.drop_zero, List.drop_succ_cons, List.take_zero, List.take_succ_cons, Nat.zero_add, Nat.add_zero, Nat.reduceAdd, List.cons_append, List.nil_append, List.eraseIdx_cons_zero, List.eraseIdx_cons_succ])
  refine W ?_
  refine LS_cq (fun h' HL wf => szPlan_ac p _ 1048576 h' (hR0.le HL.le) (by omega) (by omega) hw0.ls hw0.lo) rfl rfl ?_
  try (dsimp only [st, AV.cells, List.set_cons_zero, List.set_cons_succ, List.drop_zero, List.drop_succ_cons, List.take_zero, List.take_succ_cons, Nat.zero_add, Nat.add_zero, Nat.reduceAdd, List.cons_append, List.nil_append, List.eraseIdx_cons_zero, List.eraseIdx_cons_succ])
  refine W ?_
  rintro _ ⟨z, rfl, hz⟩
  try (dsimp only [st, AV.cells, List.set_cons_zero, List.set_cons_succ, List.drop_zero, List.drop_succ_cons, List.take_zero, List.take_succ_cons, Nat.zero_add, Nat.add_zero, Nat.reduceAdd, List.cons_append, List.nil_append, List.eraseIdx_cons_zero, List.eraseIdx_cons_succ])
  refine W ?_
  (first | refine LS_gt rfl ?_ ?_ | refine LS_gf rfl ?_ ?_ | refine LI_cond rfl ?_ ?_) <;> intro hc <;> have hc' := hc <;> try simp only [decide_eq_true_eq, decide_eq_false_iff_not, Bool.not_eq_true', Bool.not_eq_false', Bool.not_eq_true, Bool.not_eq_false, beq_iff_eq, bne_iff_ne, beq_eq_false_iff_ne, bne_eq_false_iff_eq, Int.not_lt, Int.not_le, ge_iff_le, gt_iff_lt, not_and, ne_eq, Decidable.not_not] at hc'
  all_goals (try (dsimp only [st, AV.cells, List.set_cons_zero, List.set_cons_succ, List.drop_zero, List.drop_succ_cons, List.take_zero, List.take_succ_cons, Nat.zero_add, Nat.add_zero, Nat.reduceAdd, List.cons_append, List.nil_append, List.eraseIdx_cons_zero, List.eraseIdx_cons_succ]))
  all_goals (refine W ?_)
  · refine RET fun h' HL => ?_
    try dsimp only [oneA]
  · have hw := psm_of hw0 hz hc'
    refine LS_c1 (fun h' HL wf => toPlanX_ac p _ h' (hR0.le HL.le) hw) rfl rfl ?_
    try (dsimp only [st, AV.cells, List.set_cons_zero, List.set_cons_succ, List.drop_zero, List.drop_succ_cons, List.take_zero, List.take_succ_cons, Nat.zero_add, Nat.add_zero, Nat.reduceAdd, List.cons_append, List.nil_append, List.eraseIdx_cons_zero, List.eraseIdx_cons_succ])
    refine W ?_
    rintro _ _ ⟨vs1, vo1, ⟨rfl, l1, l2, s1, s2⟩, rfl⟩
    try (dsimp only [st, AV.cells, List.set_cons_zero, List.set_cons_succ, List.drop_zero, List.drop_succ_cons, List.take_zero, List.take_succ_cons, Nat.zero_add, Nat.add_zero, Nat.reduceAdd, List.cons_append, List.nil_append, List.eraseIdx_cons_zero, List.eraseIdx_cons_succ])
    refine W ?_
    refine LS_c0 (fun h' HL wf => specPressureOf_ac p _ h' (plr_of HL 0 1 rfl rfl) hw) rfl rfl ?_
    try (dsimp only [st, AV.cells, List.set_cons_zero, List.set_cons_succ, List.drop_zero, List.drop_succ_cons, List.take_zero, List.take_succ_cons, Nat.zero_add, Nat.add_zero, Nat.reduceAdd, List.cons_append, List.nil_append, List.eraseIdx_cons_zero, List.eraseIdx_cons_succ])
    refine W ?_
    refine LS_c1 (fun h' HL wf => toPlanX_ac p _ h' (hR0.le HL.le) hw) rfl rfl ?_
    try (dsimp only [st, AV.cells, List.set_cons_zero, List.set_cons_succ, List.drop_zero, List.drop_succ_cons, List.take_zero, List.take_succ_cons, Nat.zero_add, Nat.add_zero, Nat.reduceAdd, List.cons_append, List.nil_append, List.eraseIdx_cons_zero, List.eraseIdx_cons_succ])
    refine W ?_
    rintro _ _ ⟨vs2, vo2, ⟨rfl, l3, l4, s3, s4⟩, rfl⟩
    try (dsimp only [st, AV.cells, List.set_cons_zero, List.set_cons_succ, List.drop_zero, List.drop_succ_cons, List.take_zero, List.take_succ_cons, Nat.zero_add, Nat.add_zero, Nat.reduceAdd, List.cons_append, List.nil_append, List.eraseIdx_cons_zero, List.eraseIdx_cons_succ])
    refine W ?_
    refine LS_al rfl fun b2 => ?_
    try (dsimp only [st, AV.cells, List.set_cons_zero, List.set_cons_succ, List.drop_zero, List.drop_succ_cons, List.take_zero, List.take_succ_cons, Nat.zero_add, Nat.add_zero, Nat.reduceAdd, List.cons_append, List.nil_append, List.eraseIdx_cons_zero, List.eraseIdx_cons_succ])
    refine W ?_
    refine LS_c0 (fun h' HL wf => implPressureOf_ac p _ h' (plr_of HL 1 2 rfl rfl) hw) rfl rfl ?_
    try (dsimp only [st, AV.cells, List.set_cons_zero, List.set_cons_succ, List.drop_zero, List.drop_succ_cons, List.take_zero, List.take_succ_cons, Nat.zero_add, Nat.add_zero, Nat.reduceAdd, List.cons_append, List.nil_append, List.eraseIdx_cons_zero, List.eraseIdx_cons_succ])
    refine W ?_
    first | (refine LS_gyH rfl (by simp) ?_; intro hg) | (refine LI_cond_tH rfl (by simp) ?_; intro hg)
    refine W ?_
    first | (refine LS_gtnH rfl (by simp) ?_; intro hg; try (dsimp only [st, AV.cells, List.set_cons_zero, List.set_cons_succ, List.drop_zero, List.drop_succ_cons, List.take_zero, List.take_succ_cons, Nat.zero_add, Nat.add_zero, Nat.reduceAdd, List.cons_append, List.nil_append, List.eraseIdx_cons_zero, List.eraseIdx_cons_succ])) | (refine LS_gfnH rfl (by simp) ?_; intro hg; try (dsimp only [st, AV.cells, List.set_cons_zero, List.set_cons_succ, List.drop_zero, List.drop_succ_cons, List.take_zero, List.take_succ_cons, Nat.zero_add, Nat.add_zero, Nat.reduceAdd, List.cons_append, List.nil_append, List.eraseIdx_cons_zero, List.eraseIdx_cons_succ])) | (refine LI_cond_fH rfl (by simp) ?_; intro hg)
    refine W ?_
    refine dz13_0 ?_
    refine WX ?_
    refine W ?_
    refine LX_c1 (fun h' HL wf => toPlanX_ac p _ h'.frz (hR0.le HL.le).frz hw) rfl rfl noG ?_
    try (dsimp only [st, AV.cells, List.set_cons_zero, List.set_cons_succ, List.drop_zero, List.drop_succ_cons, List.take_zero, List.take_succ_cons, Nat.zero_add, Nat.add_zero, Nat.reduceAdd, List.cons_append, List.nil_append, List.eraseIdx_cons_zero, List.eraseIdx_cons_succ])
    refine WX ?_
    refine W ?_
    rintro _ _ ⟨vs3, vo3, ⟨rfl, l5, l6, s5, s6⟩, rfl⟩
    try (dsimp only [st, AV.cells, List.set_cons_zero, List.set_cons_succ, List.drop_zero, List.drop_succ_cons, List.take_zero, List.take_succ_cons, Nat.zero_add, Nat.add_zero, Nat.reduceAdd, List.cons_append, List.nil_append, List.eraseIdx_cons_zero, List.eraseIdx_cons_succ])
    refine WX ?_
    refine LX_c0 (fun h' HL wf => eqPlan_same p _ _ h'.frz (plr_of HL 3 4 rfl rfl).frz (plr_of HL 0 1 rfl rfl).frz hw.ls hw.lo) rfl rfl noG ?_
    try (dsimp only [st, AV.cells, List.set_cons_zero, List.set_cons_succ, List.drop_zero, List.drop_succ_cons, List.take_zero, List.take_succ_cons, Nat.zero_add, Nat.add_zero, Nat.reduceAdd, List.cons_append, List.nil_append, List.eraseIdx_cons_zero, List.eraseIdx_cons_succ])
    refine WX ?_
    refine W ?_
    refine RET fun h' HL => ?_
    try dsimp only [oneA]

theorem lit1 {v : AV} (h : v.cells = [v]) (hs : v.cells.all AV.sc = true) : litA 1 0 [(0, v)] = some [v] := by
  unfold litA
  rw [if_pos ⟨rfl, by rw [h]; rfl, hs⟩]
  simp [litA, h]
end Go.Proofs.Ytdeeeacnmkmeiaa
