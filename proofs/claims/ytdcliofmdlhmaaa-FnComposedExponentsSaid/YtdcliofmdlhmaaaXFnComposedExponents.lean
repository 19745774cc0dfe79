/- The walk of the law FnComposedExponents, part 2: what each function that it reaches computes. -/
import Derived.Test.YtdcliofmdlhmaaaXFnComposedExponentsa
namespace Go.Proofs.Ytdcliofmdlhmaaa
open Go.AL
set_option linter.unusedVariables false
set_option linter.unusedSimpArgs false
set_option maxRecDepth 100000
set_option maxHeartbeats 1000000
attribute [local irreducible] AS AI AIL OpR AC CW AWP ALoop LS LI LIL LThen LLoop LBlk LRet Lh AX OpV OpF

/-! ### Plans, or something near -/
theorem anyPlan_ac (inputs steps : Int) (hi : 1 ≤ inputs ∧ inputs ≤ 10) (hs : 0 ≤ steps ∧ steps ≤ 20) (bc : Nat) (cv : AV) (l : List Int) (ct sd : Int) (h0 h : AH) (L : List It) (HL : Loq h0 h (.pt bc [cv, .i .i64 ct, .i .u64 sd] :: L)) (hcv : RdG 1 enU h0 cv l) (hb : ∀ x ∈ l, 0 ≤ x ∧ x ≤ 255) (h1 : 0 ≤ ct) (h2 : ct ≤ 549735813888) :
    AC Try.prog 76 [.p bc 0, .i .i64 inputs, .i .i64 steps] h (fun r h' => ∃ M, (∃ (q : PlanM) (ws wo : AV) (ct' sd' : Int), r = .agg [.i .i64 q.n, ws, wo] ∧ (lenA ws = some q.steps.length ∧ ws.sc = true ∧ lenA wo = some q.outs.length ∧ wo.sc = true) ∧ PlB q ∧ (ct ≤ ct' ∧ ct' ≤ ct + 500) ∧ M = .sl ws 2 (q.steps.flatMap enStep) :: .sl wo 1 (q.outs.flatMap enI) :: .pt bc [cv, .i .i64 ct', .i .u64 sd'] :: L) ∧ Loq h0 h' M) := by
  refine e76 _ _ _ fun wf => ?_
  unfold c76
  refine LI_startL HL ?_
  refine W ?_
  refine LS_al rfl fun b6 => ?_
  try (dsimp only [st, setL, AV.cells, List.set_cons_zero, List.set_cons_succ, List.drop_zero, List.drop_succ_cons, List.take_zero, List.take_succ_cons, Nat.zero_add, Nat.add_zero, Nat.reduceAdd, List.cons_append, List.nil_append, List.eraseIdx_cons_zero, List.eraseIdx_cons_succ])
  refine W ?_
  refine LS_rot 1 rfl ?_
  refine LS_cm (.refl _) (fun h' HL wf => curPlan_ac inputs steps hi hs _ _ _ _ _ _ h' _ HL hcv hb (by omega) (by omega)) rfl rfl ?_
  rintro _ _ ⟨⟨n, ss, os⟩, ws, wo, ct1, sd1, rfl, ⟨lw, sw, lo, so⟩, hB, hct1, rfl⟩
  dsimp only at lw lo hB
  obtain ⟨hn, hsl, hol, hsb, hob⟩ := hB
  try (dsimp only [st, setL, AV.cells, List.set_cons_zero, List.set_cons_succ, List.drop_zero, List.drop_succ_cons, List.take_zero, List.take_succ_cons, Nat.zero_add, Nat.add_zero, Nat.reduceAdd, List.cons_append, List.nil_append, List.eraseIdx_cons_zero, List.eraseIdx_cons_succ])
  refine W ?_
  refine LS_al rfl fun b7 => ?_
  try (dsimp only [st, setL, AV.cells, List.set_cons_zero, List.set_cons_succ, List.drop_zero, List.drop_succ_cons, List.take_zero, List.take_succ_cons, Nat.zero_add, Nat.add_zero, Nat.reduceAdd, List.cons_append, List.nil_append, List.eraseIdx_cons_zero, List.eraseIdx_cons_succ])
  refine W ?_
  refine LS_rot 3 rfl ?_
  refine LS_cm (.refl _) (fun h' HL wf => pick_ac 16 _ _ _ _ _ _ h' _ HL  hcv hb (by omega) (by omega)) rfl rfl ?_
  rintro _ _ ⟨x, ct2, sd2, rfl, hx, hct2, rfl⟩
  try (dsimp only [st, setL, AV.cells, List.set_cons_zero, List.set_cons_succ, List.drop_zero, List.drop_succ_cons, List.take_zero, List.take_succ_cons, Nat.zero_add, Nat.add_zero, Nat.reduceAdd, List.cons_append, List.nil_append, List.eraseIdx_cons_zero, List.eraseIdx_cons_succ])
  refine W ?_
  obtain ⟨ss0, hss0⟩ : ∃ q, ss = q := ⟨_, rfl⟩
  have hsb' : ∀ s ∈ ss, (-1 ≤ s.1 ∧ s.1 ≤ 1000) ∧ -1 ≤ s.2 ∧ s.2 ≤ 1000 := fun s hs => by have := hsb s hs; omega
  have hob' : ∀ v ∈ os, -1000 ≤ v ∧ v ≤ 1000 := fun v hv => by have := hob v hv; omega
  (first | refine LS_gt rfl ?_ ?_ | refine LS_gf rfl ?_ ?_ | refine LI_cond rfl ?_ ?_) <;> intro hc <;> have hc' := hc <;> try simp only [decide_eq_true_eq, decide_eq_false_iff_not, Bool.not_eq_true', Bool.not_eq_false', Bool.not_eq_true, Bool.not_eq_false, beq_iff_eq, bne_iff_ne, beq_eq_false_iff_ne, bne_eq_false_iff_eq, Int.not_lt, Int.not_le, ge_iff_le, gt_iff_lt, not_and, ne_eq, Decidable.not_not] at hc'
  all_goals (try (dsimp only [st, setL, AV.cells, List.set_cons_zero, List.set_cons_succ, List.drop_zero, List.drop_succ_cons, List.take_zero, List.take_succ_cons, Nat.zero_add, Nat.add_zero, Nat.reduceAdd, List.cons_append, List.nil_append, List.eraseIdx_cons_zero, List.eraseIdx_cons_succ]))
  all_goals (refine W ?_)
  · refine LS_lt [-1, 0, 1, 6, 7] rfl rfl (by decide) rfl rfl rfl rfl enI1 rfl rfl fun w lw1 sw1 => ?_
    try (dsimp only [st, setL, AV.cells, List.set_cons_zero, List.set_cons_succ, List.drop_zero, List.drop_succ_cons, List.take_zero, List.take_succ_cons, Nat.zero_add, Nat.add_zero, Nat.reduceAdd, List.cons_append, List.nil_append, List.eraseIdx_cons_zero, List.eraseIdx_cons_succ])
    refine W ?_
    refine LS_rot 1 rfl ?_
    refine LS_cm (.refl _) (fun h' HL wf => among_ac [-1, 0, 1, 6, 7] w _ _ _ _ _ _ h' _ HL (fun h' HL => HL.rdI 0 rfl enI1 (by decide)) (by decide) hcv hb (by omega) (by omega)) rfl rfl ?_
    rintro _ _ ⟨y, ct3, sd3, rfl, hy, hct3, rfl⟩
    try (dsimp only [st, setL, AV.cells, List.set_cons_zero, List.set_cons_succ, List.drop_zero, List.drop_succ_cons, List.take_zero, List.take_succ_cons, Nat.zero_add, Nat.add_zero, Nat.reduceAdd, List.cons_append, List.nil_append, List.eraseIdx_cons_zero, List.eraseIdx_cons_succ])
    refine W ?_
    have hy' : y = -1 ∨ y = 0 ∨ y = 1 ∨ y = 6 ∨ y = 7 := by simpa using hy
    refine RET fun h' HL => ?_
    try dsimp only [oneA]
    exact ⟨_, ⟨⟨y, ss, os⟩, ws, wo, ct3, sd3, rfl, ⟨lw, sw, lo, so⟩, ⟨by show -1 ≤ y ∧ y ≤ 100; omega, by show ss.length ≤ 100; omega, by show os.length ≤ 100; omega, hsb', hob'⟩, by omega, rfl⟩, loq_selT HL 6 [3, 4, 0] (by decide) (by decide)⟩
  · (first | refine LS_gt rfl ?_ ?_ | refine LS_gf rfl ?_ ?_ | refine LI_cond rfl ?_ ?_) <;> intro hc <;> have hc' := hc <;> try simp only [decide_eq_true_eq, decide_eq_false_iff_not, Bool.not_eq_true', Bool.not_eq_false', Bool.not_eq_true, Bool.not_eq_false, beq_iff_eq, bne_iff_ne, beq_eq_false_iff_ne, bne_eq_false_iff_eq, Int.not_lt, Int.not_le, ge_iff_le, gt_iff_lt, not_and, ne_eq, Decidable.not_not] at hc'
    all_goals (try (dsimp only [st, setL, AV.cells, List.set_cons_zero, List.set_cons_succ, List.drop_zero, List.drop_succ_cons, List.take_zero, List.take_succ_cons, Nat.zero_add, Nat.add_zero, Nat.reduceAdd, List.cons_append, List.nil_append, List.eraseIdx_cons_zero, List.eraseIdx_cons_succ]))
    all_goals (refine W ?_)
    · (first | refine LS_gt rfl ?_ ?_ | refine LS_gf rfl ?_ ?_ | refine LI_cond rfl ?_ ?_) <;> intro hc <;> have hc' := hc <;> try simp only [decide_eq_true_eq, decide_eq_false_iff_not, Bool.not_eq_true', Bool.not_eq_false', Bool.not_eq_true, Bool.not_eq_false, beq_iff_eq, bne_iff_ne, beq_eq_false_iff_ne, bne_eq_false_iff_eq, Int.not_lt, Int.not_le, ge_iff_le, gt_iff_lt, not_and, ne_eq, Decidable.not_not] at hc'
      all_goals (try (dsimp only [st, setL, AV.cells, List.set_cons_zero, List.set_cons_succ, List.drop_zero, List.drop_succ_cons, List.take_zero, List.take_succ_cons, Nat.zero_add, Nat.add_zero, Nat.reduceAdd, List.cons_append, List.nil_append, List.eraseIdx_cons_zero, List.eraseIdx_cons_succ]))
      all_goals (refine W ?_)
      · obtain ⟨b, o, c, rfl⟩ := sl_of lw (by omega)
        refine db76_0 [] (by simp) ?_
        refine WX ?_
        repeat' (first | (refine LX_two ?_ ?_ <;> refine WX ?_) | (refine LX_l1e 1 noG rfl rfl rfl ?_; try (dsimp only [st, setL, AV.cells, List.set_cons_zero, List.set_cons_succ, List.drop_zero, List.drop_succ_cons, List.take_zero, List.take_succ_cons, Nat.zero_add, Nat.add_zero, Nat.reduceAdd, List.cons_append, List.nil_append, List.eraseIdx_cons_zero, List.eraseIdx_cons_succ]); refine WX ?_) | (refine LX_f noG (LO_cm (.refl _) (fun h' HL wf => pick_ac ss.length _ _ _ _ _ _ h' _ HL  hcv hb (by omega) (by omega)) rfl rfl ?_); rintro _ _ ⟨p1, ct3, sd3, rfl, hp1, hct3, rfl⟩; try (dsimp only [st, setL, AV.cells, List.set_cons_zero, List.set_cons_succ, List.drop_zero, List.drop_succ_cons, List.take_zero, List.take_succ_cons, Nat.zero_add, Nat.add_zero, Nat.reduceAdd, List.cons_append, List.nil_append, List.eraseIdx_cons_zero, List.eraseIdx_cons_succ]); refine WX ?_) | (refine LX_f noG (LO_cm (.refl _) (fun h' HL wf => pick_ac 5 _ _ _ _ _ _ h' _ HL  hcv hb (by omega) (by omega)) rfl rfl ?_); rintro _ _ ⟨p2, ct4, sd4, rfl, hp2, hct4, rfl⟩; try (dsimp only [st, setL, AV.cells, List.set_cons_zero, List.set_cons_succ, List.drop_zero, List.drop_succ_cons, List.take_zero, List.take_succ_cons, Nat.zero_add, Nat.add_zero, Nat.reduceAdd, List.cons_append, List.nil_append, List.eraseIdx_cons_zero, List.eraseIdx_cons_succ]); refine WX ?_) | (refine LX_f noG (LO_cm (.refl _) (fun h' HL wf => pick_ac 8 _ _ _ _ _ _ h' _ HL  hcv hb (by omega) (by omega)) rfl rfl ?_); rintro _ _ ⟨p3, ct5, sd5, rfl, hp3, hct5, rfl⟩; try (dsimp only [st, setL, AV.cells, List.set_cons_zero, List.set_cons_succ, List.drop_zero, List.drop_succ_cons, List.take_zero, List.take_succ_cons, Nat.zero_add, Nat.add_zero, Nat.reduceAdd, List.cons_append, List.nil_append, List.eraseIdx_cons_zero, List.eraseIdx_cons_succ]); refine WX ?_) | (refine LX_is hp1.1 (by omega) rfl rfl noG ?_; try (dsimp only [st, setL, AV.cells, List.set_cons_zero, List.set_cons_succ, List.drop_zero, List.drop_succ_cons, List.take_zero, List.take_succ_cons, Nat.zero_add, Nat.add_zero, Nat.reduceAdd, List.cons_append, List.nil_append, List.eraseIdx_cons_zero, List.eraseIdx_cons_succ]); refine WX ?_) | (refine LX_f noG (LO_ss (p2 - 1, p3) 2 p1.toNat rfl (by omega) rfl rfl enStep2 (by decide) rfl rfl rfl ?_); try (dsimp only [st, setL, AV.cells, List.set_cons_zero, List.set_cons_succ, List.drop_zero, List.drop_succ_cons, List.take_zero, List.take_succ_cons, Nat.zero_add, Nat.add_zero, Nat.reduceAdd, List.cons_append, List.nil_append, List.eraseIdx_cons_zero, List.eraseIdx_cons_succ]); refine WX ?_))
        all_goals
          refine W ?_
          refine RET fun h' HL => ?_
          try dsimp only [oneA]
          exact ⟨_, ⟨⟨n, ss.set p1.toNat (p2 - 1, p3), os⟩, _, wo, ct5, sd5, rfl, ⟨by simpa using lw, sw, lo, so⟩, ⟨by show -1 ≤ n ∧ n ≤ 100; omega, by simp; omega, by show os.length ≤ 100; omega, fun s hs => (List.mem_or_eq_of_mem_set hs).elim (hsb' s) (fun e => by rw [e]; dsimp only; omega), hob'⟩, by omega, rfl⟩, loq_selT HL 5 [2, 3, 0] (by decide) (by decide)⟩
      · refine RET fun h' HL => ?_
        try dsimp only [oneA]
        exact ⟨_, ⟨⟨n, ss, os⟩, ws, wo, ct2, sd2, rfl, ⟨lw, sw, lo, so⟩, ⟨by show -1 ≤ n ∧ n ≤ 100; omega, by show ss.length ≤ 100; omega, by show os.length ≤ 100; omega, hsb', hob'⟩, by omega, rfl⟩, loq_selT HL 5 [2, 3, 0] (by decide) (by decide)⟩
    · (first | refine LS_gt rfl ?_ ?_ | refine LS_gf rfl ?_ ?_ | refine LI_cond rfl ?_ ?_) <;> intro hc <;> have hc' := hc <;> try simp only [decide_eq_true_eq, decide_eq_false_iff_not, Bool.not_eq_true', Bool.not_eq_false', Bool.not_eq_true, Bool.not_eq_false, beq_iff_eq, bne_iff_ne, beq_eq_false_iff_ne, bne_eq_false_iff_eq, Int.not_lt, Int.not_le, ge_iff_le, gt_iff_lt, not_and, ne_eq, Decidable.not_not] at hc'
      all_goals (try (dsimp only [st, setL, AV.cells, List.set_cons_zero, List.set_cons_succ, List.drop_zero, List.drop_succ_cons, List.take_zero, List.take_succ_cons, Nat.zero_add, Nat.add_zero, Nat.reduceAdd, List.cons_append, List.nil_append, List.eraseIdx_cons_zero, List.eraseIdx_cons_succ]))
      all_goals (refine W ?_)
      · refine db76_1 [] (by simp) ?_
        refine WX ?_
        repeat' (first | (refine LX_two ?_ ?_ <;> refine WX ?_) | (refine LX_l1e 1 noG rfl rfl rfl ?_; try (dsimp only [st, setL, AV.cells, List.set_cons_zero, List.set_cons_succ, List.drop_zero, List.drop_succ_cons, List.take_zero, List.take_succ_cons, Nat.zero_add, Nat.add_zero, Nat.reduceAdd, List.cons_append, List.nil_append, List.eraseIdx_cons_zero, List.eraseIdx_cons_succ]); refine WX ?_) | (refine LX_l1e 2 noG rfl rfl rfl ?_; try (dsimp only [st, setL, AV.cells, List.set_cons_zero, List.set_cons_succ, List.drop_zero, List.drop_succ_cons, List.take_zero, List.take_succ_cons, Nat.zero_add, Nat.add_zero, Nat.reduceAdd, List.cons_append, List.nil_append, List.eraseIdx_cons_zero, List.eraseIdx_cons_succ]); refine WX ?_) | (refine LX_f noG (LO_cm (.refl _) (fun h' HL wf => pick_ac 12 _ _ _ _ _ _ h' _ HL  hcv hb (by omega) (by omega)) rfl rfl ?_); rintro _ _ ⟨p1, ct3, sd3, rfl, hp1, hct3, rfl⟩; try (dsimp only [st, setL, AV.cells, List.set_cons_zero, List.set_cons_succ, List.drop_zero, List.drop_succ_cons, List.take_zero, List.take_succ_cons, Nat.zero_add, Nat.add_zero, Nat.reduceAdd, List.cons_append, List.nil_append, List.eraseIdx_cons_zero, List.eraseIdx_cons_succ]); refine WX ?_) | (refine LX_f noG (LO_lt [p1 - 1] rfl rfl (by decide) rfl rfl rfl rfl enI1 rfl rfl fun lit llit slit => ?_); try (dsimp only [st, setL, AV.cells, List.set_cons_zero, List.set_cons_succ, List.drop_zero, List.drop_succ_cons, List.take_zero, List.take_succ_cons, Nat.zero_add, Nat.add_zero, Nat.reduceAdd, List.cons_append, List.nil_append, List.eraseIdx_cons_zero, List.eraseIdx_cons_succ]); refine WX ?_) | (refine LX_f noG (LO_ap 4 rfl (fun h' HL => HL.rdI 0 rfl enI1 (by decide)) enI1 (by decide) (by simp) (by simp; omega) (by simp; omega) rfl rfl rfl fun z2 lz2 sz2 => ?_); try (dsimp only [st, setL, AV.cells, List.set_cons_zero, List.set_cons_succ, List.drop_zero, List.drop_succ_cons, List.take_zero, List.take_succ_cons, Nat.zero_add, Nat.add_zero, Nat.reduceAdd, List.cons_append, List.nil_append, List.eraseIdx_cons_zero, List.eraseIdx_cons_succ]); refine WX ?_))
        all_goals
          refine W ?_
          refine RET fun h' HL => ?_
          try dsimp only [oneA]
          exact ⟨_, ⟨⟨n, ss, os ++ [p1 - 1]⟩, ws, z2, ct3, sd3, rfl, ⟨lw, sw, lz2, sz2⟩, ⟨by show -1 ≤ n ∧ n ≤ 100; omega, by show ss.length ≤ 100; omega, by simp; omega, hsb', snoc_all hob' (by omega)⟩, by omega, rfl⟩, loq_selT HL 6 [3, 4, 1] (by decide) (by decide)⟩
      · (first | refine LS_gt rfl ?_ ?_ | refine LS_gf rfl ?_ ?_ | refine LI_cond rfl ?_ ?_) <;> intro hc <;> have hc' := hc <;> try simp only [decide_eq_true_eq, decide_eq_false_iff_not, Bool.not_eq_true', Bool.not_eq_false', Bool.not_eq_true, Bool.not_eq_false, beq_iff_eq, bne_iff_ne, beq_eq_false_iff_ne, bne_eq_false_iff_eq, Int.not_lt, Int.not_le, ge_iff_le, gt_iff_lt, not_and, ne_eq, Decidable.not_not] at hc'
        all_goals (try (dsimp only [st, setL, AV.cells, List.set_cons_zero, List.set_cons_succ, List.drop_zero, List.drop_succ_cons, List.take_zero, List.take_succ_cons, Nat.zero_add, Nat.add_zero, Nat.reduceAdd, List.cons_append, List.nil_append, List.eraseIdx_cons_zero, List.eraseIdx_cons_succ]))
        all_goals (refine W ?_)
        · refine LS_cm (.refl _) (fun h' HL wf => pick_ac 4 _ _ _ _ _ _ h' _ HL  hcv hb (by omega) (by omega)) rfl rfl ?_
          rintro _ _ ⟨k0, ct3, sd3, rfl, hk0, hct3, rfl⟩
          try (dsimp only [st, setL, AV.cells, List.set_cons_zero, List.set_cons_succ, List.drop_zero, List.drop_succ_cons, List.take_zero, List.take_succ_cons, Nat.zero_add, Nat.add_zero, Nat.reduceAdd, List.cons_append, List.nil_append, List.eraseIdx_cons_zero, List.eraseIdx_cons_succ])
          refine W ?_
          rw [hss0]
          refine LIL_nl (k := 2) ?_
          refine LIL_ind (fun k a M => ∃ (i : Int) (u : AV) (ss : List (Int × Int)), (∃ r : Nat → AV, a = [r 0, r 1, r 2, r 3, r 4, r 5, .p b6 0, .p b7 0, .i .i64 i, r 9, r 10, r 11, r 12, r 13, r 14, r 15, r 16, r 17, r 18, r 19, r 20, r 21, r 22, r 23, r 24, r 25, r 26, r 27, r 28, r 29, r 30, r 31, r 32, r 33, r 34, r 35, r 36, r 37, r 38, r 39, r 40, r 41, r 42, r 43, r 44, r 45, r 46, r 47, r 48, r 49, r 50, r 51, r 52, r 53, r 54, r 55, r 56, r 57, r 58, r 59, r 60, r 61, r 62, r 63, r 64, r 65, r 66, r 67, r 68, r 69, r 70, r 71, r 72, r 73, r 74, r 75, r 76, r 77, r 78, r 79, r 80, r 81, r 82, r 83, r 84, r 85, r 86, r 87, r 88, r 89, r 90, r 91, r 92, r 93, r 94, r 95, r 96, r 97, r 98, r 99, r 100, r 101, r 102, r 103, r 104, r 105, r 106, r 107, r 108, r 109, r 110, r 111, r 112, r 113, r 114, r 115]) ∧ M = .sl u 2 (ss.flatMap enStep) :: .pt bc [cv, .i .i64 ct3, .i .u64 sd3] :: .pt b7 [.i .i64 1, u, .ns] :: .sl ws 2 (ss0.flatMap enStep) :: .sl wo 1 (os.flatMap enI) :: .pt b6 [.i .i64 0, .ns, .ns] :: L ∧ i = k ∧ ss.length + k ≤ 30 ∧ (∀ s ∈ ss, (-1 ≤ s.1 ∧ s.1 ≤ 1000) ∧ -1 ≤ s.2 ∧ s.2 ≤ 1000) ∧ lenA u = some ss.length ∧ u.sc = true)
            (18 + k0).toNat ⟨18 + k0, .ns, [], exJ rfl, rfl, by omega, by simp; omega, by simp, rfl, rfl⟩ ?_
          rintro k a M ⟨i, u, qs, ⟨r, rfl⟩, rfl, rfl, hql, hqb, lu, su⟩ IH
          refine W ?_
          (first | refine LS_gt rfl ?_ ?_ | refine LS_gf rfl ?_ ?_ | refine LI_cond rfl ?_ ?_) <;> intro hc <;> have hc' := hc <;> try simp only [decide_eq_true_eq, decide_eq_false_iff_not, Bool.not_eq_true', Bool.not_eq_false', Bool.not_eq_true, Bool.not_eq_false, beq_iff_eq, bne_iff_ne, beq_eq_false_iff_ne, bne_eq_false_iff_eq, Int.not_lt, Int.not_le, ge_iff_le, gt_iff_lt, not_and, ne_eq, Decidable.not_not] at hc'
          all_goals (try (dsimp only [st, setL, AV.cells, List.set_cons_zero, List.set_cons_succ, List.drop_zero, List.drop_succ_cons, List.take_zero, List.take_succ_cons, Nat.zero_add, Nat.add_zero, Nat.reduceAdd, List.cons_append, List.nil_append, List.eraseIdx_cons_zero, List.eraseIdx_cons_succ]))
          all_goals (refine W ?_)
          · refine LS_lt [((qs.length : Int), (qs.length : Int))] rfl rfl (by decide) rfl rfl rfl rfl enStep2 rfl rfl fun lit llit slit => ?_
            try (dsimp only [st, setL, AV.cells, List.set_cons_zero, List.set_cons_succ, List.drop_zero, List.drop_succ_cons, List.take_zero, List.take_succ_cons, Nat.zero_add, Nat.add_zero, Nat.reduceAdd, List.cons_append, List.nil_append, List.eraseIdx_cons_zero, List.eraseIdx_cons_succ])
            refine W ?_
            refine LS_ap 1 rfl (fun h' HL => HL.rdI 0 rfl enStep2 (by decide)) enStep2 (by decide) (by simp) (by simp; omega) (by simp; omega) rfl rfl rfl fun u2 lu2 su2 => ?_
            try (dsimp only [st, setL, AV.cells, List.set_cons_zero, List.set_cons_succ, List.drop_zero, List.drop_succ_cons, List.take_zero, List.take_succ_cons, Nat.zero_add, Nat.add_zero, Nat.reduceAdd, List.cons_append, List.nil_append, List.eraseIdx_cons_zero, List.eraseIdx_cons_succ])
            refine W ?_
            refine LIL_drop 1 ?_
            refine IH (k - 1) _ _ (by omega) ⟨(k : Int) - 1, u2, qs ++ [((qs.length : Int), (qs.length : Int))], exJ rfl, rfl, by omega, by simp; omega, snoc_all hqb ⟨⟨by dsimp only; omega, by dsimp only; omega⟩, by dsimp only; omega, by dsimp only; omega⟩, lu2, su2⟩
          · refine LS_lt [(qs.length : Int)] rfl rfl (by decide) rfl rfl rfl rfl enI1 rfl rfl fun lit llit slit => ?_
            try (dsimp only [st, setL, AV.cells, List.set_cons_zero, List.set_cons_succ, List.drop_zero, List.drop_succ_cons, List.take_zero, List.take_succ_cons, Nat.zero_add, Nat.add_zero, Nat.reduceAdd, List.cons_append, List.nil_append, List.eraseIdx_cons_zero, List.eraseIdx_cons_succ])
            refine W ?_
            refine RET fun h' HL => ?_
            try dsimp only [oneA]
            exact ⟨_, ⟨⟨1, qs, [(qs.length : Int)]⟩, u, lit, ct3, sd3, rfl, ⟨lu, su, llit, slit⟩, ⟨by show (-1 : Int) ≤ 1 ∧ (1 : Int) ≤ 100; omega, by show qs.length ≤ 100; omega, by simp, hqb, fun v hv => by rw [List.mem_singleton.1 hv]; omega⟩, by omega, rfl⟩, loq_selT HL 7 [1, 0, 2] (by decide) (by decide)⟩
        · (first | refine LS_gt rfl ?_ ?_ | refine LS_gf rfl ?_ ?_ | refine LI_cond rfl ?_ ?_) <;> intro hc <;> have hc' := hc <;> try simp only [decide_eq_true_eq, decide_eq_false_iff_not, Bool.not_eq_true', Bool.not_eq_false', Bool.not_eq_true, Bool.not_eq_false, beq_iff_eq, bne_iff_ne, beq_eq_false_iff_ne, bne_eq_false_iff_eq, Int.not_lt, Int.not_le, ge_iff_le, gt_iff_lt, not_and, ne_eq, Decidable.not_not] at hc'
          all_goals (try (dsimp only [st, setL, AV.cells, List.set_cons_zero, List.set_cons_succ, List.drop_zero, List.drop_succ_cons, List.take_zero, List.take_succ_cons, Nat.zero_add, Nat.add_zero, Nat.reduceAdd, List.cons_append, List.nil_append, List.eraseIdx_cons_zero, List.eraseIdx_cons_succ]))
          all_goals (refine W ?_)
          · refine LIL_ind (fun k a M => ∃ (z : AV) (os : List Int) (ct' sd' : Int), (∃ r : Nat → AV, a = [.p bc 0, r 1, r 2, r 3, r 4, r 5, .p b6 0, .p b7 0, r 8, r 9, r 10, r 11, r 12, r 13, r 14, r 15, r 16, r 17, r 18, r 19, r 20, r 21, r 22, r 23, r 24, r 25, r 26, r 27, r 28, r 29, r 30, r 31, r 32, r 33, r 34, r 35, r 36, r 37, r 38, r 39, r 40, r 41, r 42, r 43, r 44, r 45, r 46, r 47, r 48, r 49, r 50, r 51, r 52, r 53, r 54, r 55, r 56, r 57, r 58, r 59, r 60, r 61, r 62, r 63, r 64, r 65, r 66, r 67, r 68, r 69, r 70, r 71, r 72, r 73, r 74, r 75, r 76, r 77, r 78, r 79, r 80, r 81, r 82, r 83, r 84, r 85, r 86, r 87, r 88, r 89, r 90, r 91, r 92, r 93, r 94, r 95, r 96, r 97, r 98, r 99, r 100, r 101, r 102, r 103, r 104, r 105, r 106, r 107, r 108, r 109, r 110, r 111, r 112, r 113, r 114, r 115]) ∧ M = .pt bc [cv, .i .i64 ct', .i .u64 sd'] :: .pt b7 [.i .i64 n, ws, z] :: .sl ws 2 (ss.flatMap enStep) :: .sl z 1 (os.flatMap enI) :: .pt b6 [.i .i64 0, .ns, .ns] :: L ∧ os.length + k = 8 ∧ (∀ v ∈ os, -1000 ≤ v ∧ v ≤ 1000) ∧ ct ≤ ct' ∧ ct' + 2 * k ≤ ct + 400 ∧ lenA z = some os.length ∧ z.sc = true)
              (8 - os.length) ⟨wo, os, ct2, sd2, exJ rfl, rfl, by omega, hob', by omega, by omega, lo, so⟩ ?_
            rintro k a M ⟨z, qs, ct3, sd3, ⟨r, rfl⟩, rfl, hql, hqb, hc1, hc2, lz, sz⟩ IH
            refine W ?_
            refine LI_post (fun a M => ∃ (p1 ct' sd' : Int), (∃ r : Nat → AV, a = [.p bc 0, r 1, r 2, r 3, r 4, r 5, .p b6 0, .p b7 0, r 8, r 9, r 10, r 11, r 12, r 13, r 14, r 15, r 16, r 17, r 18, r 19, r 20, r 21, r 22, r 23, r 24, r 25, r 26, r 27, r 28, r 29, r 30, r 31, r 32, r 33, r 34, r 35, r 36, r 37, r 38, r 39, r 40, r 41, r 42, r 43, r 44, r 45, r 46, r 47, r 48, r 49, r 50, r 51, r 52, r 53, r 54, r 55, r 56, r 57, r 58, r 59, r 60, r 61, r 62, r 63, r 64, r 65, r 66, r 67, r 68, r 69, r 70, r 71, r 72, r 73, r 74, r 75, r 76, r 77, r 78, r 79, r 80, r 81, r 82, r 83, r 84, r 85, r 86, .b (decide ((qs.length : Int) < 6 + p1)), r 88, r 89, r 90, r 91, r 92, r 93, r 94, r 95, r 96, r 97, r 98, r 99, r 100, r 101, r 102, r 103, r 104, r 105, r 106, r 107, r 108, r 109, r 110, r 111, r 112, r 113, r 114, r 115]) ∧ M = .pt bc [cv, .i .i64 ct', .i .u64 sd'] :: .pt b7 [.i .i64 n, ws, z] :: .sl ws 2 (ss.flatMap enStep) :: .sl z 1 (qs.flatMap enI) :: .pt b6 [.i .i64 0, .ns, .ns] :: L ∧ (0 ≤ p1 ∧ p1 ≤ 1) ∧ ct3 ≤ ct' ∧ ct' ≤ ct3 + 2) ?_ ?_
            · refine db76_2 [] (by simp) ?_
              refine WX ?_
              repeat' (first | (refine LX_two ?_ ?_ <;> refine WX ?_) | (refine LX_l1e 1 noG rfl rfl rfl ?_; try (dsimp only [st, setL, AV.cells, List.set_cons_zero, List.set_cons_succ, List.drop_zero, List.drop_succ_cons, List.take_zero, List.take_succ_cons, Nat.zero_add, Nat.add_zero, Nat.reduceAdd, List.cons_append, List.nil_append, List.eraseIdx_cons_zero, List.eraseIdx_cons_succ]); refine WX ?_) | (refine LX_f noG (LO_cm (.refl _) (fun h' HL wf => pick_ac 2 _ _ _ _ _ _ h' _ HL  hcv hb (by omega) (by omega)) rfl rfl ?_); rintro _ _ ⟨p1, ct4, sd4, rfl, hp1, hct4, rfl⟩; try (dsimp only [st, setL, AV.cells, List.set_cons_zero, List.set_cons_succ, List.drop_zero, List.drop_succ_cons, List.take_zero, List.take_succ_cons, Nat.zero_add, Nat.add_zero, Nat.reduceAdd, List.cons_append, List.nil_append, List.eraseIdx_cons_zero, List.eraseIdx_cons_succ]); refine WX ?_))
              all_goals exact ⟨rfl, p1, ct4, sd4, exJ rfl, rfl, by omega, by omega, by omega⟩
            · rintro _ _ ⟨p1, ct4, sd4, ⟨r, rfl⟩, rfl, hp1, hc3, hc4⟩
              refine LThen_n ?_
              refine W ?_
              (first | refine LS_gt rfl ?_ ?_ | refine LS_gf rfl ?_ ?_ | refine LI_cond rfl ?_ ?_) <;> intro hc <;> have hc' := hc <;> try simp only [decide_eq_true_eq, decide_eq_false_iff_not, Bool.not_eq_true', Bool.not_eq_false', Bool.not_eq_true, Bool.not_eq_false, beq_iff_eq, bne_iff_ne, beq_eq_false_iff_ne, bne_eq_false_iff_eq, Int.not_lt, Int.not_le, ge_iff_le, gt_iff_lt, not_and, ne_eq, Decidable.not_not] at hc'
              all_goals (try (dsimp only [st, setL, AV.cells, List.set_cons_zero, List.set_cons_succ, List.drop_zero, List.drop_succ_cons, List.take_zero, List.take_succ_cons, Nat.zero_add, Nat.add_zero, Nat.reduceAdd, List.cons_append, List.nil_append, List.eraseIdx_cons_zero, List.eraseIdx_cons_succ]))
              all_goals (refine W ?_)
              · refine LS_lt [(0 : Int)] rfl rfl (by decide) rfl rfl rfl rfl enI1 rfl rfl fun lit llit slit => ?_
                try (dsimp only [st, setL, AV.cells, List.set_cons_zero, List.set_cons_succ, List.drop_zero, List.drop_succ_cons, List.take_zero, List.take_succ_cons, Nat.zero_add, Nat.add_zero, Nat.reduceAdd, List.cons_append, List.nil_append, List.eraseIdx_cons_zero, List.eraseIdx_cons_succ])
                refine W ?_
                refine LS_ap 4 rfl (fun h' HL => HL.rdI 0 rfl enI1 (by decide)) enI1 (by decide) (by simp) (by simp; omega) (by simp; omega) rfl rfl rfl fun z2 lz2 sz2 => ?_
                try (dsimp only [st, setL, AV.cells, List.set_cons_zero, List.set_cons_succ, List.drop_zero, List.drop_succ_cons, List.take_zero, List.take_succ_cons, Nat.zero_add, Nat.add_zero, Nat.reduceAdd, List.cons_append, List.nil_append, List.eraseIdx_cons_zero, List.eraseIdx_cons_succ])
                refine W ?_
                refine LIL_drop 1 ?_
                refine IH (k - 1) _ _ (by omega) ⟨z2, qs ++ [0], ct4, sd4, exJ rfl, rfl, by simp; omega, snoc_all hqb (by omega), by omega, by omega, lz2, sz2⟩
              · refine RET fun h' HL => ?_
                try dsimp only [oneA]
                exact ⟨_, ⟨⟨n, ss, qs⟩, ws, z, ct4, sd4, rfl, ⟨lw, sw, lz, sz⟩, ⟨by show -1 ≤ n ∧ n ≤ 100; omega, by show ss.length ≤ 100; omega, by show qs.length ≤ 100; omega, hsb', hqb⟩, by omega, rfl⟩, loq_selT HL 5 [2, 3, 0] (by decide) (by decide)⟩
          · (first | refine LS_gt rfl ?_ ?_ | refine LS_gf rfl ?_ ?_ | refine LI_cond rfl ?_ ?_) <;> intro hc <;> have hc' := hc <;> try simp only [decide_eq_true_eq, decide_eq_false_iff_not, Bool.not_eq_true', Bool.not_eq_false', Bool.not_eq_true, Bool.not_eq_false, beq_iff_eq, bne_iff_ne, beq_eq_false_iff_ne, bne_eq_false_iff_eq, Int.not_lt, Int.not_le, ge_iff_le, gt_iff_lt, not_and, ne_eq, Decidable.not_not] at hc'
            all_goals (try (dsimp only [st, setL, AV.cells, List.set_cons_zero, List.set_cons_succ, List.drop_zero, List.drop_succ_cons, List.take_zero, List.take_succ_cons, Nat.zero_add, Nat.add_zero, Nat.reduceAdd, List.cons_append, List.nil_append, List.eraseIdx_cons_zero, List.eraseIdx_cons_succ]))
            all_goals (refine W ?_)
            · refine LS_cm (.refl _) (fun h' HL wf => pick_ac 2 _ _ _ _ _ _ h' _ HL  hcv hb (by omega) (by omega)) rfl rfl ?_
              rintro _ _ ⟨k0, ct3, sd3, rfl, hk0, hct3, rfl⟩
              try (dsimp only [st, setL, AV.cells, List.set_cons_zero, List.set_cons_succ, List.drop_zero, List.drop_succ_cons, List.take_zero, List.take_succ_cons, Nat.zero_add, Nat.add_zero, Nat.reduceAdd, List.cons_append, List.nil_append, List.eraseIdx_cons_zero, List.eraseIdx_cons_succ])
              refine W ?_
              rw [hss0]
              refine LIL_nl (k := 2) ?_
              refine LIL_ind (fun k a M => ∃ (i : Int) (u : AV) (ss : List (Int × Int)), (∃ r : Nat → AV, a = [r 0, r 1, r 2, r 3, r 4, r 5, .p b6 0, .p b7 0, r 8, .i .i64 i, r 10, r 11, r 12, r 13, r 14, r 15, r 16, r 17, r 18, r 19, r 20, r 21, r 22, r 23, r 24, r 25, r 26, r 27, r 28, r 29, r 30, r 31, r 32, r 33, r 34, r 35, r 36, r 37, r 38, r 39, r 40, r 41, r 42, r 43, r 44, r 45, r 46, r 47, r 48, r 49, r 50, r 51, r 52, r 53, r 54, r 55, r 56, r 57, r 58, r 59, r 60, r 61, r 62, r 63, r 64, r 65, r 66, r 67, r 68, r 69, r 70, r 71, r 72, r 73, r 74, r 75, r 76, r 77, r 78, r 79, r 80, r 81, r 82, r 83, r 84, r 85, r 86, r 87, r 88, r 89, r 90, r 91, r 92, r 93, r 94, r 95, r 96, r 97, r 98, r 99, r 100, r 101, r 102, r 103, r 104, r 105, r 106, r 107, r 108, r 109, r 110, r 111, r 112, r 113, r 114, r 115]) ∧ M = .sl u 2 (ss.flatMap enStep) :: .pt bc [cv, .i .i64 ct3, .i .u64 sd3] :: .pt b7 [.i .i64 2, u, .ns] :: .sl ws 2 (ss0.flatMap enStep) :: .sl wo 1 (os.flatMap enI) :: .pt b6 [.i .i64 0, .ns, .ns] :: L ∧ i = k ∧ ss.length + k ≤ 50 ∧ (∀ s ∈ ss, (-1 ≤ s.1 ∧ s.1 ≤ 1000) ∧ -1 ≤ s.2 ∧ s.2 ≤ 1000) ∧ lenA u = some ss.length ∧ u.sc = true)
                (40 + k0).toNat ⟨40 + k0, .ns, [], exJ rfl, rfl, by omega, by simp; omega, by simp, rfl, rfl⟩ ?_
              rintro k a M ⟨i, u, qs, ⟨r, rfl⟩, rfl, rfl, hql, hqb, lu, su⟩ IH
              refine W ?_
              (first | refine LS_gt rfl ?_ ?_ | refine LS_gf rfl ?_ ?_ | refine LI_cond rfl ?_ ?_) <;> intro hc <;> have hc' := hc <;> try simp only [decide_eq_true_eq, decide_eq_false_iff_not, Bool.not_eq_true', Bool.not_eq_false', Bool.not_eq_true, Bool.not_eq_false, beq_iff_eq, bne_iff_ne, beq_eq_false_iff_ne, bne_eq_false_iff_eq, Int.not_lt, Int.not_le, ge_iff_le, gt_iff_lt, not_and, ne_eq, Decidable.not_not] at hc'
              all_goals (try (dsimp only [st, setL, AV.cells, List.set_cons_zero, List.set_cons_succ, List.drop_zero, List.drop_succ_cons, List.take_zero, List.take_succ_cons, Nat.zero_add, Nat.add_zero, Nat.reduceAdd, List.cons_append, List.nil_append, List.eraseIdx_cons_zero, List.eraseIdx_cons_succ]))
              all_goals (refine W ?_)
              · refine LS_lt [((0 : Int), 1 + (qs.length : Int))] rfl rfl (by decide) rfl rfl rfl rfl enStep2 rfl rfl fun lit llit slit => ?_
                try (dsimp only [st, setL, AV.cells, List.set_cons_zero, List.set_cons_succ, List.drop_zero, List.drop_succ_cons, List.take_zero, List.take_succ_cons, Nat.zero_add, Nat.add_zero, Nat.reduceAdd, List.cons_append, List.nil_append, List.eraseIdx_cons_zero, List.eraseIdx_cons_succ])
                refine W ?_
                refine LS_ap 1 rfl (fun h' HL => HL.rdI 0 rfl enStep2 (by decide)) enStep2 (by decide) (by simp) (by simp; omega) (by simp; omega) rfl rfl rfl fun u2 lu2 su2 => ?_
                try (dsimp only [st, setL, AV.cells, List.set_cons_zero, List.set_cons_succ, List.drop_zero, List.drop_succ_cons, List.take_zero, List.take_succ_cons, Nat.zero_add, Nat.add_zero, Nat.reduceAdd, List.cons_append, List.nil_append, List.eraseIdx_cons_zero, List.eraseIdx_cons_succ])
                refine W ?_
                refine LIL_drop 1 ?_
                refine IH (k - 1) _ _ (by omega) ⟨(k : Int) - 1, u2, qs ++ [((0 : Int), 1 + (qs.length : Int))], exJ rfl, rfl, by omega, by simp; omega, snoc_all hqb ⟨⟨by dsimp only; omega, by dsimp only; omega⟩, by dsimp only; omega, by dsimp only; omega⟩, lu2, su2⟩
              · refine LS_lt [(5 : Int)] rfl rfl (by decide) rfl rfl rfl rfl enI1 rfl rfl fun lit llit slit => ?_
                try (dsimp only [st, setL, AV.cells, List.set_cons_zero, List.set_cons_succ, List.drop_zero, List.drop_succ_cons, List.take_zero, List.take_succ_cons, Nat.zero_add, Nat.add_zero, Nat.reduceAdd, List.cons_append, List.nil_append, List.eraseIdx_cons_zero, List.eraseIdx_cons_succ])
                refine W ?_
                refine RET fun h' HL => ?_
                try dsimp only [oneA]
                exact ⟨_, ⟨⟨2, qs, [5]⟩, u, lit, ct3, sd3, rfl, ⟨lu, su, llit, slit⟩, ⟨by show (-1 : Int) ≤ 2 ∧ (2 : Int) ≤ 100; omega, by show qs.length ≤ 100; omega, by simp, hqb, fun v hv => by rw [List.mem_singleton.1 hv]; omega⟩, by omega, rfl⟩, loq_selT HL 7 [1, 0, 2] (by decide) (by decide)⟩
            · refine RET fun h' HL => ?_
              try dsimp only [oneA]
              exact ⟨_, ⟨⟨n, ss, os⟩, ws, wo, ct2, sd2, rfl, ⟨lw, sw, lo, so⟩, ⟨by show -1 ≤ n ∧ n ≤ 100; omega, by show ss.length ≤ 100; omega, by show os.length ≤ 100; omega, hsb', hob'⟩, by omega, rfl⟩, loq_selT HL 5 [2, 3, 0] (by decide) (by decide)⟩

/-! ### Exponents of a composed plan: plain laws -/
def colE (p : PlanM) (i v : Nat) : Int := ((expsE p).getD v []).getD i 0

theorem col_low {p : PlanM} {i v : Nat} (hi : i < p.n.toNat) (hv : v < p.n.toNat) : colE p i v = if v = i then 1 else 0 := by
  simp only [colE, List.getD, exps_low hv, Option.getD_some, unitRow, List.getElem?_set, List.length_replicate]
  by_cases e : v = i
  · subst e; simp [hv]
  · rw [if_neg e, if_neg e, List.getElem?_replicate, if_pos hi]; rfl

theorem col_step {p : PlanM} (hk : planOk p = true) {i k : Nat} {s : Int × Int} (hi : i < p.n.toNat) (hs : p.steps[k]? = some s) : colE p i (p.n.toNat + k) = colE p i s.1.toNat + colE p i s.2.toNat := by
  obtain ⟨h1, h2, h3, h4, hf, h6⟩ := planOk_out hk
  have hlt := (List.getElem?_eq_some_iff.1 hs).1
  have hb := formedS_get hf hs
  have hbd := exps_bd hk (v := p.n.toNat + k) (by omega) hi
  have he : (expsE p).getD (p.n.toNat + k) [] = sumR ((expsE p).getD s.1.toNat []) ((expsE p).getD s.2.toNat []) := by rw [List.getD, exps_step h1 hf hs]; rfl
  unfold colE
  rw [he] at hbd ⊢
  have r1 := exps_row hf h1 (v := s.1.toNat) (by omega)
  have r2 := exps_row hf h1 (v := s.2.toNat) (by omega)
  rw [sumR_get (by rw [r1, r2]) (by rw [r1]; exact hi) hbd.2]

def dot : List Int → List Int → Int
  | e :: es, c :: cs => e * c + dot es cs
  | _, _ => 0

theorem dot_rep0 : ∀ (n : Nat) (cs : List Int), dot (List.replicate n 0) cs = 0
  | 0, cs => by cases cs <;> rfl
  | n + 1, [] => rfl
  | n + 1, c :: cs => by rw [List.replicate_succ, dot, dot_rep0 n cs]; simp

theorem dot_unit : ∀ (n k : Nat) (cs : List Int), k < n → cs.length = n → dot (unitRow n k) cs = cs.getD k 0
  | 0, k, cs, h, _ => by omega
  | n + 1, 0, c :: cs, _, hl => by rw [unitRow, List.replicate_succ, List.set_cons_zero, dot, dot_rep0]; simp
  | n + 1, k + 1, c :: cs, h, hl => by
    have ih := dot_unit n k cs (by omega) (by simpa using hl)
    rw [unitRow] at ih ⊢
    rw [List.replicate_succ, List.set_cons_succ, dot, ih]
    simp
  | n + 1, k, [], _, hl => by simp at hl

theorem dot_add : ∀ (z x y cs : List Int), z.length = x.length → z.length = y.length → (∀ k : Nat, k < z.length → z.getD k 0 = x.getD k 0 + y.getD k 0) → dot z cs = dot x cs + dot y cs
  | [], [], [], cs, _, _, _ => by simp [dot]
  | z :: zs, x :: xs, y :: ys, [], _, _, _ => by simp [dot]
  | z :: zs, x :: xs, y :: ys, c :: cs, h1, h2, h => by
    have h0 := h 0 (by simp)
    simp at h0
    rw [dot, dot, dot, dot_add zs xs ys cs (by simpa using h1) (by simpa using h2) (fun k hk => by simpa using h (k + 1) (by simpa using hk)), h0, Int.add_mul]
    omega
  | [], _ :: _, _, _, h, _, _ => by simp at h
  | [], [], _ :: _, _, _, h, _ => by simp at h
  | _ :: _, [], _, _, h, _, _ => by simp at h
  | _ :: _, _ :: _, [], _, _, h, _ => by simp at h

structure ThenF (n : Int) (ss : List (Int × Int)) (fr : List Int) (pre : List (Int × Int)) (s : List (Int × Int) × List Int) : Prop where
  l1 : s.1.length = ss.length + pre.length
  l2 : s.2.length = fr.length + pre.length
  p1 : ∀ j : Nat, j < ss.length → s.1[j]? = ss[j]?
  p2 : ∀ j : Nat, j < fr.length → s.2[j]? = fr[j]?
  st : ∀ (t : Nat) (x : Int × Int), pre[t]? = some x → ∃ a b, s.2[x.1.toNat]? = some a ∧ s.2[x.2.toNat]? = some b ∧ s.1[ss.length + t]? = some (stepM a b) ∧ s.2[fr.length + t]? = some (n + ((ss.length + t : Nat) : Int))

theorem thenF_step {n : Int} {ss : List (Int × Int)} {fr : List Int} {pre : List (Int × Int)} {s : List (Int × Int) × List Int} {t : Int × Int} (H : ThenF n ss fr pre s) (ht : 0 ≤ t.1 ∧ t.1 ≤ t.2 ∧ t.2 < (fr.length : Int) + pre.length) : ThenF n ss fr (pre ++ [t]) (thenS n s t) := by
  obtain ⟨h1, h2, h3, h4, h5⟩ := H
  have l1 : t.1.toNat < s.2.length := by omega
  have l2 : t.2.toNat < s.2.length := by omega
  have g1 := List.getElem?_eq_getElem l1
  have g2 := List.getElem?_eq_getElem l2
  rw [show thenS n s t = _ from thenS_eq (ss := s.1) (vals := s.2) g1 g2]
  refine ⟨by simp; omega, by simp; omega, fun j hj => ?_, fun j hj => ?_, fun k x hk => ?_⟩
  · rw [List.getElem?_append_left (by omega)]; exact h3 j hj
  · rw [List.getElem?_append_left (by omega)]; exact h4 j hj
  · by_cases hkp : k < pre.length
    · rw [List.getElem?_append_left hkp] at hk
      obtain ⟨a, b, e1, e2, e3, e4⟩ := h5 k x hk
      refine ⟨a, b, ?_, ?_, ?_, ?_⟩
      · rw [List.getElem?_append_left (List.getElem?_eq_some_iff.1 e1).1]; exact e1
      · rw [List.getElem?_append_left (List.getElem?_eq_some_iff.1 e2).1]; exact e2
      · rw [List.getElem?_append_left (by omega)]; exact e3
      · rw [List.getElem?_append_left (by omega)]; exact e4
    · have hke : k = pre.length := by
        have := (List.getElem?_eq_some_iff.1 hk).1
        simp at this; omega
      subst hke
      simp at hk
      subst hk
      refine ⟨s.2[t.1.toNat], s.2[t.2.toNat], ?_, ?_, ?_, ?_⟩
      · rw [List.getElem?_append_left l1]; exact g1
      · rw [List.getElem?_append_left l2]; exact g2
      · rw [← h1]; simp
      · rw [← h2, ← h1]; simp

theorem thenF_run {n : Int} {ss : List (Int × Int)} {fr : List Int} : ∀ (l pre : List (Int × Int)) (s : List (Int × Int) × List Int), ThenF n ss fr pre s → formedS fr.length pre.length l = true → ThenF n ss fr (pre ++ l) (l.foldl (thenS n) s)
  | [], pre, s, H, _ => by rw [List.append_nil]; exact H
  | t :: l, pre, s, H, hf => by
    simp only [formedS, Bool.and_eq_true, decide_eq_true_eq] at hf
    rw [show pre ++ t :: l = (pre ++ [t]) ++ l by simp, List.foldl_cons]
    exact thenF_run l (pre ++ [t]) _ (thenF_step H hf.1) (by rw [List.length_append, List.length_singleton]; exact hf.2)

theorem stepM_cases (x y : Int) : (stepM x y = (x, y)) ∨ (stepM x y = (y, x)) := by
  unfold stepM
  by_cases h1 : y < x
  · right
    rw [if_pos h1, if_neg (by omega)]
  · left
    rw [if_neg h1]
    by_cases h2 : y > x
    · rw [if_pos h2]
    · rw [if_neg h2]; congr 1; omega

theorem comp_exps {p q : PlanM} (h : compOk p q = true) {i : Nat} (hi : i < p.n.toNat) : ∀ j : Nat, j < q.n.toNat + q.steps.length →
    ∃ w, (thenM p.n p.steps p.outs q.steps).2[j]? = some w ∧ 0 ≤ w ∧ w < p.n + ((compQ p q).steps.length : Int) ∧ colE (compQ p q) i w.toNat = dot ((expsE q).getD j []) (p.outs.map fun v => colE p i v.toNat) := by
  simp only [compOk, Bool.and_eq_true, decide_eq_true_eq] at h
  obtain ⟨hk, hk2, hl, hkc⟩ := h
  obtain ⟨h1, h2, h3, h4, hf, h6⟩ := planOk_out hk
  obtain ⟨k1, k2, k3, k4, kf, k6⟩ := planOk_out hk2
  have hF : ThenF p.n p.steps p.outs q.steps (thenM p.n p.steps p.outs q.steps) := by
    have := thenF_run (n := p.n) (ss := p.steps) (fr := p.outs) q.steps [] (p.steps, p.outs) ⟨by simp, by simp, fun j hj => rfl, fun j hj => rfl, fun t x hx => by simp at hx⟩ (by rw [hl]; exact kf)
    rwa [List.nil_append] at this
  have hcs : (compQ p q).steps = (thenM p.n p.steps p.outs q.steps).1 := rfl
  have hcn : (compQ p q).n = p.n := rfl
  have hold : ∀ v : Nat, v < p.n.toNat + p.steps.length → colE (compQ p q) i v = colE p i v := by
    intro v
    induction v using Nat.strongRecOn with
    | _ v ih =>
      intro hv
      by_cases hvn : v < p.n.toNat
      · rw [col_low (p := compQ p q) hi hvn, col_low hi hvn]
      · obtain ⟨k, rfl⟩ : ∃ k, v = p.n.toNat + k := ⟨v - p.n.toNat, by omega⟩
        obtain ⟨s, hs⟩ : ∃ s, p.steps[k]? = some s := ⟨_, List.getElem?_eq_getElem (by omega)⟩
        have hb := formedS_get hf hs
        have hs2 : (compQ p q).steps[k]? = some s := by rw [hcs, hF.p1 k (by omega)]; exact hs
        rw [show colE (compQ p q) i (p.n.toNat + k) = _ from col_step (p := compQ p q) hkc hi hs2, col_step hk hi hs, ih _ (by omega) (by omega), ih _ (by omega) (by omega)]
  intro j
  induction j using Nat.strongRecOn with
  | _ j ih =>
    intro hj
    by_cases hjn : j < q.n.toNat
    · obtain ⟨v, hv⟩ : ∃ v, p.outs[j]? = some v := ⟨_, List.getElem?_eq_getElem (by omega)⟩
      have hvb := of_decide_eq_true (List.all_eq_true.1 h6 v (List.mem_of_getElem? hv))
      refine ⟨v, by rw [hF.p2 j (by omega)]; exact hv, by omega, by rw [hcs, hF.l1]; omega, ?_⟩
      rw [hold _ (by omega), show (expsE q).getD j [] = unitRow q.n.toNat j by rw [List.getD, exps_low hjn]; rfl, dot_unit _ _ _ hjn (by simp; omega)]
      simp [List.getD, hv]
    · obtain ⟨t, rfl⟩ : ∃ t, j = q.n.toNat + t := ⟨j - q.n.toNat, by omega⟩
      obtain ⟨s, hs⟩ : ∃ s, q.steps[t]? = some s := ⟨_, List.getElem?_eq_getElem (by omega)⟩
      have hb := formedS_get kf hs
      obtain ⟨a, b, e1, e2, e3, e4⟩ := hF.st t s hs
      obtain ⟨a', f1, f2, f3, f4⟩ := ih s.1.toNat (by omega) (by omega)
      obtain ⟨b', g1, g2, g3, g4⟩ := ih s.2.toNat (by omega) (by omega)
      rw [f1] at e1; cases e1
      rw [g1] at e2; cases e2
      have hcl : (compQ p q).steps.length = p.steps.length + q.steps.length := by rw [hcs, hF.l1]
      refine ⟨p.n + ((p.steps.length + t : Nat) : Int), by rw [show q.n.toNat = p.outs.length by omega]; exact e4, by omega, by rw [hcl]; omega, ?_⟩
      have hst := col_step (p := compQ p q) hkc hi (k := p.steps.length + t) e3
      rw [hcn] at hst
      rw [show (p.n + ((p.steps.length + t : Nat) : Int)).toNat = p.n.toNat + (p.steps.length + t) by omega, hst]
      have hsum : colE (compQ p q) i (stepM a b).1.toNat + colE (compQ p q) i (stepM a b).2.toNat = colE (compQ p q) i a.toNat + colE (compQ p q) i b.toNat := by
        rcases stepM_cases a b with e | e <;> rw [e]
        exact Int.add_comm _ _
      rw [hsum, f4, g4]
      have hE : (expsE q).getD (q.n.toNat + t) [] = sumR ((expsE q).getD s.1.toNat []) ((expsE q).getD s.2.toNat []) := by rw [List.getD, exps_step k1 kf hs]; rfl
      have r0 := exps_row kf k1 (v := q.n.toNat + t) hj
      have r1 := exps_row kf k1 (v := s.1.toNat) (by omega)
      have r2 := exps_row kf k1 (v := s.2.toNat) (by omega)
      symm
      refine dot_add _ _ _ _ (by rw [r0, r1]) (by rw [r0, r2]) fun k hk => ?_
      have hbd := exps_bd hk2 hj (i := k) (by omega)
      rw [hE] at hbd ⊢
      exact sumR_get (by rw [r1, r2]) (by omega) hbd.2

/-! ### Composed plans: what is drawn, what is read -/
theorem DrawComposePlans_ac (c1 : List Int) (v1 : AV) (h : AH) (hcv : RdG 1 enU h v1 c1) (hb : ∀ x ∈ c1, 0 ≤ x ∧ x ≤ 255) :
    AC Try.prog 29 [v1] h (fun r h' => ∃ M, (∃ (p q : PlanM) (ws wo w qs qo : AV) (os : List Int), r = .tup [.agg [.i .i64 p.n, ws, w], .agg [.i .i64 q.n, qs, qo]] ∧ (∀ h2, Rd h2 wo os → Rd h2 w p.outs) ∧ lenA w = some p.outs.length ∧ w.sc = true ∧ (lenA ws = some p.steps.length ∧ ws.sc = true ∧ lenA qs = some q.steps.length ∧ qs.sc = true ∧ lenA qo = some q.outs.length ∧ qo.sc = true) ∧ PlB p ∧ PlB q ∧ M = [.sl ws 2 (p.steps.flatMap enStep), .sl wo 1 (os.flatMap enI), .sl qs 2 (q.steps.flatMap enStep), .sl qo 1 (q.outs.flatMap enI)]) ∧ Loq h h' M) := by
  refine e29 _ fun wf => ?_
  unfold c29
  refine LI_start wf ?_
  refine W ?_
  refine LS_al rfl fun b2 => ?_
  try (dsimp only [st, setL, AV.cells, List.set_cons_zero, List.set_cons_succ, List.drop_zero, List.drop_succ_cons, List.take_zero, List.take_succ_cons, Nat.zero_add, Nat.add_zero, Nat.reduceAdd, List.cons_append, List.nil_append, List.eraseIdx_cons_zero, List.eraseIdx_cons_succ])
  refine W ?_
  refine LS_al rfl fun b3 => ?_
  try (dsimp only [st, setL, AV.cells, List.set_cons_zero, List.set_cons_succ, List.drop_zero, List.drop_succ_cons, List.take_zero, List.take_succ_cons, Nat.zero_add, Nat.add_zero, Nat.reduceAdd, List.cons_append, List.nil_append, List.eraseIdx_cons_zero, List.eraseIdx_cons_succ])
  refine W ?_
  refine LS_bxn rfl (sc_cons (rd_sc hcv) rfl) fun bc => ?_
  try (dsimp only [st, setL, AV.cells, List.set_cons_zero, List.set_cons_succ, List.drop_zero, List.drop_succ_cons, List.take_zero, List.take_succ_cons, Nat.zero_add, Nat.add_zero, Nat.reduceAdd, List.cons_append, List.nil_append, List.eraseIdx_cons_zero, List.eraseIdx_cons_succ])
  refine W ?_
  refine LS_cm (.refl _) (fun h' HL wf => anyPlan_ac 3 7 (by omega) (by omega) _ _ _ _ _ _ h' _ HL hcv hb (by omega) (by omega)) rfl rfl ?_
  rintro _ _ ⟨⟨pn, ps, os0⟩, ws, wo0, ct1, sd1, rfl, ⟨lw, sw, lo, so⟩, hB, hct1, rfl⟩
  dsimp only at lw lo hB
  try (dsimp only [st, setL, AV.cells, List.set_cons_zero, List.set_cons_succ, List.drop_zero, List.drop_succ_cons, List.take_zero, List.take_succ_cons, Nat.zero_add, Nat.add_zero, Nat.reduceAdd, List.cons_append, List.nil_append, List.eraseIdx_cons_zero, List.eraseIdx_cons_succ])
  refine W ?_
  refine LS_al rfl fun b5 => ?_
  try (dsimp only [st, setL, AV.cells, List.set_cons_zero, List.set_cons_succ, List.drop_zero, List.drop_succ_cons, List.take_zero, List.take_succ_cons, Nat.zero_add, Nat.add_zero, Nat.reduceAdd, List.cons_append, List.nil_append, List.eraseIdx_cons_zero, List.eraseIdx_cons_succ])
  refine W ?_
  refine LS_rot 3 rfl ?_
  refine LS_cm (.refl _) (fun h' HL wf => anyPlan_ac 3 7 (by omega) (by omega) _ _ _ _ _ _ h' _ HL hcv hb (by omega) (by omega)) rfl rfl ?_
  rintro _ _ ⟨q, qs, qo, ct2, sd2, rfl, ⟨lq, sq, lqo, sqo⟩, hBq, hct2, rfl⟩
  try (dsimp only [st, setL, AV.cells, List.set_cons_zero, List.set_cons_succ, List.drop_zero, List.drop_succ_cons, List.take_zero, List.take_succ_cons, Nat.zero_add, Nat.add_zero, Nat.reduceAdd, List.cons_append, List.nil_append, List.eraseIdx_cons_zero, List.eraseIdx_cons_succ])
  refine W ?_
  refine LS_al rfl fun b6 => ?_
  try (dsimp only [st, setL, AV.cells, List.set_cons_zero, List.set_cons_succ, List.drop_zero, List.drop_succ_cons, List.take_zero, List.take_succ_cons, Nat.zero_add, Nat.add_zero, Nat.reduceAdd, List.cons_append, List.nil_append, List.eraseIdx_cons_zero, List.eraseIdx_cons_succ])
  refine W ?_
  refine LS_rot 3 rfl ?_
  refine LS_cm (.refl _) (fun h' HL wf => one_ac 4 _ _ _ _ _ _ h' _ HL  hcv hb (by omega) (by omega)) rfl rfl ?_
  rintro _ _ ⟨x, ct3, sd3, rfl, hx, hct3, rfl⟩
  try (dsimp only [st, setL, AV.cells, List.set_cons_zero, List.set_cons_succ, List.drop_zero, List.drop_succ_cons, List.take_zero, List.take_succ_cons, Nat.zero_add, Nat.add_zero, Nat.reduceAdd, List.cons_append, List.nil_append, List.eraseIdx_cons_zero, List.eraseIdx_cons_succ])
  refine W ?_
  have hpn := hB.n
  have hqn := hBq.n
  have hpl := hB.lo
  have hpo := hB.ot
  dsimp only at hpn hpl hpo
  cases x
  · first | (refine LS_gtnH rfl (rfl) ?_; intro hg; try (dsimp only [st, setL, AV.cells, List.set_cons_zero, List.set_cons_succ, List.drop_zero, List.drop_succ_cons, List.take_zero, List.take_succ_cons, Nat.zero_add, Nat.add_zero, Nat.reduceAdd, List.cons_append, List.nil_append, List.eraseIdx_cons_zero, List.eraseIdx_cons_succ])) | (refine LS_gfnH rfl (rfl) ?_; intro hg; try (dsimp only [st, setL, AV.cells, List.set_cons_zero, List.set_cons_succ, List.drop_zero, List.drop_succ_cons, List.take_zero, List.take_succ_cons, Nat.zero_add, Nat.add_zero, Nat.reduceAdd, List.cons_append, List.nil_append, List.eraseIdx_cons_zero, List.eraseIdx_cons_succ])) | (refine LI_cond_fH rfl (rfl) ?_; intro hg)
    refine W ?_
    refine LIL_rot 8 rfl (LIL_rot 8 rfl (LIL_rot 6 rfl (LIL_rot 4 rfl (LIL_rot 4 rfl ?_))))
    try (dsimp only [st, setL, AV.cells, List.set_cons_zero, List.set_cons_succ, List.drop_zero, List.drop_succ_cons, List.take_zero, List.take_succ_cons, Nat.zero_add, Nat.add_zero, Nat.reduceAdd, List.cons_append, List.nil_append, List.eraseIdx_cons_zero, List.eraseIdx_cons_succ])
    refine LIL_ind (fun k a M => ∃ (z : AV) (os : List Int) (ct' sd' : Int), (∃ r : Nat → AV, a = [r 0, r 1, .p b2 0, .p b3 0, .p bc 0, .p b5 0, .p b6 0, r 7, r 8, r 9, r 10, r 11, r 12, r 13, r 14, r 15, r 16, r 17, r 18, r 19, r 20, r 21, r 22, r 23, r 24, r 25, r 26, r 27, r 28, r 29, r 30, r 31, r 32, r 33, r 34, r 35, r 36, r 37, r 38, r 39, r 40, r 41, r 42, r 43, r 44, r 45, r 46, r 47, r 48, r 49, r 50, r 51, r 52, r 53, r 54]) ∧ M = [.pt bc [v1, .i .i64 ct', .i .u64 sd'], .pt b6 [.i .i64 q.n, qs, qo], .pt b5 [.i .i64 pn, ws, z], .pt b3 [.i .i64 0, .ns, .ns], .pt b2 [.i .i64 0, .ns, .ns], .sl qs 2 (q.steps.flatMap enStep), .sl qo 1 (q.outs.flatMap enI), .sl ws 2 (ps.flatMap enStep), .sl z 1 (os.flatMap enI)] ∧ os.length ≤ 100 ∧ 7 ≤ os.length + k ∧ (∀ v ∈ os, -1000 ≤ v ∧ v ≤ 1000) ∧ 0 ≤ ct' ∧ ct' + 2 * k ≤ 2000 ∧ lenA z = some os.length ∧ z.sc = true)
      7 ⟨wo0, os0, ct3, sd3, exJ rfl, rfl, hpl, by omega, hpo, by omega, by omega, lo, so⟩ ?_
    rintro k a M ⟨z, os, ct4, sd4, ⟨r, rfl⟩, rfl, hol, hok, hob, hc1, hc2, lz, sz⟩ IH
    refine W ?_
    refine LS_mid 5 (fun a L => (∃ r : Nat → AV, a = [r 0, r 1, .p b2 0, .p b3 0, .p bc 0, .p b5 0, .p b6 0, r 7, r 8, r 9, r 10, r 11, r 12, r 13, r 14, r 15, r 16, r 17, r 18, r 19, r 20, r 21, r 22, r 23, r 24, r 25, r 26, r 27, .b (decide ((os.length : Int) < q.n) && decide (q.n ≤ 6)), r 29, r 30, r 31, r 32, r 33, r 34, r 35, r 36, r 37, r 38, r 39, r 40, r 41, r 42, r 43, r 44, r 45, r 46, r 47, r 48, r 49, r 50, r 51, r 52, r 53, r 54]) ∧ L = [.pt bc [v1, .i .i64 ct4, .i .u64 sd4], .pt b6 [.i .i64 q.n, qs, qo], .pt b5 [.i .i64 pn, ws, z], .pt b3 [.i .i64 0, .ns, .ns], .pt b2 [.i .i64 0, .ns, .ns], .sl qs 2 (q.steps.flatMap enStep), .sl qo 1 (q.outs.flatMap enI), .sl ws 2 (ps.flatMap enStep), .sl z 1 (os.flatMap enI)]) ?_ ?_
    · (first | refine LS_gt rfl ?_ ?_ | refine LS_gf rfl ?_ ?_ | refine LI_cond rfl ?_ ?_) <;> intro hc <;> have hc' := hc <;> try simp only [decide_eq_true_eq, decide_eq_false_iff_not, Bool.not_eq_true', Bool.not_eq_false', Bool.not_eq_true, Bool.not_eq_false, beq_iff_eq, bne_iff_ne, beq_eq_false_iff_ne, bne_eq_false_iff_eq, Int.not_lt, Int.not_le, ge_iff_le, gt_iff_lt, not_and, ne_eq, Decidable.not_not] at hc'
      all_goals (try (dsimp only [st, setL, AV.cells, List.set_cons_zero, List.set_cons_succ, List.drop_zero, List.drop_succ_cons, List.take_zero, List.take_succ_cons, Nat.zero_add, Nat.add_zero, Nat.reduceAdd, List.cons_append, List.nil_append, List.eraseIdx_cons_zero, List.eraseIdx_cons_succ]))
      all_goals (refine W ?_)
      · exact ⟨rfl, exJ (by rw [hc]; rfl), rfl⟩
      · exact ⟨rfl, exJ (by rw [hc]; rfl), rfl⟩
    · rintro _ _ ⟨⟨r, rfl⟩, rfl⟩
      try (dsimp only [st, setL, AV.cells, List.set_cons_zero, List.set_cons_succ, List.drop_zero, List.drop_succ_cons, List.take_zero, List.take_succ_cons, Nat.zero_add, Nat.add_zero, Nat.reduceAdd, List.cons_append, List.nil_append, List.eraseIdx_cons_zero, List.eraseIdx_cons_succ])
      refine W ?_
      obtain ⟨mx, hmx⟩ : ∃ m : Int, (if 1 < pn then pn else 1) = m := ⟨_, rfl⟩
      have hmb : 1 ≤ mx ∧ mx ≤ 100 := by rw [← hmx]; split <;> omega
      have hcm := fun (h' : AH) => l1Most_ac pn 1 h'
      rw [hmx] at hcm
      (first | refine LS_gt rfl ?_ ?_ | refine LS_gf rfl ?_ ?_ | refine LI_cond rfl ?_ ?_) <;> intro hc <;> have hc' := hc <;> try simp only [decide_eq_true_eq, decide_eq_false_iff_not, Bool.not_eq_true', Bool.not_eq_false', Bool.not_eq_true, Bool.not_eq_false, beq_iff_eq, bne_iff_ne, beq_eq_false_iff_ne, bne_eq_false_iff_eq, Int.not_lt, Int.not_le, ge_iff_le, gt_iff_lt, not_and, ne_eq, Decidable.not_not] at hc'
      all_goals (try (dsimp only [st, setL, AV.cells, List.set_cons_zero, List.set_cons_succ, List.drop_zero, List.drop_succ_cons, List.take_zero, List.take_succ_cons, Nat.zero_add, Nat.add_zero, Nat.reduceAdd, List.cons_append, List.nil_append, List.eraseIdx_cons_zero, List.eraseIdx_cons_succ]))
      all_goals (refine W ?_)
      · have hq6 : (os.length : Int) < q.n ∧ q.n ≤ 6 := by simpa using hc
        refine db29_1 [] (by simp) ?_
        refine WX ?_
        repeat' (first | (refine LX_two ?_ ?_ <;> refine WX ?_) | (refine LX_l1e 2 noG rfl rfl rfl ?_; try (dsimp only [st, setL, AV.cells, List.set_cons_zero, List.set_cons_succ, List.drop_zero, List.drop_succ_cons, List.take_zero, List.take_succ_cons, Nat.zero_add, Nat.add_zero, Nat.reduceAdd, List.cons_append, List.nil_append, List.eraseIdx_cons_zero, List.eraseIdx_cons_succ]); refine WX ?_) | (refine LX_l1e 3 noG rfl rfl rfl ?_; try (dsimp only [st, setL, AV.cells, List.set_cons_zero, List.set_cons_succ, List.drop_zero, List.drop_succ_cons, List.take_zero, List.take_succ_cons, Nat.zero_add, Nat.add_zero, Nat.reduceAdd, List.cons_append, List.nil_append, List.eraseIdx_cons_zero, List.eraseIdx_cons_succ]); refine WX ?_) | (refine LX_f noG (LO_c0 (fun h' HL wf => hcm h') rfl rfl ?_); try (dsimp only [st, setL, AV.cells, List.set_cons_zero, List.set_cons_succ, List.drop_zero, List.drop_succ_cons, List.take_zero, List.take_succ_cons, Nat.zero_add, Nat.add_zero, Nat.reduceAdd, List.cons_append, List.nil_append, List.eraseIdx_cons_zero, List.eraseIdx_cons_succ]); refine WX ?_) | (refine LX_f noG (LO_cm (.refl _) (fun h' HL wf => pick_ac mx _ _ _ _ _ _ h' _ HL  hcv hb (by omega) (by omega)) rfl rfl ?_); rintro _ _ ⟨w, ct5, sd5, rfl, hw, hct5, rfl⟩; try (dsimp only [st, setL, AV.cells, List.set_cons_zero, List.set_cons_succ, List.drop_zero, List.drop_succ_cons, List.take_zero, List.take_succ_cons, Nat.zero_add, Nat.add_zero, Nat.reduceAdd, List.cons_append, List.nil_append, List.eraseIdx_cons_zero, List.eraseIdx_cons_succ]); refine WX ?_) | (refine LX_f noG (LO_lt [w] rfl rfl (by decide) rfl rfl rfl rfl enI1 rfl rfl fun lit llit slit => ?_); try (dsimp only [st, setL, AV.cells, List.set_cons_zero, List.set_cons_succ, List.drop_zero, List.drop_succ_cons, List.take_zero, List.take_succ_cons, Nat.zero_add, Nat.add_zero, Nat.reduceAdd, List.cons_append, List.nil_append, List.eraseIdx_cons_zero, List.eraseIdx_cons_succ]); refine WX ?_) | (refine LX_f noG (LO_ap 9 rfl (fun h' HL => HL.rdI 0 rfl enI1 (by decide)) enI1 (by decide) (by simp) (by simp; omega) (by simp; omega) rfl rfl rfl fun z2 lz2 sz2 => ?_); try (dsimp only [st, setL, AV.cells, List.set_cons_zero, List.set_cons_succ, List.drop_zero, List.drop_succ_cons, List.take_zero, List.take_succ_cons, Nat.zero_add, Nat.add_zero, Nat.reduceAdd, List.cons_append, List.nil_append, List.eraseIdx_cons_zero, List.eraseIdx_cons_succ]); refine WX ?_))
        all_goals
          refine W ?_
          refine LIL_drop 1 ?_
          refine IH (k - 1) _ _ (by omega) ⟨z2, os ++ [w], ct5, sd5, exJ rfl, rfl, by simp; omega, by simp; omega, snoc_all hob (by omega), by omega, by omega, lz2, sz2⟩
      · clear IH
        obtain ⟨lq2, hlq2⟩ : ∃ m : Int, (if q.n < (os.length : Int) then q.n else (os.length : Int)) = m := ⟨_, rfl⟩
        have hcl := fun (h' : AH) => l1Least_ac q.n os.length h'
        rw [hlq2] at hcl
        obtain ⟨u2, hu2⟩ : ∃ m : Int, (if lq2 < 0 then (0 : Int) else lq2) = m := ⟨_, rfl⟩
        have hcu := fun (h' : AH) => l1Most_ac 0 lq2 h'
        rw [hu2] at hcu
        have hub : 0 ≤ u2 ∧ u2 ≤ os.length := by
          rw [← hu2, ← hlq2]
          repeat' split <;> omega
        refine dk29_2 [(b5, [.i .i64 pn, ws, z]), (b6, [.i .i64 q.n, qs, qo])] (by simp) ?_
        refine WX ?_
        repeat' (first | (refine LX_two ?_ ?_ <;> refine WX ?_) | (refine LX_k 0 noG rfl rfl rfl rfl ?_; try (dsimp only [st, setL, AV.cells, List.set_cons_zero, List.set_cons_succ, List.drop_zero, List.drop_succ_cons, List.take_zero, List.take_succ_cons, Nat.zero_add, Nat.add_zero, Nat.reduceAdd, List.cons_append, List.nil_append, List.eraseIdx_cons_zero, List.eraseIdx_cons_succ]); refine WX ?_) | (refine LX_k 1 noG rfl rfl rfl rfl ?_; try (dsimp only [st, setL, AV.cells, List.set_cons_zero, List.set_cons_succ, List.drop_zero, List.drop_succ_cons, List.take_zero, List.take_succ_cons, Nat.zero_add, Nat.add_zero, Nat.reduceAdd, List.cons_append, List.nil_append, List.eraseIdx_cons_zero, List.eraseIdx_cons_succ]); refine WX ?_) | (refine LX_l1e 2 noG rfl rfl rfl ?_; try (dsimp only [st, setL, AV.cells, List.set_cons_zero, List.set_cons_succ, List.drop_zero, List.drop_succ_cons, List.take_zero, List.take_succ_cons, Nat.zero_add, Nat.add_zero, Nat.reduceAdd, List.cons_append, List.nil_append, List.eraseIdx_cons_zero, List.eraseIdx_cons_succ]); refine WX ?_) | (refine LX_lwe 1 noG rfl rfl rfl ?_; try (dsimp only [st, setL, AV.cells, List.set_cons_zero, List.set_cons_succ, List.drop_zero, List.drop_succ_cons, List.take_zero, List.take_succ_cons, Nat.zero_add, Nat.add_zero, Nat.reduceAdd, List.cons_append, List.nil_append, List.eraseIdx_cons_zero, List.eraseIdx_cons_succ]); refine WX ?_) | (refine LX_c0 (fun h' HL wf => hcl h'.frz) rfl rfl noG ?_; try (dsimp only [st, setL, AV.cells, List.set_cons_zero, List.set_cons_succ, List.drop_zero, List.drop_succ_cons, List.take_zero, List.take_succ_cons, Nat.zero_add, Nat.add_zero, Nat.reduceAdd, List.cons_append, List.nil_append, List.eraseIdx_cons_zero, List.eraseIdx_cons_succ]); refine WX ?_) | (refine LX_c0 (fun h' HL wf => hcu h'.frz) rfl rfl noG ?_; try (dsimp only [st, setL, AV.cells, List.set_cons_zero, List.set_cons_succ, List.drop_zero, List.drop_succ_cons, List.take_zero, List.take_succ_cons, Nat.zero_add, Nat.add_zero, Nat.reduceAdd, List.cons_append, List.nil_append, List.eraseIdx_cons_zero, List.eraseIdx_cons_succ]); refine WX ?_) | (refine LX_sz (ll := os) (fun h' HL => HL.rdI 8 rfl enI1 (by decide)) enI1 (.inl ⟨rfl, rfl⟩) (.inr ⟨_, .i64, u2, rfl, rfl, hub.1, rfl⟩) (by omega) (by omega) rfl noG fun wz lwz swz hRz => ?_; try (dsimp only [st, setL, AV.cells, List.set_cons_zero, List.set_cons_succ, List.drop_zero, List.drop_succ_cons, List.take_zero, List.take_succ_cons, Nat.zero_add, Nat.add_zero, Nat.reduceAdd, List.cons_append, List.nil_append, List.eraseIdx_cons_zero, List.eraseIdx_cons_succ]); refine WX ?_) | (refine LX_fK noG (LO_sn 4 rfl rfl rfl (by exact sc_cons rfl (sc_cons sw (sc_cons swz rfl))) rfl rfl ⟨by simp, ?_⟩); try (dsimp only [st, setL, AV.cells, List.set_cons_zero, List.set_cons_succ, List.drop_zero, List.drop_succ_cons, List.take_zero, List.take_succ_cons, Nat.zero_add, Nat.add_zero, Nat.reduceAdd, List.cons_append, List.nil_append, List.eraseIdx_cons_zero, List.eraseIdx_cons_succ]); refine WX ?_) | (refine LX_fK noG (LO_sn 3 rfl rfl rfl (by exact sc_cons rfl (sc_cons sq (sc_cons sqo rfl))) rfl rfl ⟨by simp, ?_⟩); try (dsimp only [st, setL, AV.cells, List.set_cons_zero, List.set_cons_succ, List.drop_zero, List.drop_succ_cons, List.take_zero, List.take_succ_cons, Nat.zero_add, Nat.add_zero, Nat.reduceAdd, List.cons_append, List.nil_append, List.eraseIdx_cons_zero, List.eraseIdx_cons_succ]); refine WX ?_))
        all_goals
          refine W ?_
          refine RET fun h' HL => ?_
          try dsimp only [oneA]
          exact ⟨_, ⟨⟨pn, ps, (os.take u2.toNat).drop 0⟩, q, ws, z, wz, qs, qo, os, rfl, fun h2 H => hRz h2 H, by rw [lwz]; simp; omega, swz, ⟨lw, sw, lq, sq, lqo, sqo⟩, ⟨hB.n, hB.ls, by show ((os.take u2.toNat).drop 0).length ≤ 100; simp; omega, hB.st, fun v hv => hob v (List.mem_of_mem_take (List.mem_of_mem_drop hv))⟩, hBq, rfl⟩, HL.sel [7, 8, 5, 6] (by decide)⟩
  · first | (refine LS_gyH rfl (rfl) ?_; intro hg) | (refine LI_cond_tH rfl (rfl) ?_; intro hg)
    refine W ?_
    refine LI_rot 8 rfl (LI_rot 8 rfl (LI_rot 6 rfl (LI_rot 4 rfl (LI_rot 4 rfl ?_))))
    try (dsimp only [st, setL, AV.cells, List.set_cons_zero, List.set_cons_succ, List.drop_zero, List.drop_succ_cons, List.take_zero, List.take_succ_cons, Nat.zero_add, Nat.add_zero, Nat.reduceAdd, List.cons_append, List.nil_append, List.eraseIdx_cons_zero, List.eraseIdx_cons_succ])
    refine dk29_0 [] (by simp) ?_
    refine WX ?_
    repeat' (first | (refine LX_two ?_ ?_ <;> refine WX ?_) | (refine LX_lwe 1 noG rfl rfl rfl ?_; try (dsimp only [st, setL, AV.cells, List.set_cons_zero, List.set_cons_succ, List.drop_zero, List.drop_succ_cons, List.take_zero, List.take_succ_cons, Nat.zero_add, Nat.add_zero, Nat.reduceAdd, List.cons_append, List.nil_append, List.eraseIdx_cons_zero, List.eraseIdx_cons_succ]); refine WX ?_) | (refine LX_lwe 2 noG rfl rfl rfl ?_; try (dsimp only [st, setL, AV.cells, List.set_cons_zero, List.set_cons_succ, List.drop_zero, List.drop_succ_cons, List.take_zero, List.take_succ_cons, Nat.zero_add, Nat.add_zero, Nat.reduceAdd, List.cons_append, List.nil_append, List.eraseIdx_cons_zero, List.eraseIdx_cons_succ]); refine WX ?_))
    all_goals
      refine W ?_
      refine RET fun h' HL => ?_
      try dsimp only [oneA]
      exact ⟨_, ⟨⟨pn, ps, os0⟩, q, ws, wo0, wo0, qs, qo, os0, rfl, fun h2 H => H, lo, so, ⟨lw, sw, lq, sq, lqo, sqo⟩, hB, hBq, rfl⟩, HL.sel [7, 8, 5, 6] (by decide)⟩

/-! ### Comparisons, exponents of outputs -/
theorem pSameInts_ac (l : List Int) (v u : AV) (h : AH) (hv : Rd h v l) (hu : Rd h u l) (hl : l.length ≤ 4611686018427387904) :
    AC Try.prog 88 [v, u] h (fun r h' => r = .b true ∧ h.le h') := by
  have hvl := hv.len
  have hul := hu.len
  refine e88 _ _ fun wf => ?_
  unfold c88
  refine LI_start wf ?_
  refine W ?_
  first | (refine LS_gtnH rfl (by simp) ?_; intro hg; try (dsimp only [st, setL, AV.cells, List.set_cons_zero, List.set_cons_succ, List.drop_zero, List.drop_succ_cons, List.take_zero, List.take_succ_cons, Nat.zero_add, Nat.add_zero, Nat.reduceAdd, List.cons_append, List.nil_append, List.eraseIdx_cons_zero, List.eraseIdx_cons_succ])) | (refine LS_gfnH rfl (by simp) ?_; intro hg; try (dsimp only [st, setL, AV.cells, List.set_cons_zero, List.set_cons_succ, List.drop_zero, List.drop_succ_cons, List.take_zero, List.take_succ_cons, Nat.zero_add, Nat.add_zero, Nat.reduceAdd, List.cons_append, List.nil_append, List.eraseIdx_cons_zero, List.eraseIdx_cons_succ])) | (refine LI_cond_fH rfl (by simp) ?_; intro hg)
  refine W ?_
  refine LIL_ind (fun k a L => ∃ (i : Int), (∃ r : Nat → AV, a = [v, u, r 2, r 3, .b false, r 5, r 6, r 7, r 8, r 9, r 10, r 11, .i .i64 l.length, .i .i64 i, r 14, r 15, r 16, r 17, r 18, r 19, r 20, r 21, r 22, r 23, r 24, r 25]) ∧ L = [] ∧ 0 ≤ i ∧ i + k = l.length)
    l.length ⟨0, exJ rfl, rfl, by omega, by omega⟩ ?_
  rintro k a L ⟨i, ⟨r, rfl⟩, rfl, h0, hk⟩ IH
  refine W ?_
  (first | refine LS_gt rfl ?_ ?_ | refine LS_gf rfl ?_ ?_ | refine LI_cond rfl ?_ ?_) <;> intro hc <;> have hc' := hc <;> try simp only [decide_eq_true_eq, decide_eq_false_iff_not, Bool.not_eq_true', Bool.not_eq_false', Bool.not_eq_true, Bool.not_eq_false, beq_iff_eq, bne_iff_ne, beq_eq_false_iff_ne, bne_eq_false_iff_eq, Int.not_lt, Int.not_le, ge_iff_le, gt_iff_lt, not_and, ne_eq, Decidable.not_not] at hc'
  all_goals (try (dsimp only [st, setL, AV.cells, List.set_cons_zero, List.set_cons_succ, List.drop_zero, List.drop_succ_cons, List.take_zero, List.take_succ_cons, Nat.zero_add, Nat.add_zero, Nat.reduceAdd, List.cons_append, List.nil_append, List.eraseIdx_cons_zero, List.eraseIdx_cons_succ]))
  all_goals (refine W ?_)
  · obtain ⟨y, hy, hym, _⟩ := drop_at (l := l) h0 hc'
    refine dz88_0 ?_
    refine WX ?_
    refine W ?_
    refine LX_ix (fun h' HL => hv.le HL.le) enI1 hy h0 rfl rfl noG fun q1 o1 hrow1 => ?_
    try (dsimp only [st, setL, AV.cells, List.set_cons_zero, List.set_cons_succ, List.drop_zero, List.drop_succ_cons, List.take_zero, List.take_succ_cons, Nat.zero_add, Nat.add_zero, Nat.reduceAdd, List.cons_append, List.nil_append, List.eraseIdx_cons_zero, List.eraseIdx_cons_succ])
    refine WX ?_
    refine W ?_
    refine LX_ix (fun h' HL => hu.le HL.le) enI1 hy h0 rfl rfl noG fun q2 o2 hrow2 => ?_
    try (dsimp only [st, setL, AV.cells, List.set_cons_zero, List.set_cons_succ, List.drop_zero, List.drop_succ_cons, List.take_zero, List.take_succ_cons, Nat.zero_add, Nat.add_zero, Nat.reduceAdd, List.cons_append, List.nil_append, List.eraseIdx_cons_zero, List.eraseIdx_cons_succ])
    refine WX ?_
    refine W ?_
    first | (refine LS_gtnH rfl (by simp) ?_; intro hg; try (dsimp only [st, setL, AV.cells, List.set_cons_zero, List.set_cons_succ, List.drop_zero, List.drop_succ_cons, List.take_zero, List.take_succ_cons, Nat.zero_add, Nat.add_zero, Nat.reduceAdd, List.cons_append, List.nil_append, List.eraseIdx_cons_zero, List.eraseIdx_cons_succ])) | (refine LS_gfnH rfl (by simp) ?_; intro hg; try (dsimp only [st, setL, AV.cells, List.set_cons_zero, List.set_cons_succ, List.drop_zero, List.drop_succ_cons, List.take_zero, List.take_succ_cons, Nat.zero_add, Nat.add_zero, Nat.reduceAdd, List.cons_append, List.nil_append, List.eraseIdx_cons_zero, List.eraseIdx_cons_succ])) | (refine LI_cond_fH rfl (by simp) ?_; intro hg)
    refine W ?_
    refine IH (k - 1) _ _ (by omega) ⟨i + 1, exJ rfl, rfl, by omega, by omega⟩
  · refine RET fun h' HL => ?_
    try dsimp only [oneA]
    exact ⟨rfl, HL.le⟩

theorem seStep : SeI Try.prog 108 2 := ⟨by kernel_rfl, by kernel_rfl, by kernel_rfl, by kernel_rfl, by kernel_rfl⟩

theorem OpV_sne {a : List AV} {T' : TypeId} {u v : Operand} {x y : Int × Int} (hx : ev a u = some (.agg (enStep x))) (hy : ev a v = some (.agg (enStep y))) : OpV Try.prog (.binOp .neq 108 u v T') a (.b (!([x.1, x.2] == [y.1, y.2]))) := OpV_seI seStep rfl rfl hx hy _ (.inr ⟨rfl, rfl⟩)

theorem pSameSteps_ac (l : List (Int × Int)) (v u : AV) (h : AH) (hv : RdG 2 enStep h v l) (hu : RdG 2 enStep h u l) (hl : l.length ≤ 4611686018427387904) :
    AC Try.prog 87 [v, u] h (fun r h' => r = .b true ∧ h.le h') := by
  have hvl := hv.len
  have hul := hu.len
  refine e87 _ _ fun wf => ?_
  unfold c87
  refine LI_start wf ?_
  refine W ?_
  first | (refine LS_gtnH rfl (by simp) ?_; intro hg; try (dsimp only [st, setL, AV.cells, List.set_cons_zero, List.set_cons_succ, List.drop_zero, List.drop_succ_cons, List.take_zero, List.take_succ_cons, Nat.zero_add, Nat.add_zero, Nat.reduceAdd, List.cons_append, List.nil_append, List.eraseIdx_cons_zero, List.eraseIdx_cons_succ])) | (refine LS_gfnH rfl (by simp) ?_; intro hg; try (dsimp only [st, setL, AV.cells, List.set_cons_zero, List.set_cons_succ, List.drop_zero, List.drop_succ_cons, List.take_zero, List.take_succ_cons, Nat.zero_add, Nat.add_zero, Nat.reduceAdd, List.cons_append, List.nil_append, List.eraseIdx_cons_zero, List.eraseIdx_cons_succ])) | (refine LI_cond_fH rfl (by simp) ?_; intro hg)
  refine W ?_
  refine LIL_ind (fun k a L => ∃ (i : Int), (∃ r : Nat → AV, a = [v, u, r 2, r 3, .b false, r 5, r 6, r 7, r 8, r 9, r 10, r 11, .i .i64 l.length, .i .i64 i, r 14, r 15, r 16, r 17, r 18, r 19, r 20, r 21, r 22, r 23, r 24, r 25]) ∧ L = [] ∧ 0 ≤ i ∧ i + k = l.length)
    l.length ⟨0, exJ rfl, rfl, by omega, by omega⟩ ?_
  rintro k a L ⟨i, ⟨r, rfl⟩, rfl, h0, hk⟩ IH
  refine W ?_
  (first | refine LS_gt rfl ?_ ?_ | refine LS_gf rfl ?_ ?_ | refine LI_cond rfl ?_ ?_) <;> intro hc <;> have hc' := hc <;> try simp only [decide_eq_true_eq, decide_eq_false_iff_not, Bool.not_eq_true', Bool.not_eq_false', Bool.not_eq_true, Bool.not_eq_false, beq_iff_eq, bne_iff_ne, beq_eq_false_iff_ne, bne_eq_false_iff_eq, Int.not_lt, Int.not_le, ge_iff_le, gt_iff_lt, not_and, ne_eq, Decidable.not_not] at hc'
  all_goals (try (dsimp only [st, setL, AV.cells, List.set_cons_zero, List.set_cons_succ, List.drop_zero, List.drop_succ_cons, List.take_zero, List.take_succ_cons, Nat.zero_add, Nat.add_zero, Nat.reduceAdd, List.cons_append, List.nil_append, List.eraseIdx_cons_zero, List.eraseIdx_cons_succ]))
  all_goals (refine W ?_)
  · obtain ⟨y, hy, hym, _⟩ := drop_at (l := l) h0 hc'
    refine dz87_0 ?_
    refine WX ?_
    refine W ?_
    refine LX_ix (fun h' HL => hv.le HL.le) enStep2 hy h0 rfl rfl noG fun q1 o1 hrow1 => ?_
    try (dsimp only [st, setL, AV.cells, List.set_cons_zero, List.set_cons_succ, List.drop_zero, List.drop_succ_cons, List.take_zero, List.take_succ_cons, Nat.zero_add, Nat.add_zero, Nat.reduceAdd, List.cons_append, List.nil_append, List.eraseIdx_cons_zero, List.eraseIdx_cons_succ])
    refine WX ?_
    refine W ?_
    refine LX_ix (fun h' HL => hu.le HL.le) enStep2 hy h0 rfl rfl noG fun q2 o2 hrow2 => ?_
    try (dsimp only [st, setL, AV.cells, List.set_cons_zero, List.set_cons_succ, List.drop_zero, List.drop_succ_cons, List.take_zero, List.take_succ_cons, Nat.zero_add, Nat.add_zero, Nat.reduceAdd, List.cons_append, List.nil_append, List.eraseIdx_cons_zero, List.eraseIdx_cons_succ])
    refine WX ?_
    refine W ?_
    refine LX_v noG (OpV_sne rfl rfl) ?_
    try (dsimp only [st, setL, AV.cells, List.set_cons_zero, List.set_cons_succ, List.drop_zero, List.drop_succ_cons, List.take_zero, List.take_succ_cons, Nat.zero_add, Nat.add_zero, Nat.reduceAdd, List.cons_append, List.nil_append, List.eraseIdx_cons_zero, List.eraseIdx_cons_succ])
    refine WX ?_
    refine W ?_
    first | (refine LS_gtnH rfl (by simp) ?_; intro hg; try (dsimp only [st, setL, AV.cells, List.set_cons_zero, List.set_cons_succ, List.drop_zero, List.drop_succ_cons, List.take_zero, List.take_succ_cons, Nat.zero_add, Nat.add_zero, Nat.reduceAdd, List.cons_append, List.nil_append, List.eraseIdx_cons_zero, List.eraseIdx_cons_succ])) | (refine LS_gfnH rfl (by simp) ?_; intro hg; try (dsimp only [st, setL, AV.cells, List.set_cons_zero, List.set_cons_succ, List.drop_zero, List.drop_succ_cons, List.take_zero, List.take_succ_cons, Nat.zero_add, Nat.add_zero, Nat.reduceAdd, List.cons_append, List.nil_append, List.eraseIdx_cons_zero, List.eraseIdx_cons_succ])) | (refine LI_cond_fH rfl (by simp) ?_; intro hg)
    refine W ?_
    refine IH (k - 1) _ _ (by omega) ⟨i + 1, exJ rfl, rfl, by omega, by omega⟩
  · refine RET fun h' HL => ?_
    try dsimp only [oneA]
    exact ⟨rfl, HL.le⟩

theorem pSamePlan_ac (p : PlanM) (v u : AV) (h : AH) (hR : PlR h v p) (hS : PlR h u p) (hl : p.steps.length ≤ 1048576) (ho : p.outs.length ≤ 1048576) :
    AC Try.prog 32 [v, u] h (fun r h' => r = .b true ∧ h.le h') := by
  obtain ⟨vs, vo, rfl, h1, h2⟩ := hR
  obtain ⟨us, uo, rfl, k1, k2⟩ := hS
  refine e32 _ _ fun wf => ?_
  unfold c32
  refine LI_start wf ?_
  refine W ?_
  refine LS_bxn rfl (sc_cons rfl (sc_cons (rd_sc h1) (sc_cons (rd_sc h2) rfl))) fun b1 => ?_
  try (dsimp only [st, setL, AV.cells, List.set_cons_zero, List.set_cons_succ, List.drop_zero, List.drop_succ_cons, List.take_zero, List.take_succ_cons, Nat.zero_add, Nat.add_zero, Nat.reduceAdd, List.cons_append, List.nil_append, List.eraseIdx_cons_zero, List.eraseIdx_cons_succ])
  refine W ?_
  refine LS_bxn rfl (sc_cons rfl (sc_cons (rd_sc k1) (sc_cons (rd_sc k2) rfl))) fun b2 => ?_
  try (dsimp only [st, setL, AV.cells, List.set_cons_zero, List.set_cons_succ, List.drop_zero, List.drop_succ_cons, List.take_zero, List.take_succ_cons, Nat.zero_add, Nat.add_zero, Nat.reduceAdd, List.cons_append, List.nil_append, List.eraseIdx_cons_zero, List.eraseIdx_cons_succ])
  refine W ?_
  first | (refine LS_gyH rfl (by simp) ?_; intro hg) | (refine LI_cond_tH rfl (by simp) ?_; intro hg)
  refine W ?_
  refine LS_c0 (fun h' HL wf => pSameSteps_ac p.steps vs us h' (h1.le HL.le) (k1.le HL.le) (by omega)) rfl rfl ?_
  try (dsimp only [st, setL, AV.cells, List.set_cons_zero, List.set_cons_succ, List.drop_zero, List.drop_succ_cons, List.take_zero, List.take_succ_cons, Nat.zero_add, Nat.add_zero, Nat.reduceAdd, List.cons_append, List.nil_append, List.eraseIdx_cons_zero, List.eraseIdx_cons_succ])
  refine W ?_
  refine LS_c0 (fun h' HL wf => pSameInts_ac p.outs vo uo h' (h2.le HL.le) (k2.le HL.le) (by omega)) rfl rfl ?_
  try (dsimp only [st, setL, AV.cells, List.set_cons_zero, List.set_cons_succ, List.drop_zero, List.drop_succ_cons, List.take_zero, List.take_succ_cons, Nat.zero_add, Nat.add_zero, Nat.reduceAdd, List.cons_append, List.nil_append, List.eraseIdx_cons_zero, List.eraseIdx_cons_succ])
  refine W ?_
  refine RET fun h' HL => ?_
  try dsimp only [oneA]
  exact ⟨rfl, HL.le⟩

def outE (p : PlanM) (os : List Int) : List (List Int) := os.map fun v => (expsE p).getD v.toNat []

theorem outE_snoc {p : PlanM} {os : List Int} {i : Nat} {v : Int} (h : os[i]? = some v) : outE p (os.take (i + 1)) = outE p (os.take i) ++ [(expsE p).getD v.toNat []] := by rw [outE, take_snoc h, List.map_append]; rfl

theorem outputExponents_ac (p : PlanM) (b : Nat) (vs vo : AV) (h : AH) (hp : PlP h b p vs vo) (hk : planOk p = true) :
    AC Try.prog 89 [.p b 0] h (fun r h' => ∃ M, (∃ us, us.length = (outE p p.outs).length ∧ lenA r = some us.length ∧ r.sc = true ∧ M = ssI r us (outE p p.outs)) ∧ Loq h h' M) := by
  obtain ⟨h1, h2, h3, h4, hf, h6⟩ := planOk_out hk
  have c2 := hp.c2
  have ho := hp.outs
  have hol := ho.len
  refine e89 _ fun wf => ?_
  unfold c89
  refine LI_start wf ?_
  refine W ?_
  refine LS_c1 (fun h' HL wf => exponents_ac p b vs vo h' (hp.le HL.le) h1 h2 h3 hf) rfl rfl ?_
  try (dsimp only [st, setL, AV.cells, List.set_cons_zero, List.set_cons_succ, List.drop_zero, List.drop_succ_cons, List.take_zero, List.take_succ_cons, Nat.zero_add, Nat.add_zero, Nat.reduceAdd, List.cons_append, List.nil_append, List.eraseIdx_cons_zero, List.eraseIdx_cons_succ])
  refine W ?_
  rintro all _ ⟨ua, hua, la, sa, rfl⟩
  try (dsimp only [st, setL, AV.cells, List.set_cons_zero, List.set_cons_succ, List.drop_zero, List.drop_succ_cons, List.take_zero, List.take_succ_cons, Nat.zero_add, Nat.add_zero, Nat.reduceAdd, List.cons_append, List.nil_append, List.eraseIdx_cons_zero, List.eraseIdx_cons_succ])
  refine W ?_
  have hel := expsE_len hf h1
  refine LS_lt ([] : List AV) rfl rfl (by decide) rfl rfl rfl rfl enV1 rfl rfl fun lit0 hlit0 slit0 => ?_
  try (dsimp only [st, setL, AV.cells, List.set_cons_zero, List.set_cons_succ, List.drop_zero, List.drop_succ_cons, List.take_zero, List.take_succ_cons, Nat.zero_add, Nat.add_zero, Nat.reduceAdd, List.cons_append, List.nil_append, List.eraseIdx_cons_zero, List.eraseIdx_cons_succ])
  refine W ?_
  refine LIL_ind (fun k a L => ∃ (out : AV) (i : Int) (us : List AV), (∃ r : Nat → AV, a = [r 0, r 1, r 2, all, out, r 5, r 6, r 7, r 8, r 9, r 10, r 11, r 12, vo, .i .i64 p.outs.length, .i .i64 i, r 16, r 17, r 18, r 19, r 20, r 21, r 22, r 23, r 24, r 25, r 26, r 27, r 28]) ∧ L = .sl out 1 (us.flatMap enV) :: (rowsI us (outE p (p.outs.take i.toNat)) ++ (ssI all ua (expsE p) ++ [])) ∧ us.length = i.toNat ∧ 0 ≤ i ∧ i + k = p.outs.length ∧ lenA out = some us.length ∧ out.sc = true)
    p.outs.length ⟨lit0, 0, [], exJ rfl, rfl, rfl, by omega, by omega, hlit0, slit0⟩ ?_
  rintro k a L ⟨out, i, us, ⟨r, rfl⟩, rfl, hus, h0, hk', lo, so⟩ IH
  have hul : us.length = (outE p (p.outs.take i.toNat)).length := by rw [hus, outE, List.length_map, List.length_take]; omega
  refine W ?_
  (first | refine LS_gt rfl ?_ ?_ | refine LS_gf rfl ?_ ?_ | refine LI_cond rfl ?_ ?_) <;> intro hc <;> have hc' := hc <;> try simp only [decide_eq_true_eq, decide_eq_false_iff_not, Bool.not_eq_true', Bool.not_eq_false', Bool.not_eq_true, Bool.not_eq_false, beq_iff_eq, bne_iff_ne, beq_eq_false_iff_ne, bne_eq_false_iff_eq, Int.not_lt, Int.not_le, ge_iff_le, gt_iff_lt, not_and, ne_eq, Decidable.not_not] at hc'
  all_goals (try (dsimp only [st, setL, AV.cells, List.set_cons_zero, List.set_cons_succ, List.drop_zero, List.drop_succ_cons, List.take_zero, List.take_succ_cons, Nat.zero_add, Nat.add_zero, Nat.reduceAdd, List.cons_append, List.nil_append, List.eraseIdx_cons_zero, List.eraseIdx_cons_succ]))
  all_goals (refine W ?_)
  · obtain ⟨v, hv, hvm, _⟩ := drop_at (l := p.outs) h0 hc'
    have hvb := of_decide_eq_true (List.all_eq_true.1 h6 v hvm)
    obtain ⟨u, hu, _, _⟩ := drop_at (l := ua) hvb.1 (by omega)
    have hE := getD_get (ll := expsE p) (i := v.toNat) (by omega)
    have hrl := exps_row hf h1 (v := v.toNat) (by omega)
    refine LS_ix (fun h' HL => ho.le HL.le) enI1 hv h0 rfl rfl fun q1 o1 hrow1 => ?_
    try (dsimp only [st, setL, AV.cells, List.set_cons_zero, List.set_cons_succ, List.drop_zero, List.drop_succ_cons, List.take_zero, List.take_succ_cons, Nat.zero_add, Nat.add_zero, Nat.reduceAdd, List.cons_append, List.nil_append, List.eraseIdx_cons_zero, List.eraseIdx_cons_succ])
    refine W ?_
    refine LS_ix (fun h' HL => HL.rdM (List.mem_cons_of_mem _ (List.mem_append_right _ (List.mem_append_left _ (List.mem_cons_self)))) enV1 (by decide)) enV1 hu hvb.1 rfl rfl fun q2 o2 hrow2 => ?_
    try (dsimp only [st, setL, AV.cells, List.set_cons_zero, List.set_cons_succ, List.drop_zero, List.drop_succ_cons, List.take_zero, List.take_succ_cons, Nat.zero_add, Nat.add_zero, Nat.reduceAdd, List.cons_append, List.nil_append, List.eraseIdx_cons_zero, List.eraseIdx_cons_succ])
    refine W ?_
    refine LS_co (fun h' HL wf => Clone_int_ac ((expsE p).getD v.toNat []) u h' (HL.rdM (List.mem_cons_of_mem _ (List.mem_append_right _ (List.mem_append_left _ (List.mem_cons_of_mem _ (List.mem_append_left _ (rowsI_get hu hE)))))) enI1 (by decide)) (by omega)) enI1 rfl rfl fun w1 lw1 sw1 => ?_
    try (dsimp only [st, setL, AV.cells, List.set_cons_zero, List.set_cons_succ, List.drop_zero, List.drop_succ_cons, List.take_zero, List.take_succ_cons, Nat.zero_add, Nat.add_zero, Nat.reduceAdd, List.cons_append, List.nil_append, List.eraseIdx_cons_zero, List.eraseIdx_cons_succ])
    refine W ?_
    refine LS_ltV rfl rfl sw1 rfl fun lit hlit slit => ?_
    try (dsimp only [st, setL, AV.cells, List.set_cons_zero, List.set_cons_succ, List.drop_zero, List.drop_succ_cons, List.take_zero, List.take_succ_cons, Nat.zero_add, Nat.add_zero, Nat.reduceAdd, List.cons_append, List.nil_append, List.eraseIdx_cons_zero, List.eraseIdx_cons_succ])
    refine W ?_
    refine LS_ap 2 rfl (fun h' HL => HL.rdI 0 rfl enV1 (by decide)) enV1 (by decide) (by simp) (by simp; omega) (by simp; omega) rfl rfl rfl fun w hw sw => ?_
    try (dsimp only [st, setL, AV.cells, List.set_cons_zero, List.set_cons_succ, List.drop_zero, List.drop_succ_cons, List.take_zero, List.take_succ_cons, Nat.zero_add, Nat.add_zero, Nat.reduceAdd, List.cons_append, List.nil_append, List.eraseIdx_cons_zero, List.eraseIdx_cons_succ])
    refine W ?_
    refine LIL_drop 1 (LIL_push [_] hul ?_)
    refine IH (k - 1) _ _ (by omega) ⟨w, i + 1, us ++ [w1], exJ rfl, by rw [toNat_succ h0, outE_snoc hv]; rfl, by rw [toNat_succ h0]; simp [hus], by omega, by omega, hw, sw⟩
  · rw [show i.toNat = p.outs.length by omega, List.take_length] at hul ⊢
    refine RET fun h' HL => ?_
    try dsimp only [oneA]
    exact ⟨_, ⟨us, hul, lo, so, rfl⟩, HL.sub (.cons_cons _ (List.Sublist.append (List.Sublist.refl _) (List.nil_sublist _)))⟩

def oexL (p : PlanM) : List (List Int) := if planOk p = true then outE p p.outs else []

theorem OutputExponents_ac (p : PlanM) (v : AV) (h : AH) (hR : PlR h v p) (hw : PSm p) :
    AC Try.prog 33 [v] h (fun r h' => ∃ M, (∃ w us, r = .tup [w, .b (planOk p)] ∧ us.length = (oexL p).length ∧ lenA w = some us.length ∧ w.sc = true ∧ M = ssI w us (oexL p)) ∧ Loq h h' M) := by
  have hR0 := hR
  obtain ⟨vs, vo, rfl, hs, ho⟩ := hR
  refine e33 _ fun wf => ?_
  unfold c33
  refine LI_start wf ?_
  refine W ?_
  refine LS_bxn rfl (sc_cons rfl (sc_cons (rd_sc hs) (sc_cons (rd_sc ho) rfl))) fun b1 => ?_
  try (dsimp only [st, setL, AV.cells, List.set_cons_zero, List.set_cons_succ, List.drop_zero, List.drop_succ_cons, List.take_zero, List.take_succ_cons, Nat.zero_add, Nat.add_zero, Nat.reduceAdd, List.cons_append, List.nil_append, List.eraseIdx_cons_zero, List.eraseIdx_cons_succ])
  refine W ?_
  refine LS_c0 (fun h' HL wf => isPlan_ac p _ h' (hR0.le HL.le) hw) rfl rfl ?_
  try (dsimp only [st, setL, AV.cells, List.set_cons_zero, List.set_cons_succ, List.drop_zero, List.drop_succ_cons, List.take_zero, List.take_succ_cons, Nat.zero_add, Nat.add_zero, Nat.reduceAdd, List.cons_append, List.nil_append, List.eraseIdx_cons_zero, List.eraseIdx_cons_succ])
  refine W ?_
  cases hk : planOk p
  · first | (refine LS_gyH rfl (rfl) ?_; intro hg) | (refine LI_cond_tH rfl (rfl) ?_; intro hg)
    refine W ?_
    rw [oexL, hk, if_neg (by simp)]
    refine RET fun h' HL => ?_
    try dsimp only [oneA]
    exact ⟨_, ⟨.ns, [], rfl, rfl, rfl, rfl, rfl⟩, loq_ns (HL.sub (List.nil_sublist _)) 1⟩
  · first | (refine LS_gtnH rfl (rfl) ?_; intro hg; try (dsimp only [st, setL, AV.cells, List.set_cons_zero, List.set_cons_succ, List.drop_zero, List.drop_succ_cons, List.take_zero, List.take_succ_cons, Nat.zero_add, Nat.add_zero, Nat.reduceAdd, List.cons_append, List.nil_append, List.eraseIdx_cons_zero, List.eraseIdx_cons_succ])) | (refine LS_gfnH rfl (rfl) ?_; intro hg; try (dsimp only [st, setL, AV.cells, List.set_cons_zero, List.set_cons_succ, List.drop_zero, List.drop_succ_cons, List.take_zero, List.take_succ_cons, Nat.zero_add, Nat.add_zero, Nat.reduceAdd, List.cons_append, List.nil_append, List.eraseIdx_cons_zero, List.eraseIdx_cons_succ])) | (refine LI_cond_fH rfl (rfl) ?_; intro hg)
    refine W ?_
    rw [oexL, hk, if_pos rfl]
    refine LS_c1 (fun h' HL wf => outputExponents_ac p b1 vs vo h' ⟨HL.rowsP 0 rfl (Nat.le_refl 3) rfl, hs.le HL.le, ho.le HL.le⟩ hk) rfl rfl ?_
    try (dsimp only [st, setL, AV.cells, List.set_cons_zero, List.set_cons_succ, List.drop_zero, List.drop_succ_cons, List.take_zero, List.take_succ_cons, Nat.zero_add, Nat.add_zero, Nat.reduceAdd, List.cons_append, List.nil_append, List.eraseIdx_cons_zero, List.eraseIdx_cons_succ])
    refine W ?_
    rintro w _ ⟨us, hus, lw, sw, rfl⟩
    try (dsimp only [st, setL, AV.cells, List.set_cons_zero, List.set_cons_succ, List.drop_zero, List.drop_succ_cons, List.take_zero, List.take_succ_cons, Nat.zero_add, Nat.add_zero, Nat.reduceAdd, List.cons_append, List.nil_append, List.eraseIdx_cons_zero, List.eraseIdx_cons_succ])
    refine W ?_
    refine RET fun h' HL => ?_
    try dsimp only [oneA]
    exact ⟨_, ⟨w, us, rfl, hus, lw, sw, rfl⟩, HL.sub (List.sublist_append_left _ _)⟩

theorem LIL_gen {P : Program} {h0 : AH} {L : List It} {Q : Exit → List AV → List It → Prop} {a : List AV} {c : IC} (H : ∀ LL, (∀ h, Loq h0 h LL → Loq h0 h L) → LIL P h0 LL c Q a) : LIL P h0 L c Q a := H L fun _ h => h

theorem LIL_hv {P : Program} {h0 : AH} {L : List It} {Q : Exit → List AV → List It → Prop} {a : List AV} {c : IC} {φ : Prop} (H1 : ∀ h, Loq h0 h L → φ) (H2 : φ → LIL P h0 L c Q a) : LIL P h0 L c Q a := by
  delta LIL at H2 ⊢; exact fun h HL => H2 (H1 h HL) h HL

theorem pickM_get {l : List Int} : ∀ {ix : List Int} {k : Nat} {i : Int}, (∀ j ∈ ix, 0 ≤ j ∧ j < l.length) → ix[k]? = some i → (pickM l ix)[k]? = l[i.toNat]?
  | [], k, i, _, h => by simp at h
  | j :: ix, 0, i, hb, h => by
    simp at h; subst h
    have := hb j (by simp)
    rw [pickM, List.filterMap_cons, List.getElem?_eq_getElem (show j.toNat < l.length by omega)]
    rfl
  | j :: ix, k + 1, i, hb, h => by
    have := hb j (by simp)
    have ih := pickM_get (l := l) (ix := ix) (k := k) (i := i) (fun j hj => hb j (by simp [hj])) (by simpa using h)
    rw [pickM] at ih ⊢
    rw [List.filterMap_cons, List.getElem?_eq_getElem (show j.toNat < l.length by omega)]
    simpa using ih

theorem pickM_len_eq {l : List Int} : ∀ {ix : List Int}, (∀ j ∈ ix, 0 ≤ j ∧ j < l.length) → (pickM l ix).length = ix.length
  | [], _ => rfl
  | j :: ix, hb => by
    have := hb j (by simp)
    have ih := pickM_len_eq (l := l) (ix := ix) (fun j hj => hb j (by simp [hj]))
    rw [pickM] at ih ⊢
    rw [List.filterMap_cons, List.getElem?_eq_getElem (show j.toNat < l.length by omega)]
    simpa using ih

theorem dot_drop {row cs : List Int} {j : Nat} {e c : Int} (h1 : row[j]? = some e) (h2 : cs[j]? = some c) : dot (row.drop j) (cs.drop j) = e * c + dot (row.drop (j + 1)) (cs.drop (j + 1)) := by
  rw [List.drop_eq_getElem_cons (List.getElem?_eq_some_iff.1 h1).1, List.drop_eq_getElem_cons (List.getElem?_eq_some_iff.1 h2).1, dot, (List.getElem?_eq_some_iff.1 h1).2, (List.getElem?_eq_some_iff.1 h2).2]

theorem dot_nil {row cs : List Int} {j : Nat} (h : row.length ≤ j) : dot (row.drop j) (cs.drop j) = 0 := by
  rw [List.drop_eq_nil_of_le h]; cases cs.drop j <;> rfl

theorem outE_get {p : PlanM} {k : Nat} {v : Int} (h : p.outs[k]? = some v) : (outE p p.outs)[k]? = some ((expsE p).getD v.toNat []) := by simp [outE, h]

theorem row_get2 {p : PlanM} (hk : planOk p = true) {v i : Nat} (hv : v < p.n.toNat + p.steps.length) (hi : i < p.n.toNat) : ((expsE p).getD v [])[i]? = some (colE p i v) := by
  obtain ⟨h1, h2, h3, h4, hf, h6⟩ := planOk_out hk
  have := exps_row hf h1 hv
  rw [colE]
  exact getD_g0 (by omega)

theorem out_in {p : PlanM} (hk : planOk p = true) {v : Int} (hv : v ∈ p.outs) : 0 ≤ v ∧ v.toNat < p.n.toNat + p.steps.length := by
  obtain ⟨h1, h2, h3, h4, hf, h6⟩ := planOk_out hk
  have := of_decide_eq_true (List.all_eq_true.1 h6 v hv)
  omega

theorem lawFnComposedExponents_ac (c1 : List Int) (v1 : AV) (c2 : List Int) (v2 : AV) (h : AH) (hR1 : RdG 1 enU h v1 c1) (w1 : ∀ n ∈ c1, (Lit.int .u8 n).wf = true) (m1 : c1.length ≤ maxLen) (hR2 : RdG 1 enU h v2 c2) (w2 : ∀ n ∈ c2, (Lit.int .u8 n).wf = true) (m2 : c2.length ≤ maxLen) :
    AC Try.prog 8 [v1, v2] h (fun r h' => r = .b true) := by
  have b1 := bytes_in w1
  have q1 : c1.length ≤ 9223372036854775807 := m1
  have q2 : c2.length ≤ 9223372036854775807 := m2
  refine e8 _ _ fun wf => ?_
  unfold c8
  refine LI_start wf ?_
  refine W ?_
  refine LS_c0 (fun h' HL wf => big_ac c1 c2 v1 v2 h' (hR1.le HL.le) (hR2.le HL.le) q1 q2) rfl rfl ?_
  try (dsimp only [st, setL, AV.cells, List.set_cons_zero, List.set_cons_succ, List.drop_zero, List.drop_succ_cons, List.take_zero, List.take_succ_cons, Nat.zero_add, Nat.add_zero, Nat.reduceAdd, List.cons_append, List.nil_append, List.eraseIdx_cons_zero, List.eraseIdx_cons_succ])
  refine W ?_
  (first | refine LS_gt rfl ?_ ?_ | refine LS_gf rfl ?_ ?_ | refine LI_cond rfl ?_ ?_) <;> intro hc <;> have hc' := hc <;> try simp only [decide_eq_true_eq, decide_eq_false_iff_not, Bool.not_eq_true', Bool.not_eq_false', Bool.not_eq_true, Bool.not_eq_false, beq_iff_eq, bne_iff_ne, beq_eq_false_iff_ne, bne_eq_false_iff_eq, Int.not_lt, Int.not_le, ge_iff_le, gt_iff_lt, not_and, ne_eq, Decidable.not_not] at hc'
  all_goals (try (dsimp only [st, setL, AV.cells, List.set_cons_zero, List.set_cons_succ, List.drop_zero, List.drop_succ_cons, List.take_zero, List.take_succ_cons, Nat.zero_add, Nat.add_zero, Nat.reduceAdd, List.cons_append, List.nil_append, List.eraseIdx_cons_zero, List.eraseIdx_cons_succ]))
  all_goals (refine W ?_)
  · refine RET fun h' HL => ?_
    try dsimp only [oneA]
  · refine LS_c1 (fun h' HL wf => DrawComposePlans_ac c1 v1 h' (hR1.le HL.le) b1) rfl rfl ?_
    try (dsimp only [st, setL, AV.cells, List.set_cons_zero, List.set_cons_succ, List.drop_zero, List.drop_succ_cons, List.take_zero, List.take_succ_cons, Nat.zero_add, Nat.add_zero, Nat.reduceAdd, List.cons_append, List.nil_append, List.eraseIdx_cons_zero, List.eraseIdx_cons_succ])
    refine W ?_
    rintro _ _ ⟨p, q, ws, wo, w, qs, qo, os, rfl, hwr, lwr, swr, ⟨lw, sw, lq, sq, lqo, sqo⟩, hB, hBq, rfl⟩
    have hp := hB.sm
    have hq := hBq.sm
    try (dsimp only [st, setL, AV.cells, List.set_cons_zero, List.set_cons_succ, List.drop_zero, List.drop_succ_cons, List.take_zero, List.take_succ_cons, Nat.zero_add, Nat.add_zero, Nat.reduceAdd, List.cons_append, List.nil_append, List.eraseIdx_cons_zero, List.eraseIdx_cons_succ])
    refine W ?_
    refine LS_al rfl fun b5 => ?_
    try (dsimp only [st, setL, AV.cells, List.set_cons_zero, List.set_cons_succ, List.drop_zero, List.drop_succ_cons, List.take_zero, List.take_succ_cons, Nat.zero_add, Nat.add_zero, Nat.reduceAdd, List.cons_append, List.nil_append, List.eraseIdx_cons_zero, List.eraseIdx_cons_succ])
    refine W ?_
    refine LS_al rfl fun b6 => ?_
    try (dsimp only [st, setL, AV.cells, List.set_cons_zero, List.set_cons_succ, List.drop_zero, List.drop_succ_cons, List.take_zero, List.take_succ_cons, Nat.zero_add, Nat.add_zero, Nat.reduceAdd, List.cons_append, List.nil_append, List.eraseIdx_cons_zero, List.eraseIdx_cons_succ])
    refine W ?_
    refine LS_c1 (fun h' HL wf => implComp_ac p q _ _ h' ⟨ws, w, rfl, HL.rdI 2 rfl enStep2 (by decide), hwr h' (HL.rdI 3 rfl enI1 (by decide))⟩ hp (plr_of HL 4 5 rfl rfl) hq) rfl rfl ?_
    try (dsimp only [st, setL, AV.cells, List.set_cons_zero, List.set_cons_succ, List.drop_zero, List.drop_succ_cons, List.take_zero, List.take_succ_cons, Nat.zero_add, Nat.add_zero, Nat.reduceAdd, List.cons_append, List.nil_append, List.eraseIdx_cons_zero, List.eraseIdx_cons_succ])
    refine W ?_
    rintro _ _ ⟨us, uo, rfl, lu, su, luo, suo, rfl⟩
    try (dsimp only [st, setL, AV.cells, List.set_cons_zero, List.set_cons_succ, List.drop_zero, List.drop_succ_cons, List.take_zero, List.take_succ_cons, Nat.zero_add, Nat.add_zero, Nat.reduceAdd, List.cons_append, List.nil_append, List.eraseIdx_cons_zero, List.eraseIdx_cons_succ])
    refine W ?_
    refine LS_al rfl fun b7 => ?_
    try (dsimp only [st, setL, AV.cells, List.set_cons_zero, List.set_cons_succ, List.drop_zero, List.drop_succ_cons, List.take_zero, List.take_succ_cons, Nat.zero_add, Nat.add_zero, Nat.reduceAdd, List.cons_append, List.nil_append, List.eraseIdx_cons_zero, List.eraseIdx_cons_succ])
    refine W ?_
    refine LS_c1 (fun h' HL wf => specComp_ac p q _ _ h' ⟨ws, w, rfl, HL.rdI 5 rfl enStep2 (by decide), hwr h' (HL.rdI 6 rfl enI1 (by decide))⟩ hp (plr_of HL 7 8 rfl rfl) hq) rfl rfl ?_
    try (dsimp only [st, setL, AV.cells, List.set_cons_zero, List.set_cons_succ, List.drop_zero, List.drop_succ_cons, List.take_zero, List.take_succ_cons, Nat.zero_add, Nat.add_zero, Nat.reduceAdd, List.cons_append, List.nil_append, List.eraseIdx_cons_zero, List.eraseIdx_cons_succ])
    refine W ?_
    rintro _ _ ⟨us2, uo2, rfl, lu2, su2, luo2, suo2, rfl⟩
    try (dsimp only [st, setL, AV.cells, List.set_cons_zero, List.set_cons_succ, List.drop_zero, List.drop_succ_cons, List.take_zero, List.take_succ_cons, Nat.zero_add, Nat.add_zero, Nat.reduceAdd, List.cons_append, List.nil_append, List.eraseIdx_cons_zero, List.eraseIdx_cons_succ])
    refine W ?_
    refine LS_al rfl fun b9 => ?_
    try (dsimp only [st, setL, AV.cells, List.set_cons_zero, List.set_cons_succ, List.drop_zero, List.drop_succ_cons, List.take_zero, List.take_succ_cons, Nat.zero_add, Nat.add_zero, Nat.reduceAdd, List.cons_append, List.nil_append, List.eraseIdx_cons_zero, List.eraseIdx_cons_succ])
    refine W ?_
    first | (refine LS_gyH rfl (by simp) ?_; intro hg) | (refine LI_cond_tH rfl (by simp) ?_; intro hg)
    refine W ?_
    have hcl := compR_len (p := p) (q := q)
    refine LS_c0 (fun h' HL wf => pSamePlan_ac (compR p q) _ _ h' (plr_of HL 4 5 rfl rfl) (plr_of HL 1 2 rfl rfl) hcl.1 hcl.2) rfl rfl ?_
    try (dsimp only [st, setL, AV.cells, List.set_cons_zero, List.set_cons_succ, List.drop_zero, List.drop_succ_cons, List.take_zero, List.take_succ_cons, Nat.zero_add, Nat.add_zero, Nat.reduceAdd, List.cons_append, List.nil_append, List.eraseIdx_cons_zero, List.eraseIdx_cons_succ])
    refine W ?_
    cases hO : compOk p q
    · first | (refine LS_gyH rfl (rfl) ?_; intro hg) | (refine LI_cond_tH rfl (rfl) ?_; intro hg)
      refine W ?_
      refine RET fun h' HL => ?_
      try dsimp only [oneA]
    · have hO' := hO
      simp only [compOk, Bool.and_eq_true, decide_eq_true_eq] at hO'
      obtain ⟨hkp, hkq, hln, hkc⟩ := hO'
      rw [compR, hO, if_pos rfl] at lu luo lu2 luo2 ⊢
      first | (refine LS_gtnH rfl (rfl) ?_; intro hg; try (dsimp only [st, setL, AV.cells, List.set_cons_zero, List.set_cons_succ, List.drop_zero, List.drop_succ_cons, List.take_zero, List.take_succ_cons, Nat.zero_add, Nat.add_zero, Nat.reduceAdd, List.cons_append, List.nil_append, List.eraseIdx_cons_zero, List.eraseIdx_cons_succ])) | (refine LS_gfnH rfl (rfl) ?_; intro hg; try (dsimp only [st, setL, AV.cells, List.set_cons_zero, List.set_cons_succ, List.drop_zero, List.drop_succ_cons, List.take_zero, List.take_succ_cons, Nat.zero_add, Nat.add_zero, Nat.reduceAdd, List.cons_append, List.nil_append, List.eraseIdx_cons_zero, List.eraseIdx_cons_succ])) | (refine LI_cond_fH rfl (rfl) ?_; intro hg)
      refine W ?_
      refine LS_c1 (fun h' HL wf => OutputExponents_ac p _ h' ⟨ws, w, rfl, HL.rdI 8 rfl enStep2 (by decide), hwr h' (HL.rdI 9 rfl enI1 (by decide))⟩ hp) rfl rfl ?_
      try (dsimp only [st, setL, AV.cells, List.set_cons_zero, List.set_cons_succ, List.drop_zero, List.drop_succ_cons, List.take_zero, List.take_succ_cons, Nat.zero_add, Nat.add_zero, Nat.reduceAdd, List.cons_append, List.nil_append, List.eraseIdx_cons_zero, List.eraseIdx_cons_succ])
      refine W ?_
      rintro _ _ ⟨f1, us1, rfl, hu1, lf1, sf1, rfl⟩
      refine LS_perm List.perm_append_comm ?_
      try (dsimp only [st, setL, AV.cells, List.set_cons_zero, List.set_cons_succ, List.drop_zero, List.drop_succ_cons, List.take_zero, List.take_succ_cons, Nat.zero_add, Nat.add_zero, Nat.reduceAdd, List.cons_append, List.nil_append, List.eraseIdx_cons_zero, List.eraseIdx_cons_succ])
      refine W ?_
      refine LS_c1 (fun h' HL wf => OutputExponents_ac q _ h' (plr_of HL 10 11 rfl rfl) hq) rfl rfl ?_
      try (dsimp only [st, setL, AV.cells, List.set_cons_zero, List.set_cons_succ, List.drop_zero, List.drop_succ_cons, List.take_zero, List.take_succ_cons, Nat.zero_add, Nat.add_zero, Nat.reduceAdd, List.cons_append, List.nil_append, List.eraseIdx_cons_zero, List.eraseIdx_cons_succ])
      refine W ?_
      rintro _ _ ⟨f2, us2', rfl, hu2, lf2, sf2, rfl⟩
      refine LS_perm List.perm_append_comm ?_
      try (dsimp only [st, setL, AV.cells, List.set_cons_zero, List.set_cons_succ, List.drop_zero, List.drop_succ_cons, List.take_zero, List.take_succ_cons, Nat.zero_add, Nat.add_zero, Nat.reduceAdd, List.cons_append, List.nil_append, List.eraseIdx_cons_zero, List.eraseIdx_cons_succ])
      refine W ?_
      refine LS_c1 (fun h' HL wf => OutputExponents_ac (compQ p q) _ h' (plr_of HL 4 5 rfl rfl) (compQ_sm hkp hkq hln)) rfl rfl ?_
      try (dsimp only [st, setL, AV.cells, List.set_cons_zero, List.set_cons_succ, List.drop_zero, List.drop_succ_cons, List.take_zero, List.take_succ_cons, Nat.zero_add, Nat.add_zero, Nat.reduceAdd, List.cons_append, List.nil_append, List.eraseIdx_cons_zero, List.eraseIdx_cons_succ])
      refine W ?_
      rintro _ _ ⟨f3, us3, rfl, hu3, lf3, sf3, rfl⟩
      refine LS_perm List.perm_append_comm ?_
      try (dsimp only [st, setL, AV.cells, List.set_cons_zero, List.set_cons_succ, List.drop_zero, List.drop_succ_cons, List.take_zero, List.take_succ_cons, Nat.zero_add, Nat.add_zero, Nat.reduceAdd, List.cons_append, List.nil_append, List.eraseIdx_cons_zero, List.eraseIdx_cons_succ])
      have hT := comp_T hkp hkq hln
      have hob := then_outs hkq hT
      have hsl : (compQ p q).steps.length = p.steps.length + q.steps.length := hT.ls
      have hol : (compQ p q).outs.length = q.outs.length := pickM_len_eq hob
      have e1 : oexL p = outE p p.outs := by rw [oexL, if_pos hkp]
      have e2 : oexL q = outE q q.outs := by rw [oexL, if_pos hkq]
      have e3 : oexL (compQ p q) = outE (compQ p q) (compQ p q).outs := by rw [oexL, if_pos hkc]
      rw [e1] at hu1
      rw [e2] at hu2
      rw [e3] at hu3
      have g1 : us1.length = p.outs.length := by rw [hu1, outE, List.length_map]
      have g2 : us2'.length = q.outs.length := by rw [hu2, outE, List.length_map]
      have g3 : us3.length = q.outs.length := by rw [hu3, outE, List.length_map, hol]
      obtain ⟨a1, a2, a3, a4, af, a6⟩ := planOk_out hkp
      obtain ⟨k1, k2, k3, k4, kf, k6⟩ := planOk_out hkq
      rw [hkp, hkq, hkc, e1, e2, e3]
      refine W ?_
      first | (refine LS_gyH rfl (by rw [g2, g3]; simp) ?_; intro hg) | (refine LI_cond_tH rfl (by rw [g2, g3]; simp) ?_; intro hg)
      refine W ?_
      first | (refine LS_gtnH rfl (by rw [hsl]; simp) ?_; intro hg; try (dsimp only [st, setL, AV.cells, List.set_cons_zero, List.set_cons_succ, List.drop_zero, List.drop_succ_cons, List.take_zero, List.take_succ_cons, Nat.zero_add, Nat.add_zero, Nat.reduceAdd, List.cons_append, List.nil_append, List.eraseIdx_cons_zero, List.eraseIdx_cons_succ])) | (refine LS_gfnH rfl (by rw [hsl]; simp) ?_; intro hg; try (dsimp only [st, setL, AV.cells, List.set_cons_zero, List.set_cons_succ, List.drop_zero, List.drop_succ_cons, List.take_zero, List.take_succ_cons, Nat.zero_add, Nat.add_zero, Nat.reduceAdd, List.cons_append, List.nil_append, List.eraseIdx_cons_zero, List.eraseIdx_cons_succ])) | (refine LI_cond_fH rfl (by rw [hsl]; simp) ?_; intro hg)
      refine W ?_
      rw [g2]
      refine LIL_gen fun LL hLL => ?_
      have hF1 : ∀ h', Loq h h' LL → RdSS h' f1 (outE p p.outs) us1 := fun h' HL => (hLL h' HL).ss (by simp only [ssI, List.mem_cons, List.mem_append, true_or, or_true]) (fun x hx => by simp only [ssI, List.mem_cons, List.mem_append, hx, true_or, or_true]) hu1
      have hF2 : ∀ h', Loq h h' LL → RdSS h' f2 (outE q q.outs) us2' := fun h' HL => (hLL h' HL).ss (by simp only [ssI, List.mem_cons, List.mem_append, true_or, or_true]) (fun x hx => by simp only [ssI, List.mem_cons, List.mem_append, hx, true_or, or_true]) hu2
      have hF3 : ∀ h', Loq h h' LL → RdSS h' f3 (outE (compQ p q) (compQ p q).outs) us3 := fun h' HL => (hLL h' HL).ss (by simp only [ssI, List.mem_cons, List.mem_append, true_or, or_true]) (fun x hx => by simp only [ssI, List.mem_cons, List.mem_append, hx, true_or, or_true]) hu3
      have hb5 : ∀ h', Loq h h' LL → h'.row b5 0 1 = some [.i .i64 p.n] := fun h' HL => (hLL h' HL).rowsP 7 rfl (by simp) rfl
      refine LIL_ind (fun k a L => ∃ (o : Int), (∃ r : Nat → AV, a = [r 0, r 1, r 2, r 3, .b false, .p b5 0, r 6, r 7, r 8, r 9, r 10, f1, r 12, f2, r 14, f3, r 16, r 17, r 18, r 19, r 20, r 21, r 22, r 23, r 24, r 25, r 26, r 27, r 28, r 29, r 30, r 31, r 32, r 33, r 34, r 35, r 36, r 37, r 38, r 39, r 40, r 41, r 42, r 43, r 44, r 45, r 46, r 47, r 48, r 49, r 50, r 51, r 52, r 53, r 54, r 55, r 56, r 57, r 58, r 59, r 60, r 61, r 62, r 63, r 64, r 65, r 66, r 67, r 68, r 69, r 70, r 71, r 72, r 73, r 74, r 75, r 76, r 77, r 78, r 79, r 80, r 81, r 82, r 83, r 84, r 85, r 86, r 87, r 88, r 89, r 90, r 91, r 92, r 93, r 94, r 95, r 96, r 97, r 98, f2, .i .i64 q.outs.length, .i .i64 o, r 102, r 103, r 104, r 105, r 106, r 107, r 108, r 109, r 110, r 111, r 112, r 113, r 114, r 115, r 116, r 117, r 118, r 119, r 120, r 121, r 122, r 123, r 124, r 125, r 126, r 127, r 128, r 129, r 130, r 131, r 132, r 133, r 134, r 135, r 136, r 137, r 138, r 139, r 140]) ∧ L = LL ∧ 0 ≤ o ∧ o + k = q.outs.length)
        q.outs.length ⟨0, exJ rfl, rfl, by omega, by omega⟩ ?_
      rintro k a LL ⟨o, ⟨r, rfl⟩, rfl, h0, hk⟩ IH
      refine W ?_
      (first | refine LS_gt rfl ?_ ?_ | refine LS_gf rfl ?_ ?_ | refine LI_cond rfl ?_ ?_) <;> intro hc <;> have hc' := hc <;> try simp only [decide_eq_true_eq, decide_eq_false_iff_not, Bool.not_eq_true', Bool.not_eq_false', Bool.not_eq_true, Bool.not_eq_false, beq_iff_eq, bne_iff_ne, beq_eq_false_iff_ne, bne_eq_false_iff_eq, Int.not_lt, Int.not_le, ge_iff_le, gt_iff_lt, not_and, ne_eq, Decidable.not_not] at hc'
      all_goals (try (dsimp only [st, setL, AV.cells, List.set_cons_zero, List.set_cons_succ, List.drop_zero, List.drop_succ_cons, List.take_zero, List.take_succ_cons, Nat.zero_add, Nat.add_zero, Nat.reduceAdd, List.cons_append, List.nil_append, List.eraseIdx_cons_zero, List.eraseIdx_cons_succ]))
      all_goals (refine W ?_)
      · obtain ⟨u, hu, _, _⟩ := drop_at (l := us2') h0 (by omega)
        obtain ⟨v, hv, hvm, _⟩ := drop_at (l := q.outs) h0 hc'
        have hvb := out_in hkq hvm
        have hE := outE_get hv
        have hrl := exps_row kf k1 (v := v.toNat) hvb.2
        refine LS_ix (fun h' HL => (hF2 h' HL).outer) enV1 hu h0 rfl rfl fun q1 o1 hrow1 => ?_
        try (dsimp only [st, setL, AV.cells, List.set_cons_zero, List.set_cons_succ, List.drop_zero, List.drop_succ_cons, List.take_zero, List.take_succ_cons, Nat.zero_add, Nat.add_zero, Nat.reduceAdd, List.cons_append, List.nil_append, List.eraseIdx_cons_zero, List.eraseIdx_cons_succ])
        refine W ?_
        refine LIL_hv (fun h' HL => ((hF2 h' HL).row _ _ _ hu hE).len) fun hul => ?_
        refine LIL_ind (fun k a L => ∃ (i : Int), (∃ r : Nat → AV, a = [r 0, r 1, r 2, r 3, .b false, .p b5 0, r 6, r 7, r 8, r 9, r 10, f1, r 12, f2, r 14, f3, r 16, .i .i64 o, u, .i .i64 i, r 20, r 21, r 22, r 23, r 24, r 25, r 26, r 27, r 28, r 29, r 30, r 31, r 32, r 33, r 34, r 35, r 36, r 37, r 38, r 39, r 40, r 41, r 42, r 43, r 44, r 45, r 46, r 47, r 48, r 49, r 50, r 51, r 52, r 53, r 54, r 55, r 56, r 57, r 58, r 59, r 60, r 61, r 62, r 63, r 64, r 65, r 66, r 67, r 68, r 69, r 70, r 71, r 72, r 73, r 74, r 75, r 76, r 77, r 78, r 79, r 80, r 81, r 82, r 83, r 84, r 85, r 86, r 87, r 88, r 89, r 90, r 91, r 92, r 93, r 94, r 95, r 96, r 97, r 98, f2, .i .i64 q.outs.length, .i .i64 o, r 102, r 103, r 104, r 105, r 106, r 107, r 108, r 109, r 110, r 111, r 112, r 113, r 114, r 115, r 116, r 117, r 118, r 119, r 120, r 121, r 122, r 123, r 124, r 125, r 126, r 127, r 128, r 129, r 130, r 131, r 132, r 133, r 134, r 135, r 136, r 137, r 138, r 139, r 140]) ∧ L = LL ∧ 0 ≤ i ∧ i + k = p.n)
          p.n.toNat ⟨0, exJ rfl, rfl, by omega, by omega⟩ ?_
        rintro k' a LL ⟨i, ⟨r, rfl⟩, rfl, i0, hi⟩ IH2
        refine W ?_
        (first | refine LS_gt rfl ?_ ?_ | refine LS_gf rfl ?_ ?_ | refine LI_cond rfl ?_ ?_) <;> intro hc <;> have hc' := hc <;> try simp only [decide_eq_true_eq, decide_eq_false_iff_not, Bool.not_eq_true', Bool.not_eq_false', Bool.not_eq_true, Bool.not_eq_false, beq_iff_eq, bne_iff_ne, beq_eq_false_iff_ne, bne_eq_false_iff_eq, Int.not_lt, Int.not_le, ge_iff_le, gt_iff_lt, not_and, ne_eq, Decidable.not_not] at hc'
        all_goals (try (dsimp only [st, setL, AV.cells, List.set_cons_zero, List.set_cons_succ, List.drop_zero, List.drop_succ_cons, List.take_zero, List.take_succ_cons, Nat.zero_add, Nat.add_zero, Nat.reduceAdd, List.cons_append, List.nil_append, List.eraseIdx_cons_zero, List.eraseIdx_cons_succ]))
        all_goals (refine W ?_)
        · have hil : i.toNat < p.n.toNat := by omega
          have hcb : ∀ (j : Nat) (c : Int), (p.outs.map fun v => colE p i.toNat v.toNat)[j]? = some c → 0 ≤ c ∧ c ≤ 1000000 := by
            intro j c hc
            rw [List.getElem?_map] at hc
            obtain ⟨w, hw, rfl⟩ := Option.map_eq_some_iff.1 hc
            exact exps_bd hkp (out_in hkp (List.mem_of_getElem? hw)).2 hil
          refine LIL_ind (fun k a L => ∃ (n j : Int), (∃ r : Nat → AV, a = [r 0, r 1, r 2, r 3, .b false, .p b5 0, r 6, r 7, r 8, r 9, r 10, f1, r 12, f2, r 14, f3, r 16, .i .i64 o, u, .i .i64 i, .i .i64 n, r 21, r 22, r 23, r 24, r 25, r 26, r 27, r 28, r 29, r 30, r 31, r 32, r 33, r 34, r 35, r 36, r 37, r 38, r 39, r 40, r 41, r 42, r 43, r 44, r 45, r 46, r 47, r 48, r 49, r 50, r 51, r 52, r 53, r 54, r 55, r 56, r 57, r 58, r 59, r 60, r 61, r 62, r 63, r 64, r 65, r 66, r 67, r 68, r 69, r 70, r 71, r 72, r 73, r 74, r 75, r 76, r 77, r 78, r 79, r 80, r 81, r 82, r 83, r 84, r 85, r 86, r 87, r 88, r 89, r 90, r 91, r 92, r 93, r 94, r 95, r 96, r 97, r 98, f2, .i .i64 q.outs.length, .i .i64 o, r 102, r 103, r 104, r 105, r 106, r 107, r 108, r 109, r 110, r 111, u, .i .i64 ((expsE q).getD v.toNat []).length, .i .i64 j, r 115, r 116, r 117, r 118, r 119, r 120, r 121, r 122, r 123, r 124, r 125, r 126, r 127, r 128, r 129, r 130, r 131, r 132, r 133, r 134, r 135, r 136, r 137, r 138, r 139, r 140]) ∧ L = LL ∧ 0 ≤ j ∧ j + k = q.n ∧ 0 ≤ n ∧ n ≤ j * 1000000000000 ∧ n + dot (((expsE q).getD v.toNat []).drop j.toNat) ((p.outs.map fun v => colE p i.toNat v.toNat).drop j.toNat) = dot ((expsE q).getD v.toNat []) (p.outs.map fun v => colE p i.toNat v.toNat))
            q.n.toNat ⟨0, 0, exJ rfl, rfl, by omega, by omega, by omega, by omega, by simp⟩ ?_
          rintro k'' a LL ⟨n, j, ⟨r, rfl⟩, rfl, j0, hj, n0, n1, hn⟩ IH3
          refine W ?_
          (first | refine LS_gt rfl ?_ ?_ | refine LS_gf rfl ?_ ?_ | refine LI_cond rfl ?_ ?_) <;> intro hc <;> have hc' := hc <;> try simp only [decide_eq_true_eq, decide_eq_false_iff_not, Bool.not_eq_true', Bool.not_eq_false', Bool.not_eq_true, Bool.not_eq_false, beq_iff_eq, bne_iff_ne, beq_eq_false_iff_ne, bne_eq_false_iff_eq, Int.not_lt, Int.not_le, ge_iff_le, gt_iff_lt, not_and, ne_eq, Decidable.not_not] at hc'
          all_goals (try (dsimp only [st, setL, AV.cells, List.set_cons_zero, List.set_cons_succ, List.drop_zero, List.drop_succ_cons, List.take_zero, List.take_succ_cons, Nat.zero_add, Nat.add_zero, Nat.reduceAdd, List.cons_append, List.nil_append, List.eraseIdx_cons_zero, List.eraseIdx_cons_succ]))
          all_goals (refine W ?_)
          · have hj2 : j.toNat < q.n.toNat := by omega
            obtain ⟨e, he, _, _⟩ := drop_at (l := (expsE q).getD v.toNat []) j0 hc'
            obtain ⟨w, hw, hwm, _⟩ := drop_at (l := p.outs) j0 (by omega)
            obtain ⟨u1, hv1, _, _⟩ := drop_at (l := us1) j0 (by omega)
            have hwb := out_in hkp hwm
            have hc2 : (p.outs.map fun v => colE p i.toNat v.toNat)[j.toNat]? = some (colE p i.toNat w.toNat) := by rw [List.getElem?_map, hw]; rfl
            have hcb2 := hcb _ _ hc2
            have heb := exps_bd hkq hvb.2 hj2
            have hee : ((expsE q).getD v.toNat []).getD j.toNat 0 = e := by rw [List.getD, he]; rfl
            rw [hee] at heb
            rw [dot_drop he hc2] at hn
            have hm0 : 0 ≤ e * colE p i.toNat w.toNat := Int.mul_nonneg heb.1 hcb2.1
            have hm1 : e * colE p i.toNat w.toNat ≤ 1000000 * 1000000 := Int.mul_le_mul heb.2 hcb2.2 hcb2.1 (by omega)
            refine LS_ix (fun h' HL => (hF2 h' HL).row _ _ _ hu hE) enI1 he j0 rfl rfl fun q2 o2 hrow2 => ?_
            try (dsimp only [st, setL, AV.cells, List.set_cons_zero, List.set_cons_succ, List.drop_zero, List.drop_succ_cons, List.take_zero, List.take_succ_cons, Nat.zero_add, Nat.add_zero, Nat.reduceAdd, List.cons_append, List.nil_append, List.eraseIdx_cons_zero, List.eraseIdx_cons_succ])
            refine W ?_
            refine LS_ix (fun h' HL => (hF1 h' HL).outer) enV1 hv1 j0 rfl rfl fun q3 o3 hrow3 => ?_
            try (dsimp only [st, setL, AV.cells, List.set_cons_zero, List.set_cons_succ, List.drop_zero, List.drop_succ_cons, List.take_zero, List.take_succ_cons, Nat.zero_add, Nat.add_zero, Nat.reduceAdd, List.cons_append, List.nil_append, List.eraseIdx_cons_zero, List.eraseIdx_cons_succ])
            refine W ?_
            refine LS_ix (fun h' HL => (hF1 h' HL).row _ _ _ hv1 (outE_get hw)) enI1 (row_get2 hkp hwb.2 hil) i0 rfl rfl fun q4 o4 hrow4 => ?_
            try (dsimp only [st, setL, AV.cells, List.set_cons_zero, List.set_cons_succ, List.drop_zero, List.drop_succ_cons, List.take_zero, List.take_succ_cons, Nat.zero_add, Nat.add_zero, Nat.reduceAdd, List.cons_append, List.nil_append, List.eraseIdx_cons_zero, List.eraseIdx_cons_succ])
            refine W ?_
            refine IH3 (k'' - 1) _ _ (by omega) ⟨n + e * colE p i.toNat w.toNat, j + 1, exJ rfl, rfl, by omega, by omega, by omega, by omega, by rw [toNat_succ j0]; omega⟩
          · have hnd := hn
            rw [dot_nil (by omega)] at hnd
            obtain ⟨w, w1, w2, w3, w4⟩ := comp_exps (p := p) (q := q) hO hil v.toNat hvb.2
            obtain ⟨u3, hv3, _, _⟩ := drop_at (l := us3) h0 (by omega)
            have hw3 : (compQ p q).outs[o.toNat]? = some w := by
              rw [show (compQ p q).outs = pickM (thenM p.n p.steps p.outs q.steps).2 q.outs from rfl, pickM_get hob hv]; exact w1
            refine LS_ix (fun h' HL => (hF3 h' HL).outer) enV1 hv3 h0 rfl rfl fun q2 o2 hrow2 => ?_
            try (dsimp only [st, setL, AV.cells, List.set_cons_zero, List.set_cons_succ, List.drop_zero, List.drop_succ_cons, List.take_zero, List.take_succ_cons, Nat.zero_add, Nat.add_zero, Nat.reduceAdd, List.cons_append, List.nil_append, List.eraseIdx_cons_zero, List.eraseIdx_cons_succ])
            refine W ?_
            refine LS_ix (fun h' HL => (hF3 h' HL).row _ _ _ hv3 (outE_get hw3)) enI1 (row_get2 hkc (v := w.toNat) (i := i.toNat) (by show w.toNat < p.n.toNat + _; omega) hil) i0 rfl rfl fun q3 o3 hrow3 => ?_
            try (dsimp only [st, setL, AV.cells, List.set_cons_zero, List.set_cons_succ, List.drop_zero, List.drop_succ_cons, List.take_zero, List.take_succ_cons, Nat.zero_add, Nat.add_zero, Nat.reduceAdd, List.cons_append, List.nil_append, List.eraseIdx_cons_zero, List.eraseIdx_cons_succ])
            refine W ?_
            first | (refine LS_gtnH rfl (by rw [w4, ← hnd]; simp) ?_; intro hg; try (dsimp only [st, setL, AV.cells, List.set_cons_zero, List.set_cons_succ, List.drop_zero, List.drop_succ_cons, List.take_zero, List.take_succ_cons, Nat.zero_add, Nat.add_zero, Nat.reduceAdd, List.cons_append, List.nil_append, List.eraseIdx_cons_zero, List.eraseIdx_cons_succ])) | (refine LS_gfnH rfl (by rw [w4, ← hnd]; simp) ?_; intro hg; try (dsimp only [st, setL, AV.cells, List.set_cons_zero, List.set_cons_succ, List.drop_zero, List.drop_succ_cons, List.take_zero, List.take_succ_cons, Nat.zero_add, Nat.add_zero, Nat.reduceAdd, List.cons_append, List.nil_append, List.eraseIdx_cons_zero, List.eraseIdx_cons_succ])) | (refine LI_cond_fH rfl (by rw [w4, ← hnd]; simp) ?_; intro hg)
            refine W ?_
            refine IH2 (k' - 1) _ _ (by omega) ⟨i + 1, exJ rfl, rfl, by omega, by omega⟩
        · refine IH (k - 1) _ _ (by omega) ⟨o + 1, exJ rfl, rfl, by omega, by omega⟩
      · refine RET fun h' HL => ?_
        try dsimp only [oneA]
end Go.Proofs.Ytdcliofmdlhmaaa
