/- The walk of the law FnFactorsCost, part 2: what each function that it reaches computes. -/
import Derived.Test.YtdcliofmdlhmaaaXFnFactorsCosta
namespace Go.Proofs.Ytdcliofmdlhmaaa
open Go.AL
set_option linter.unusedVariables false
set_option linter.unusedSimpArgs false
set_option maxRecDepth 100000
set_option maxHeartbeats 1000000
attribute [local irreducible] AS AI AIL OpR AC CW AWP ALoop LS LI LIL LThen LLoop LBlk LRet Lh AX OpV OpF

theorem implFC_t (n : Int) (hn : 1 ≤ n ∧ n ≤ 1000000) (h : AH) : AC Try.prog 18 [.i .i64 n] h (fun r h' => r = .tup [.i .i64 (facC n.toNat), .b true] ∧ h.le h') := by
  have H := implFactorCost_ac n h
  rw [facQ_len hn, facOk_t hn] at H
  exact H

theorem implLF_t (n : Int) (hn : 2 ≤ n ∧ n ≤ 1000000) (h : AH) : AC Try.prog 21 [.i .i64 n] h (fun r h' => r = .tup [.i .i64 ((leastN n.toNat : Nat) : Int), .b true] ∧ h.le h') := by
  have H := LeastFactor_ac n h
  rw [if_pos hn, decide_eq_true hn] at H
  exact H

theorem lawFnFactorsCost_ac (c1 : List Int) (v1 : AV) (c2 : List Int) (v2 : AV) (h : AH) (hR1 : RdG 1 enU h v1 c1) (w1 : ∀ n ∈ c1, (Lit.int .u8 n).wf = true) (m1 : c1.length ≤ maxLen) (hR2 : RdG 1 enU h v2 c2) (w2 : ∀ n ∈ c2, (Lit.int .u8 n).wf = true) (m2 : c2.length ≤ maxLen) :
    AC Try.prog 5 [v1, v2] h (fun r h' => r = .b true) := by
  have b1 := bytes_in w1
  have q1 : c1.length ≤ 9223372036854775807 := m1
  have q2 : c2.length ≤ 9223372036854775807 := m2
  refine e5 _ _ fun wf => ?_
  unfold c5
  refine LI_start wf ?_
  refine W ?_
  refine LS_c0 (fun h' HL wf => big_ac c1 c2 v1 v2 h' (hR1.le HL.le) (hR2.le HL.le) q1 q2) rfl rfl ?_
  try (dsimp only [st, setL, AV.cells, List.set_cons_zero, List.set_cons_succ, List.drop_zero, List.drop_succ_cons, List.take_zero, List.take_succ_cons, Nat.zero_add, Nat.add_zero, Nat.reduceAdd, List.cons_append, List.nil_append, List.eraseIdx_cons_zero, List.eraseIdx_cons_succ])
  refine W ?_
  (first | refine LS_gt rfl ?_ ?_ | refine LS_gf rfl ?_ ?_ | refine LI_cond rfl ?_ ?_) <;> intro hc <;> have hc' := hc <;> try simp only [decide_eq_true_eq, decide_eq_false_iff_not, Bool.not_eq_true', Bool.not_eq_false', Bool.not_eq_true, Bool.not_eq_false, beq_iff_eq, bne_iff_ne, beq_eq_false_iff_ne, bne_eq_false_iff_eq, Int.not_lt, Int.not_le, ge_iff_le, gt_iff_lt, not_and, ne_eq, Decidable.not_not] at hc'
  all_goals (try (dsimp only [st, setL, AV.cells, List.set_cons_zero, List.set_cons_succ, List.drop_zero, List.drop_succ_cons, List.take_zero, List.take_succ_cons, Nat.zero_add, Nat.add_zero, Nat.reduceAdd, List.cons_append, List.nil_append, List.eraseIdx_cons_zero, List.eraseIdx_cons_succ]))
  all_goals (refine W ?_)
  · refine RET fun h' HL => ?_
    try dsimp only [oneA]
  · refine LS_cq (fun h' HL wf => DrawFactorCost_ac c1 v1 h' (hR1.le HL.le) b1) rfl rfl ?_
    try (dsimp only [st, setL, AV.cells, List.set_cons_zero, List.set_cons_succ, List.drop_zero, List.drop_succ_cons, List.take_zero, List.take_succ_cons, Nat.zero_add, Nat.add_zero, Nat.reduceAdd, List.cons_append, List.nil_append, List.eraseIdx_cons_zero, List.eraseIdx_cons_succ])
    refine W ?_
    rintro _ ⟨n, rfl, hn⟩
    try (dsimp only [st, setL, AV.cells, List.set_cons_zero, List.set_cons_succ, List.drop_zero, List.drop_succ_cons, List.take_zero, List.take_succ_cons, Nat.zero_add, Nat.add_zero, Nat.reduceAdd, List.cons_append, List.nil_append, List.eraseIdx_cons_zero, List.eraseIdx_cons_succ])
    refine W ?_
    refine LS_c0 (fun h' HL wf => implFactorCost_ac n h') rfl rfl ?_
    try (dsimp only [st, setL, AV.cells, List.set_cons_zero, List.set_cons_succ, List.drop_zero, List.drop_succ_cons, List.take_zero, List.take_succ_cons, Nat.zero_add, Nat.add_zero, Nat.reduceAdd, List.cons_append, List.nil_append, List.eraseIdx_cons_zero, List.eraseIdx_cons_succ])
    refine W ?_
    refine LS_c0 (fun h' HL wf => specFactorCost_ac n h') rfl rfl ?_
    try (dsimp only [st, setL, AV.cells, List.set_cons_zero, List.set_cons_succ, List.drop_zero, List.drop_succ_cons, List.take_zero, List.take_succ_cons, Nat.zero_add, Nat.add_zero, Nat.reduceAdd, List.cons_append, List.nil_append, List.eraseIdx_cons_zero, List.eraseIdx_cons_succ])
    refine W ?_
    first | (refine LS_gyH rfl (by simp) ?_; intro hg) | (refine LI_cond_tH rfl (by simp) ?_; intro hg)
    refine W ?_
    first | (refine LS_gtnH rfl (by simp) ?_; intro hg; try (dsimp only [st, setL, AV.cells, List.set_cons_zero, List.set_cons_succ, List.drop_zero, List.drop_succ_cons, List.take_zero, List.take_succ_cons, Nat.zero_add, Nat.add_zero, Nat.reduceAdd, List.cons_append, List.nil_append, List.eraseIdx_cons_zero, List.eraseIdx_cons_succ])) | (refine LS_gfnH rfl (by simp) ?_; intro hg; try (dsimp only [st, setL, AV.cells, List.set_cons_zero, List.set_cons_succ, List.drop_zero, List.drop_succ_cons, List.take_zero, List.take_succ_cons, Nat.zero_add, Nat.add_zero, Nat.reduceAdd, List.cons_append, List.nil_append, List.eraseIdx_cons_zero, List.eraseIdx_cons_succ])) | (refine LI_cond_fH rfl (by simp) ?_; intro hg)
    refine W ?_
    cases hp : facOk n
    · first | (refine LS_gyH rfl (rfl) ?_; intro hg) | (refine LI_cond_tH rfl (rfl) ?_; intro hg)
      refine W ?_
      refine RET fun h' HL => ?_
      try dsimp only [oneA]
    · have hnb := of_decide_eq_true hp
      first | (refine LS_gtnH rfl (rfl) ?_; intro hg; try (dsimp only [st, setL, AV.cells, List.set_cons_zero, List.set_cons_succ, List.drop_zero, List.drop_succ_cons, List.take_zero, List.take_succ_cons, Nat.zero_add, Nat.add_zero, Nat.reduceAdd, List.cons_append, List.nil_append, List.eraseIdx_cons_zero, List.eraseIdx_cons_succ])) | (refine LS_gfnH rfl (rfl) ?_; intro hg; try (dsimp only [st, setL, AV.cells, List.set_cons_zero, List.set_cons_succ, List.drop_zero, List.drop_succ_cons, List.take_zero, List.take_succ_cons, Nat.zero_add, Nat.add_zero, Nat.reduceAdd, List.cons_append, List.nil_append, List.eraseIdx_cons_zero, List.eraseIdx_cons_succ])) | (refine LI_cond_fH rfl (rfl) ?_; intro hg)
      refine W ?_
      rw [facQ_len hnb]
      by_cases h1 : n = 1
      · have hlf := fun (h' : AH) => LeastFactor_ac n h'
        rw [decide_eq_false (by omega)] at hlf
        refine LS_c0 (fun h' HL wf => hlf h') rfl rfl ?_
        try (dsimp only [st, setL, AV.cells, List.set_cons_zero, List.set_cons_succ, List.drop_zero, List.drop_succ_cons, List.take_zero, List.take_succ_cons, Nat.zero_add, Nat.add_zero, Nat.reduceAdd, List.cons_append, List.nil_append, List.eraseIdx_cons_zero, List.eraseIdx_cons_succ])
        refine W ?_
        subst h1
        first | (refine LS_gyH rfl (rfl) ?_; intro hg) | (refine LI_cond_tH rfl (rfl) ?_; intro hg)
        refine W ?_
        refine RET fun h' HL => ?_
        try dsimp only [oneA]
        rfl
      · have hn2 : 2 ≤ n ∧ n ≤ 1000000 := by omega
        have hz : n = ((n.toNat : Nat) : Int) := by omega
        refine LS_c0 (fun h' HL wf => implLF_t n hn2 h') rfl rfl ?_
        try (dsimp only [st, setL, AV.cells, List.set_cons_zero, List.set_cons_succ, List.drop_zero, List.drop_succ_cons, List.take_zero, List.take_succ_cons, Nat.zero_add, Nat.add_zero, Nat.reduceAdd, List.cons_append, List.nil_append, List.eraseIdx_cons_zero, List.eraseIdx_cons_succ])
        refine W ?_
        by_cases hL : leastN n.toNat = n.toNat
        · first | (refine LS_gyH rfl (by exact beq_iff_eq.2 (by omega)) ?_; intro hg) | (refine LI_cond_tH rfl (by exact beq_iff_eq.2 (by omega)) ?_; intro hg)
          refine W ?_
          have hc := facC_prime (by omega) hL
          have hg : facC (n.toNat - 1) ≤ 39 := facGl (facP_ok (n.toNat - 1) (n.toNat - 1) (by omega) (Nat.le_refl _)) (by omega)
          refine LS_c0 (fun h' HL wf => by have H := implFC_t (n - 1) (by omega) h'; rw [show (n - 1).toNat = n.toNat - 1 by omega] at H; exact H) rfl rfl ?_
          try (dsimp only [st, setL, AV.cells, List.set_cons_zero, List.set_cons_succ, List.drop_zero, List.drop_succ_cons, List.take_zero, List.take_succ_cons, Nat.zero_add, Nat.add_zero, Nat.reduceAdd, List.cons_append, List.nil_append, List.eraseIdx_cons_zero, List.eraseIdx_cons_succ])
          refine W ?_
          refine RET fun h' HL => ?_
          try dsimp only [oneA]
          rw [hc]
          simp [oneA]
        · first | (refine LS_gtnH rfl (by exact beq_eq_false_iff_ne.2 (by omega)) ?_; intro hg; try (dsimp only [st, setL, AV.cells, List.set_cons_zero, List.set_cons_succ, List.drop_zero, List.drop_succ_cons, List.take_zero, List.take_succ_cons, Nat.zero_add, Nat.add_zero, Nat.reduceAdd, List.cons_append, List.nil_append, List.eraseIdx_cons_zero, List.eraseIdx_cons_succ])) | (refine LS_gfnH rfl (by exact beq_eq_false_iff_ne.2 (by omega)) ?_; intro hg; try (dsimp only [st, setL, AV.cells, List.set_cons_zero, List.set_cons_succ, List.drop_zero, List.drop_succ_cons, List.take_zero, List.take_succ_cons, Nat.zero_add, Nat.add_zero, Nat.reduceAdd, List.cons_append, List.nil_append, List.eraseIdx_cons_zero, List.eraseIdx_cons_succ])) | (refine LI_cond_fH rfl (by exact beq_eq_false_iff_ne.2 (by omega)) ?_; intro hg)
          refine W ?_
          have hc := facC_mul (by omega) hL
          obtain ⟨f1, f2, f3⟩ := (leastF_ok n.toNat n.toNat 2 (by omega) (by omega)).resolve_left hL
          rw [show leastF n.toNat 2 n.toNat = leastN n.toNat from rfl] at f1 f2 f3
          have hq0 : 1 ≤ n.toNat / leastN n.toNat := Nat.div_pos (by omega) (by omega)
          have hq1 : n.toNat / leastN n.toNat < n.toNat := Nat.div_lt_self (by omega) f1
          have g1 : facC (leastN n.toNat) ≤ 39 := facGl (facP_ok _ _ (by omega) (Nat.le_refl _)) (by omega)
          have g2 : facC (n.toNat / leastN n.toNat) ≤ 39 := facGl (facP_ok _ _ hq0 (Nat.le_refl _)) (by omega)
          have hid := leastN_idem (n := n.toNat) (by omega)
          have hdv : IntKind.i64.wrap (n.tdiv (leastN n.toNat : Nat)) = ((n.toNat / leastN n.toNat : Nat) : Int) := by
            conv => lhs; rw [hz]
            rw [show ((n.toNat : Nat) : Int).tdiv (leastN ((n.toNat : Nat) : Int).toNat : Nat) = ((n.toNat / leastN n.toNat : Nat) : Int) from rfl]
            exact IntWalk.i64_in _ (by omega)
          have hmd : n.tmod (leastN n.toNat : Nat) = 0 := by
            conv => lhs; rw [hz]
            rw [show ((n.toNat : Nat) : Int).tmod (leastN ((n.toNat : Nat) : Int).toNat : Nat) = ((n.toNat % leastN n.toNat : Nat) : Int) from rfl, f3]
            rfl
          refine LS_c0 (fun h' HL wf => implFC_t ((leastN n.toNat : Nat) : Int) (by omega) h') rfl rfl ?_
          try (dsimp only [st, setL, AV.cells, List.set_cons_zero, List.set_cons_succ, List.drop_zero, List.drop_succ_cons, List.take_zero, List.take_succ_cons, Nat.zero_add, Nat.add_zero, Nat.reduceAdd, List.cons_append, List.nil_append, List.eraseIdx_cons_zero, List.eraseIdx_cons_succ])
          refine W ?_
          refine LS_v (OpV_quo rfl rfl (by omega)) ?_
          try (dsimp only [st, setL, AV.cells, List.set_cons_zero, List.set_cons_succ, List.drop_zero, List.drop_succ_cons, List.take_zero, List.take_succ_cons, Nat.zero_add, Nat.add_zero, Nat.reduceAdd, List.cons_append, List.nil_append, List.eraseIdx_cons_zero, List.eraseIdx_cons_succ])
          refine W ?_
          rw [hdv]
          refine LS_c0 (fun h' HL wf => implFC_t ((n.toNat / leastN n.toNat : Nat) : Int) (by omega) h') rfl rfl ?_
          try (dsimp only [st, setL, AV.cells, List.set_cons_zero, List.set_cons_succ, List.drop_zero, List.drop_succ_cons, List.take_zero, List.take_succ_cons, Nat.zero_add, Nat.add_zero, Nat.reduceAdd, List.cons_append, List.nil_append, List.eraseIdx_cons_zero, List.eraseIdx_cons_succ])
          refine W ?_
          refine LS_c0 (fun h' HL wf => implLF_t ((leastN n.toNat : Nat) : Int) (by omega) h') rfl rfl ?_
          try (dsimp only [st, setL, AV.cells, List.set_cons_zero, List.set_cons_succ, List.drop_zero, List.drop_succ_cons, List.take_zero, List.take_succ_cons, Nat.zero_add, Nat.add_zero, Nat.reduceAdd, List.cons_append, List.nil_append, List.eraseIdx_cons_zero, List.eraseIdx_cons_succ])
          refine W ?_
          refine LS_v (OpV_rem rfl rfl (by omega)) ?_
          try (dsimp only [st, setL, AV.cells, List.set_cons_zero, List.set_cons_succ, List.drop_zero, List.drop_succ_cons, List.take_zero, List.take_succ_cons, Nat.zero_add, Nat.add_zero, Nat.reduceAdd, List.cons_append, List.nil_append, List.eraseIdx_cons_zero, List.eraseIdx_cons_succ])
          refine W ?_
          rw [hmd]
          first | (refine LS_gyH rfl (rfl) ?_; intro hg) | (refine LI_cond_tH rfl (rfl) ?_; intro hg)
          refine W ?_
          first | (refine LS_gyH rfl (decide_eq_true (by omega)) ?_; intro hg) | (refine LI_cond_tH rfl (decide_eq_true (by omega)) ?_; intro hg)
          refine W ?_
          simp only [Int.toNat_natCast, hid]
          first | (refine LS_gyH rfl (by simp) ?_; intro hg) | (refine LI_cond_tH rfl (by simp) ?_; intro hg)
          refine W ?_
          refine RET fun h' HL => ?_
          try dsimp only [oneA]
          rw [hc]
          simp [oneA]
end Go.Proofs.Ytdcliofmdlhmaaa
