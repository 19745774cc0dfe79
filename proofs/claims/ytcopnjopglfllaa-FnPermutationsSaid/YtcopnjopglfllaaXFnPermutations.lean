/- The walk of the law FnPermutations, part 1: what each function that it reaches computes. -/
import Derived.Test.YtcopnjopglfllaaCFnPermutations
namespace Go.Proofs.Ytcopnjopglfllaa
open Go.AL
set_option linter.unusedVariables false
set_option linter.unusedSimpArgs false
set_option maxRecDepth 100000
set_option maxHeartbeats 1000000
attribute [local irreducible] AS AI AIL OpR AC CW AWP ALoop LS LI LIL LThen LLoop LBlk LRet Lh AX OpV OpF

theorem nf {b : Bool} (h : (!b) = false) : b = true := by cases b <;> simp_all

theorem nt {b : Bool} (h : (!b) = true) : b = false := by cases b <;> simp_all

theorem in_ac (n lo hi : Int) (h : AH) : AC Try.prog 49 [.i .i64 n, .i .i64 lo, .i .i64 hi] h (fun v h' => v = .b (decide (lo ≤ n ∧ n ≤ hi)) ∧ h = h') := by
  refine e49 _ _ _ fun wf => ?_
  unfold c49
  repeat (first | refine AI_seqk fun K hK => ?_ | refine AI_reg ?_ | ((first | refine wmv rfl ?_ | refine wag rfl ?_ | refine war _ rfl rfl rfl (by omega) (by omega) ?_ | refine wbn rfl rfl rfl ?_ | refine wnt rfl ?_ | refine wex rfl rfl ?_ | refine wpt rfl (by first | assumption | with_reducible rfl) rfl ?_ | refine wpf rfl (by first | assumption | with_reducible rfl) rfl ?_ | refine wpb rfl rfl rfl ?_ | refine wmf rfl ?_ | refine wnc rfl ?_ | refine wbq Try.underlying4 rfl rfl _ (.inr ⟨rfl, rfl⟩) ?_ | refine wbq Try.underlying4 rfl rfl _ (.inl ⟨rfl, rfl⟩) ?_); try dsimp only [st, List.set_cons_zero, List.set_cons_succ]) | ((first | refine AS_nil ?_ | refine AI_skip ?_ | refine AI_exit ?_); try simp only [AThen, ABlk, reduceIte, reduceCtorEq]) | ((first | refine hK _ _ ?_ | ((first | clear hK K | clear IH hK K); refine hK _ _ ?_) | ((first | clear hK K | clear IH hK K); (first | clear hK K | clear IH hK K); refine hK _ _ ?_) | ((first | clear hK K | clear IH hK K); (first | clear hK K | clear IH hK K); (first | clear hK K | clear IH hK K); refine hK _ _ ?_)); try (first | clear hK K | clear IH hK K)) | refine AI_cond_t rfl (by first | assumption | with_reducible rfl) ?_ | refine AI_cond_f rfl (by first | assumption | with_reducible rfl) ?_ | refine AS_gy rfl (by first | assumption | with_reducible rfl) ?_ | refine AS_gtn rfl (by first | assumption | with_reducible rfl) ?_ | refine AS_gfn rfl (by first | assumption | with_reducible rfl) ?_ | refine AI_block (AI_loop ?_) | refine AI_block ?_ | refine AI_ret ⟨_, rfl, ?_⟩)
  (first | refine AS_gt rfl ?_ ?_ | refine AS_gf rfl ?_ ?_ | refine AI_cond rfl ?_ ?_) <;> intro hc <;> have hc' := hc <;> try simp only [decide_eq_true_eq, decide_eq_false_iff_not, Bool.not_eq_true', Bool.not_eq_false', Bool.not_eq_true, Bool.not_eq_false, beq_iff_eq, bne_iff_ne, beq_eq_false_iff_ne, bne_eq_false_iff_eq, Int.not_lt, Int.not_le, ge_iff_le, gt_iff_lt, not_and, ne_eq, Decidable.not_not] at hc'
  all_goals
    repeat (first | refine AI_seqk fun K hK => ?_ | refine AI_reg ?_ | ((first | refine wmv rfl ?_ | refine wag rfl ?_ | refine war _ rfl rfl rfl (by omega) (by omega) ?_ | refine wbn rfl rfl rfl ?_ | refine wnt rfl ?_ | refine wex rfl rfl ?_ | refine wpt rfl (by first | assumption | with_reducible rfl) rfl ?_ | refine wpf rfl (by first | assumption | with_reducible rfl) rfl ?_ | refine wpb rfl rfl rfl ?_ | refine wmf rfl ?_ | refine wnc rfl ?_ | refine wbq Try.underlying4 rfl rfl _ (.inr ⟨rfl, rfl⟩) ?_ | refine wbq Try.underlying4 rfl rfl _ (.inl ⟨rfl, rfl⟩) ?_); try dsimp only [st, List.set_cons_zero, List.set_cons_succ]) | ((first | refine AS_nil ?_ | refine AI_skip ?_ | refine AI_exit ?_); try simp only [AThen, ABlk, reduceIte, reduceCtorEq]) | ((first | refine hK _ _ ?_ | ((first | clear hK K | clear IH hK K); refine hK _ _ ?_) | ((first | clear hK K | clear IH hK K); (first | clear hK K | clear IH hK K); refine hK _ _ ?_) | ((first | clear hK K | clear IH hK K); (first | clear hK K | clear IH hK K); (first | clear hK K | clear IH hK K); refine hK _ _ ?_)); try (first | clear hK K | clear IH hK K)) | refine AI_cond_t rfl (by first | assumption | with_reducible rfl) ?_ | refine AI_cond_f rfl (by first | assumption | with_reducible rfl) ?_ | refine AS_gy rfl (by first | assumption | with_reducible rfl) ?_ | refine AS_gtn rfl (by first | assumption | with_reducible rfl) ?_ | refine AS_gfn rfl (by first | assumption | with_reducible rfl) ?_ | refine AI_block (AI_loop ?_) | refine AI_block ?_ | refine AI_ret ⟨_, rfl, ?_⟩)
  · exact ⟨by simp [hc', oneA], rfl⟩
  · exact ⟨by first | (simp [oneA, hc']; done) | (simp [oneA, hc']; omega), rfl⟩

theorem l1In_ac (n lo hi : Int) (h : AH) : AC Try.prog 76 [.i .i64 n, .i .i64 lo, .i .i64 hi] h (fun v h' => v = .b (decide (lo ≤ n ∧ n ≤ hi)) ∧ h = h') := by
  refine e76 _ _ _ fun wf => ?_
  unfold c76
  repeat (first | refine AI_seqk fun K hK => ?_ | refine AI_reg ?_ | ((first | refine wmv rfl ?_ | refine wag rfl ?_ | refine war _ rfl rfl rfl (by omega) (by omega) ?_ | refine wbn rfl rfl rfl ?_ | refine wnt rfl ?_ | refine wex rfl rfl ?_ | refine wpt rfl (by first | assumption | with_reducible rfl) rfl ?_ | refine wpf rfl (by first | assumption | with_reducible rfl) rfl ?_ | refine wpb rfl rfl rfl ?_ | refine wmf rfl ?_ | refine wnc rfl ?_ | refine wbq Try.underlying4 rfl rfl _ (.inr ⟨rfl, rfl⟩) ?_ | refine wbq Try.underlying4 rfl rfl _ (.inl ⟨rfl, rfl⟩) ?_); try dsimp only [st, List.set_cons_zero, List.set_cons_succ]) | ((first | refine AS_nil ?_ | refine AI_skip ?_ | refine AI_exit ?_); try simp only [AThen, ABlk, reduceIte, reduceCtorEq]) | ((first | refine hK _ _ ?_ | ((first | clear hK K | clear IH hK K); refine hK _ _ ?_) | ((first | clear hK K | clear IH hK K); (first | clear hK K | clear IH hK K); refine hK _ _ ?_) | ((first | clear hK K | clear IH hK K); (first | clear hK K | clear IH hK K); (first | clear hK K | clear IH hK K); refine hK _ _ ?_)); try (first | clear hK K | clear IH hK K)) | refine AI_cond_t rfl (by first | assumption | with_reducible rfl) ?_ | refine AI_cond_f rfl (by first | assumption | with_reducible rfl) ?_ | refine AS_gy rfl (by first | assumption | with_reducible rfl) ?_ | refine AS_gtn rfl (by first | assumption | with_reducible rfl) ?_ | refine AS_gfn rfl (by first | assumption | with_reducible rfl) ?_ | refine AI_block (AI_loop ?_) | refine AI_block ?_ | refine AI_ret ⟨_, rfl, ?_⟩)
  (first | refine AS_gt rfl ?_ ?_ | refine AS_gf rfl ?_ ?_ | refine AI_cond rfl ?_ ?_) <;> intro hc <;> have hc' := hc <;> try simp only [decide_eq_true_eq, decide_eq_false_iff_not, Bool.not_eq_true', Bool.not_eq_false', Bool.not_eq_true, Bool.not_eq_false, beq_iff_eq, bne_iff_ne, beq_eq_false_iff_ne, bne_eq_false_iff_eq, Int.not_lt, Int.not_le, ge_iff_le, gt_iff_lt, not_and, ne_eq, Decidable.not_not] at hc'
  all_goals
    repeat (first | refine AI_seqk fun K hK => ?_ | refine AI_reg ?_ | ((first | refine wmv rfl ?_ | refine wag rfl ?_ | refine war _ rfl rfl rfl (by omega) (by omega) ?_ | refine wbn rfl rfl rfl ?_ | refine wnt rfl ?_ | refine wex rfl rfl ?_ | refine wpt rfl (by first | assumption | with_reducible rfl) rfl ?_ | refine wpf rfl (by first | assumption | with_reducible rfl) rfl ?_ | refine wpb rfl rfl rfl ?_ | refine wmf rfl ?_ | refine wnc rfl ?_ | refine wbq Try.underlying4 rfl rfl _ (.inr ⟨rfl, rfl⟩) ?_ | refine wbq Try.underlying4 rfl rfl _ (.inl ⟨rfl, rfl⟩) ?_); try dsimp only [st, List.set_cons_zero, List.set_cons_succ]) | ((first | refine AS_nil ?_ | refine AI_skip ?_ | refine AI_exit ?_); try simp only [AThen, ABlk, reduceIte, reduceCtorEq]) | ((first | refine hK _ _ ?_ | ((first | clear hK K | clear IH hK K); refine hK _ _ ?_) | ((first | clear hK K | clear IH hK K); (first | clear hK K | clear IH hK K); refine hK _ _ ?_) | ((first | clear hK K | clear IH hK K); (first | clear hK K | clear IH hK K); (first | clear hK K | clear IH hK K); refine hK _ _ ?_)); try (first | clear hK K | clear IH hK K)) | refine AI_cond_t rfl (by first | assumption | with_reducible rfl) ?_ | refine AI_cond_f rfl (by first | assumption | with_reducible rfl) ?_ | refine AS_gy rfl (by first | assumption | with_reducible rfl) ?_ | refine AS_gtn rfl (by first | assumption | with_reducible rfl) ?_ | refine AS_gfn rfl (by first | assumption | with_reducible rfl) ?_ | refine AI_block (AI_loop ?_) | refine AI_block ?_ | refine AI_ret ⟨_, rfl, ?_⟩)
  · exact ⟨by simp [hc', oneA], rfl⟩
  · exact ⟨by first | (simp [oneA, hc']; done) | (simp [oneA, hc']; omega), rfl⟩

theorem drop_at {α : Type} {l : List α} {i : Int} (h0 : 0 ≤ i) (h1 : i < l.length) : ∃ y, l[i.toNat]? = some y ∧ y ∈ l ∧ l.drop i.toNat = y :: l.drop (i.toNat + 1) := by
  have hlt : i.toNat < l.length := by omega
  exact ⟨l[i.toNat], List.getElem?_eq_getElem hlt, List.getElem_mem hlt, List.drop_eq_getElem_cons hlt⟩

theorem toNat_succ {i : Int} (h0 : 0 ≤ i) : (i + 1).toNat = i.toNat + 1 := by omega

/-! ### The cursor that draws arguments: what it hands back, within bounds -/
def enU (n : Int) : List AV := [.i .u8 n]

theorem enU1 (x : Int) : (enU x).length = 1 := rfl

theorem and255 (x : Int) : 0 ≤ IntKind.i64.wrap (IntKind.u64.wrap (BitVec.ofInt IntKind.u64.bits x &&& BitVec.ofInt IntKind.u64.bits 255).toNat) ∧ IntKind.i64.wrap (IntKind.u64.wrap (BitVec.ofInt IntKind.u64.bits x &&& BitVec.ofInt IntKind.u64.bits 255).toNat) ≤ 255 := by
  have h : (BitVec.ofInt IntKind.u64.bits x &&& BitVec.ofInt IntKind.u64.bits 255).toNat ≤ 255 := by
    rw [BitVec.toNat_and]
    exact Nat.le_trans Nat.and_le_right (by decide)
  generalize (BitVec.ofInt IntKind.u64.bits x &&& BitVec.ofInt IntKind.u64.bits 255).toNat = k at *
  rw [IntWalk.u64_in _ (by omega), IntWalk.i64_in _ (by omega)]
  omega

theorem next_ac (bc : Nat) (cv : AV) (l : List Int) (ct sd : Int) (h0 h : AH) (L : List It) (HL : Loq h0 h (.pt bc [cv, .i .i64 ct, .i .u64 sd] :: L)) (hcv : RdG 1 enU h0 cv l) (hb : ∀ x ∈ l, 0 ≤ x ∧ x ≤ 255) (h1 : 0 ≤ ct) (h2 : ct ≤ 1099511627776) :
    AC Try.prog 88 [.p bc 0] h (fun r h' => ∃ M, (∃ x sd', r = .i .i64 x ∧ 0 ≤ x ∧ x ≤ 255 ∧ M = .pt bc [cv, .i .i64 (ct + 1), .i .u64 sd'] :: L) ∧ Loq h0 h' M) := by
  have hln := hcv.len
  refine e88 _ fun wf => ?_
  unfold c88
  refine LI_startL HL ?_
  refine W ?_
  refine dz88_0 ?_
  refine WX ?_
  refine W ?_
  refine LI_post (fun a M => ∃ (x : Int), (∃ r : Nat → AV, a = [.p bc 0, r 1, r 2, .i .i64 x, r 4, r 5, r 6, r 7, r 8, r 9, r 10, r 11, r 12, r 13, r 14, r 15, r 16, r 17, r 18, r 19, r 20, r 21, r 22, r 23, r 24, r 25, r 26, r 27, r 28, r 29, r 30, r 31, r 32, r 33, r 34, r 35, r 36, r 37, r 38, r 39, r 40, r 41, r 42, r 43, r 44, r 45, r 46, r 47, r 48, r 49, r 50, r 51, r 52, r 53, r 54, r 55, r 56, r 57, r 58, r 59, r 60, r 61]) ∧ M = .pt bc [cv, .i .i64 ct, .i .u64 sd] :: L ∧ 0 ≤ x ∧ x ≤ 255) ?_ ?_
  · (first | refine LS_gt rfl ?_ ?_ | refine LS_gf rfl ?_ ?_ | refine LI_cond rfl ?_ ?_) <;> intro hc <;> have hc' := hc <;> try simp only [decide_eq_true_eq, decide_eq_false_iff_not, Bool.not_eq_true', Bool.not_eq_false', Bool.not_eq_true, Bool.not_eq_false, beq_iff_eq, bne_iff_ne, beq_eq_false_iff_ne, bne_eq_false_iff_eq, Int.not_lt, Int.not_le, ge_iff_le, gt_iff_lt, not_and, ne_eq, Decidable.not_not] at hc'
    all_goals (try (dsimp only [st, setL, AV.cells, List.set_cons_zero, List.set_cons_succ, List.drop_zero, List.drop_succ_cons, List.take_zero, List.take_succ_cons, Nat.zero_add, Nat.add_zero, Nat.reduceAdd, List.cons_append, List.nil_append, List.eraseIdx_cons_zero, List.eraseIdx_cons_succ]))
    all_goals (refine W ?_)
    · obtain ⟨y, hy, hym, _⟩ := drop_at (l := l) h1 hc'
      have hyb := hb y hym
      have e : IntKind.i64.wrap y = y := IntWalk.i64_in _ (by omega)
      refine dz88_1 ?_
      refine WX ?_
      refine W ?_
      refine LX_ix (fun h' HL => hcv.le HL.le) enU1 hy h1 rfl rfl noG fun q1 o1 hrow1 => ?_
      try (dsimp only [st, setL, AV.cells, List.set_cons_zero, List.set_cons_succ, List.drop_zero, List.drop_succ_cons, List.take_zero, List.take_succ_cons, Nat.zero_add, Nat.add_zero, Nat.reduceAdd, List.cons_append, List.nil_append, List.eraseIdx_cons_zero, List.eraseIdx_cons_succ])
      refine WX ?_
      refine W ?_
      exact ⟨rfl, _, exJ rfl, rfl, by omega, by omega⟩
    · exact ⟨rfl, _, exJ rfl, rfl, by omega, by omega⟩
  · rintro _ _ ⟨x, ⟨r, rfl⟩, rfl, hx0, hx1⟩
    refine LThen_n ?_
    refine W ?_
    refine dz88_2 ?_
    refine WX ?_
    refine W ?_
    (first | refine LS_gt rfl ?_ ?_ | refine LS_gf rfl ?_ ?_ | refine LI_cond rfl ?_ ?_) <;> intro hc <;> have hc' := hc <;> try simp only [decide_eq_true_eq, decide_eq_false_iff_not, Bool.not_eq_true', Bool.not_eq_false', Bool.not_eq_true, Bool.not_eq_false, beq_iff_eq, bne_iff_ne, beq_eq_false_iff_ne, bne_eq_false_iff_eq, Int.not_lt, Int.not_le, ge_iff_le, gt_iff_lt, not_and, ne_eq, Decidable.not_not] at hc'
    all_goals (try (dsimp only [st, setL, AV.cells, List.set_cons_zero, List.set_cons_succ, List.drop_zero, List.drop_succ_cons, List.take_zero, List.take_succ_cons, Nat.zero_add, Nat.add_zero, Nat.reduceAdd, List.cons_append, List.nil_append, List.eraseIdx_cons_zero, List.eraseIdx_cons_succ]))
    all_goals (refine W ?_)
    · refine RET fun h' HL => ?_
      try dsimp only [oneA]
      exact ⟨_, ⟨x, _, rfl, hx0, hx1, rfl⟩, HL⟩
    · refine LS_v (OpV_shr rfl rfl (by omega)) ?_
      try (dsimp only [st, setL, AV.cells, List.set_cons_zero, List.set_cons_succ, List.drop_zero, List.drop_succ_cons, List.take_zero, List.take_succ_cons, Nat.zero_add, Nat.add_zero, Nat.reduceAdd, List.cons_append, List.nil_append, List.eraseIdx_cons_zero, List.eraseIdx_cons_succ])
      refine W ?_
      refine RET fun h' HL => ?_
      try dsimp only [oneA]
      exact ⟨_, ⟨_, _, rfl, (and255 _).1, (and255 _).2, rfl⟩, HL⟩

theorem pick_ac (n : Int) (bc : Nat) (cv : AV) (l : List Int) (ct sd : Int) (h0 h : AH) (L : List It) (HL : Loq h0 h (.pt bc [cv, .i .i64 ct, .i .u64 sd] :: L)) (hcv : RdG 1 enU h0 cv l) (hb : ∀ x ∈ l, 0 ≤ x ∧ x ≤ 255) (h1 : 0 ≤ ct) (h2 : ct ≤ 549755813888) :
    AC Try.prog 73 [.p bc 0, .i .i64 n] h (fun r h' => ∃ M, (∃ x ct' sd', r = .i .i64 x ∧ (0 ≤ x ∧ (x = 0 ∨ x < n)) ∧ (ct ≤ ct' ∧ ct' ≤ ct + 2) ∧ M = .pt bc [cv, .i .i64 ct', .i .u64 sd'] :: L) ∧ Loq h0 h' M) := by
  refine e73 _ _ fun wf => ?_
  unfold c73
  refine LI_startL HL ?_
  refine W ?_
  (first | refine LS_gt rfl ?_ ?_ | refine LS_gf rfl ?_ ?_ | refine LI_cond rfl ?_ ?_) <;> intro hc <;> have hc' := hc <;> try simp only [decide_eq_true_eq, decide_eq_false_iff_not, Bool.not_eq_true', Bool.not_eq_false', Bool.not_eq_true, Bool.not_eq_false, beq_iff_eq, bne_iff_ne, beq_eq_false_iff_ne, bne_eq_false_iff_eq, Int.not_lt, Int.not_le, ge_iff_le, gt_iff_lt, not_and, ne_eq, Decidable.not_not] at hc'
  all_goals (try (dsimp only [st, setL, AV.cells, List.set_cons_zero, List.set_cons_succ, List.drop_zero, List.drop_succ_cons, List.take_zero, List.take_succ_cons, Nat.zero_add, Nat.add_zero, Nat.reduceAdd, List.cons_append, List.nil_append, List.eraseIdx_cons_zero, List.eraseIdx_cons_succ]))
  all_goals (refine W ?_)
  · refine RET fun h' HL => ?_
    try dsimp only [oneA]
    exact ⟨_, ⟨0, ct, sd, rfl, ⟨by omega, .inl rfl⟩, by omega, rfl⟩, HL⟩
  · refine LS_cm (.refl _) (fun h' HL wf => next_ac bc cv l ct sd h0 h' L HL hcv hb h1 (by omega)) rfl rfl ?_
    try (dsimp only [st, setL, AV.cells, List.set_cons_zero, List.set_cons_succ, List.drop_zero, List.drop_succ_cons, List.take_zero, List.take_succ_cons, Nat.zero_add, Nat.add_zero, Nat.reduceAdd, List.cons_append, List.nil_append, List.eraseIdx_cons_zero, List.eraseIdx_cons_succ])
    refine W ?_
    rintro _ _ ⟨x, sd1, rfl, x0, x1, rfl⟩
    try (dsimp only [st, setL, AV.cells, List.set_cons_zero, List.set_cons_succ, List.drop_zero, List.drop_succ_cons, List.take_zero, List.take_succ_cons, Nat.zero_add, Nat.add_zero, Nat.reduceAdd, List.cons_append, List.nil_append, List.eraseIdx_cons_zero, List.eraseIdx_cons_succ])
    refine W ?_
    (first | refine LS_gt rfl ?_ ?_ | refine LS_gf rfl ?_ ?_ | refine LI_cond rfl ?_ ?_) <;> intro hc <;> have hc' := hc <;> try simp only [decide_eq_true_eq, decide_eq_false_iff_not, Bool.not_eq_true', Bool.not_eq_false', Bool.not_eq_true, Bool.not_eq_false, beq_iff_eq, bne_iff_ne, beq_eq_false_iff_ne, bne_eq_false_iff_eq, Int.not_lt, Int.not_le, ge_iff_le, gt_iff_lt, not_and, ne_eq, Decidable.not_not] at hc'
    all_goals (try (dsimp only [st, setL, AV.cells, List.set_cons_zero, List.set_cons_succ, List.drop_zero, List.drop_succ_cons, List.take_zero, List.take_succ_cons, Nat.zero_add, Nat.add_zero, Nat.reduceAdd, List.cons_append, List.nil_append, List.eraseIdx_cons_zero, List.eraseIdx_cons_succ]))
    all_goals (refine W ?_)
    · refine LS_cm (.refl _) (fun h' HL wf => next_ac bc cv l (ct + 1) sd1 h0 h' L HL hcv hb (by omega) (by omega)) rfl rfl ?_
      try (dsimp only [st, setL, AV.cells, List.set_cons_zero, List.set_cons_succ, List.drop_zero, List.drop_succ_cons, List.take_zero, List.take_succ_cons, Nat.zero_add, Nat.add_zero, Nat.reduceAdd, List.cons_append, List.nil_append, List.eraseIdx_cons_zero, List.eraseIdx_cons_succ])
      refine W ?_
      rintro _ _ ⟨y, sd2, rfl, y0, y1, rfl⟩
      try (dsimp only [st, setL, AV.cells, List.set_cons_zero, List.set_cons_succ, List.drop_zero, List.drop_succ_cons, List.take_zero, List.take_succ_cons, Nat.zero_add, Nat.add_zero, Nat.reduceAdd, List.cons_append, List.nil_append, List.eraseIdx_cons_zero, List.eraseIdx_cons_succ])
      refine W ?_
      refine LS_v (OpV_rem rfl rfl (by omega)) ?_
      try (dsimp only [st, setL, AV.cells, List.set_cons_zero, List.set_cons_succ, List.drop_zero, List.drop_succ_cons, List.take_zero, List.take_succ_cons, Nat.zero_add, Nat.add_zero, Nat.reduceAdd, List.cons_append, List.nil_append, List.eraseIdx_cons_zero, List.eraseIdx_cons_succ])
      refine W ?_
      have e := IntWalk.rem_in (x * 256 + y) n (by omega)
      have e1 := Int.emod_nonneg (x * 256 + y) (b := n) (by omega)
      have e2 := Int.emod_lt_of_pos (x * 256 + y) (b := n) (by omega)
      refine RET fun h' HL => ?_
      try dsimp only [oneA]
      exact ⟨_, ⟨_, ct + 1 + 1, _, rfl, by omega, by omega, rfl⟩, HL⟩
    · refine LS_v (OpV_rem rfl rfl (by omega)) ?_
      try (dsimp only [st, setL, AV.cells, List.set_cons_zero, List.set_cons_succ, List.drop_zero, List.drop_succ_cons, List.take_zero, List.take_succ_cons, Nat.zero_add, Nat.add_zero, Nat.reduceAdd, List.cons_append, List.nil_append, List.eraseIdx_cons_zero, List.eraseIdx_cons_succ])
      refine W ?_
      have e := IntWalk.rem_in x n (by omega)
      have e1 := Int.emod_nonneg x (b := n) (by omega)
      have e2 := Int.emod_lt_of_pos x (b := n) (by omega)
      refine RET fun h' HL => ?_
      try dsimp only [oneA]
      exact ⟨_, ⟨_, ct + 1, _, rfl, by omega, by omega, rfl⟩, HL⟩

theorem one_ac (n : Int) (bc : Nat) (cv : AV) (l : List Int) (ct sd : Int) (h0 h : AH) (L : List It) (HL : Loq h0 h (.pt bc [cv, .i .i64 ct, .i .u64 sd] :: L)) (hcv : RdG 1 enU h0 cv l) (hb : ∀ x ∈ l, 0 ≤ x ∧ x ≤ 255) (h1 : 0 ≤ ct) (h2 : ct ≤ 549755813888) :
    AC Try.prog 47 [.p bc 0, .i .i64 n] h (fun r h' => ∃ M, (∃ (x : Bool) (ct' sd' : Int), r = .b x ∧ True ∧ (ct ≤ ct' ∧ ct' ≤ ct + 2) ∧ M = .pt bc [cv, .i .i64 ct', .i .u64 sd'] :: L) ∧ Loq h0 h' M) := by
  refine e47 _ _ fun wf => ?_
  unfold c47
  refine LI_startL HL ?_
  refine W ?_
  refine LS_cm (.refl _) (fun h' HL wf => pick_ac n _ _ _ _ _ _ h' _ HL  hcv hb (by omega) (by omega)) rfl rfl ?_
  rintro _ _ ⟨x, ct1, sd1, rfl, hx, hct1, rfl⟩
  try (dsimp only [st, setL, AV.cells, List.set_cons_zero, List.set_cons_succ, List.drop_zero, List.drop_succ_cons, List.take_zero, List.take_succ_cons, Nat.zero_add, Nat.add_zero, Nat.reduceAdd, List.cons_append, List.nil_append, List.eraseIdx_cons_zero, List.eraseIdx_cons_succ])
  refine W ?_
  refine RET fun h' HL => ?_
  try dsimp only [oneA]
  exact ⟨_, ⟨_, ct1, sd1, rfl, trivial, hct1, rfl⟩, HL⟩

theorem among_ac (li : List Int) (w : AV) (bc : Nat) (cv : AV) (l : List Int) (ct sd : Int) (h0 h : AH) (L : List It) (HL : Loq h0 h (.pt bc [cv, .i .i64 ct, .i .u64 sd] :: L)) (hw : ∀ h', Loq h0 h' L → Rd h' w li) (hl : 0 < li.length) (hcv : RdG 1 enU h0 cv l) (hb : ∀ x ∈ l, 0 ≤ x ∧ x ≤ 255) (h1 : 0 ≤ ct) (h2 : ct ≤ 549755813888) :
    AC Try.prog 72 [.p bc 0, w] h (fun r h' => ∃ M, (∃ x ct' sd', r = .i .i64 x ∧ x ∈ li ∧ (ct ≤ ct' ∧ ct' ≤ ct + 2) ∧ M = .pt bc [cv, .i .i64 ct', .i .u64 sd'] :: L) ∧ Loq h0 h' M) := by
  have hln := (hw h HL.tail).len
  refine e72 _ _ fun wf => ?_
  unfold c72
  refine LI_startL HL ?_
  refine W ?_
  refine LS_cm (.refl _) (fun h' HL wf => pick_ac li.length _ _ _ _ _ _ h' _ HL  hcv hb (by omega) (by omega)) rfl rfl ?_
  rintro _ _ ⟨x, ct1, sd1, rfl, hx, hct1, rfl⟩
  try (dsimp only [st, setL, AV.cells, List.set_cons_zero, List.set_cons_succ, List.drop_zero, List.drop_succ_cons, List.take_zero, List.take_succ_cons, Nat.zero_add, Nat.add_zero, Nat.reduceAdd, List.cons_append, List.nil_append, List.eraseIdx_cons_zero, List.eraseIdx_cons_succ])
  refine W ?_
  obtain ⟨y, hy, hym, _⟩ := drop_at (l := li) hx.1 (by omega)
  refine LS_ix (fun h' HL => hw h' HL.tail) enI1 hy hx.1 rfl rfl fun q1 o1 hrow1 => ?_
  try (dsimp only [st, setL, AV.cells, List.set_cons_zero, List.set_cons_succ, List.drop_zero, List.drop_succ_cons, List.take_zero, List.take_succ_cons, Nat.zero_add, Nat.add_zero, Nat.reduceAdd, List.cons_append, List.nil_append, List.eraseIdx_cons_zero, List.eraseIdx_cons_succ])
  refine W ?_
  refine RET fun h' HL => ?_
  try dsimp only [oneA]
  exact ⟨_, ⟨y, ct1, sd1, rfl, hym, hct1, rfl⟩, HL⟩

theorem exponent_ac (bc : Nat) (cv : AV) (l : List Int) (ct sd : Int) (h0 h : AH) (L : List It) (HL : Loq h0 h (.pt bc [cv, .i .i64 ct, .i .u64 sd] :: L)) (hcv : RdG 1 enU h0 cv l) (hb : ∀ x ∈ l, 0 ≤ x ∧ x ≤ 255) (h1 : 0 ≤ ct) (h2 : ct ≤ 549745813888) :
    AC Try.prog 51 [.p bc 0] h (fun r h' => ∃ M, (∃ x ct' sd', r = .i .i64 x ∧ (-1 ≤ x ∧ x ≤ 1000001) ∧ (ct ≤ ct' ∧ ct' ≤ ct + 6) ∧ M = .pt bc [cv, .i .i64 ct', .i .u64 sd'] :: L) ∧ Loq h0 h' M) := by
  refine e51 _ fun wf => ?_
  unfold c51
  refine LI_startL HL ?_
  refine W ?_
  refine LS_cm (.refl _) (fun h' HL wf => one_ac 12 _ _ _ _ _ _ h' _ HL  hcv hb (by omega) (by omega)) rfl rfl ?_
  rintro _ _ ⟨x, ct1, sd1, rfl, hx, hct1, rfl⟩
  try (dsimp only [st, setL, AV.cells, List.set_cons_zero, List.set_cons_succ, List.drop_zero, List.drop_succ_cons, List.take_zero, List.take_succ_cons, Nat.zero_add, Nat.add_zero, Nat.reduceAdd, List.cons_append, List.nil_append, List.eraseIdx_cons_zero, List.eraseIdx_cons_succ])
  refine W ?_
  cases x
  · first | (refine LS_gtnH rfl (rfl) ?_; intro hg; try (dsimp only [st, setL, AV.cells, List.set_cons_zero, List.set_cons_succ, List.drop_zero, List.drop_succ_cons, List.take_zero, List.take_succ_cons, Nat.zero_add, Nat.add_zero, Nat.reduceAdd, List.cons_append, List.nil_append, List.eraseIdx_cons_zero, List.eraseIdx_cons_succ])) | (refine LS_gfnH rfl (rfl) ?_; intro hg; try (dsimp only [st, setL, AV.cells, List.set_cons_zero, List.set_cons_succ, List.drop_zero, List.drop_succ_cons, List.take_zero, List.take_succ_cons, Nat.zero_add, Nat.add_zero, Nat.reduceAdd, List.cons_append, List.nil_append, List.eraseIdx_cons_zero, List.eraseIdx_cons_succ])) | (refine LI_cond_fH rfl (rfl) ?_; intro hg)
    refine W ?_
    refine LS_lt [5, 40, 5000] rfl rfl (by decide) rfl rfl rfl rfl enI1 rfl rfl fun w lw sw => ?_
    try (dsimp only [st, setL, AV.cells, List.set_cons_zero, List.set_cons_succ, List.drop_zero, List.drop_succ_cons, List.take_zero, List.take_succ_cons, Nat.zero_add, Nat.add_zero, Nat.reduceAdd, List.cons_append, List.nil_append, List.eraseIdx_cons_zero, List.eraseIdx_cons_succ])
    refine W ?_
    refine LS_rot 1 rfl ?_
    refine LS_cm (.refl _) (fun h' HL wf => among_ac [5, 40, 5000] w _ _ _ _ _ _ h' _ HL (fun h' HL => HL.rdI 0 rfl enI1 (by decide)) (by decide) hcv hb (by omega) (by omega)) rfl rfl ?_
    rintro _ _ ⟨x, ct2, sd2, rfl, hx, hct2, rfl⟩
    try (dsimp only [st, setL, AV.cells, List.set_cons_zero, List.set_cons_succ, List.drop_zero, List.drop_succ_cons, List.take_zero, List.take_succ_cons, Nat.zero_add, Nat.add_zero, Nat.reduceAdd, List.cons_append, List.nil_append, List.eraseIdx_cons_zero, List.eraseIdx_cons_succ])
    refine W ?_
    have : x = 5 ∨ x = 40 ∨ x = 5000 := by simpa using hx
    refine LS_cm (.refl _) (fun h' HL wf => pick_ac x _ _ _ _ _ _ h' _ HL  hcv hb (by omega) (by omega)) rfl rfl ?_
    rintro _ _ ⟨y, ct3, sd3, rfl, hy, hct3, rfl⟩
    try (dsimp only [st, setL, AV.cells, List.set_cons_zero, List.set_cons_succ, List.drop_zero, List.drop_succ_cons, List.take_zero, List.take_succ_cons, Nat.zero_add, Nat.add_zero, Nat.reduceAdd, List.cons_append, List.nil_append, List.eraseIdx_cons_zero, List.eraseIdx_cons_succ])
    refine W ?_
    refine RET fun h' HL => ?_
    try dsimp only [oneA]
    exact ⟨_, ⟨_, ct3, sd3, rfl, by omega, by omega, rfl⟩, HL.sub (by simp)⟩
  · first | (refine LS_gyH rfl (rfl) ?_; intro hg) | (refine LI_cond_tH rfl (rfl) ?_; intro hg)
    refine W ?_
    refine LS_lt [-1, 0, 1000000, 1000001] rfl rfl (by decide) rfl rfl rfl rfl enI1 rfl rfl fun w lw sw => ?_
    try (dsimp only [st, setL, AV.cells, List.set_cons_zero, List.set_cons_succ, List.drop_zero, List.drop_succ_cons, List.take_zero, List.take_succ_cons, Nat.zero_add, Nat.add_zero, Nat.reduceAdd, List.cons_append, List.nil_append, List.eraseIdx_cons_zero, List.eraseIdx_cons_succ])
    refine W ?_
    refine LS_rot 1 rfl ?_
    refine LS_cm (.refl _) (fun h' HL wf => among_ac [-1, 0, 1000000, 1000001] w _ _ _ _ _ _ h' _ HL (fun h' HL => HL.rdI 0 rfl enI1 (by decide)) (by decide) hcv hb (by omega) (by omega)) rfl rfl ?_
    rintro _ _ ⟨x, ct2, sd2, rfl, hx, hct2, rfl⟩
    try (dsimp only [st, setL, AV.cells, List.set_cons_zero, List.set_cons_succ, List.drop_zero, List.drop_succ_cons, List.take_zero, List.take_succ_cons, Nat.zero_add, Nat.add_zero, Nat.reduceAdd, List.cons_append, List.nil_append, List.eraseIdx_cons_zero, List.eraseIdx_cons_succ])
    refine W ?_
    have : x = -1 ∨ x = 0 ∨ x = 1000000 ∨ x = 1000001 := by simpa using hx
    refine RET fun h' HL => ?_
    try dsimp only [oneA]
    exact ⟨_, ⟨_, ct2, sd2, rfl, by omega, by omega, rfl⟩, HL.sub (by simp)⟩

/-! ### What the laws draw -/
theorem bytes_in {l : List Int} (h : ∀ n ∈ l, (Lit.int .u8 n).wf = true) : ∀ x ∈ l, 0 ≤ x ∧ x ≤ 255 := fun x hx => by
  have := h x hx
  simp [Lit.wf, IntKind.min, IntKind.max, IntKind.signed, IntKind.bits] at this
  omega

theorem big_ac (c1 c2 : List Int) (v1 v2 : AV) (h : AH) (hR1 : RdG 1 enU h v1 c1) (hR2 : RdG 1 enU h v2 c2) (hm1 : c1.length ≤ 9223372036854775807) (hm2 : c2.length ≤ 9223372036854775807) :
    AC Try.prog 15 [v1, v2] h (fun r h' => r = .b (decide ((c1.length : Int) > 1048576) || decide ((c2.length : Int) > 1048576 - c1.length)) ∧ h.le h') := by
  have l1 := hR1.len
  have l2 := hR2.len
  refine e15 _ _ fun wf => ?_
  unfold c15
  refine LI_start wf ?_
  refine W ?_
  (first | refine LS_gt rfl ?_ ?_ | refine LS_gf rfl ?_ ?_ | refine LI_cond rfl ?_ ?_) <;> intro hc <;> have hc' := hc <;> try simp only [decide_eq_true_eq, decide_eq_false_iff_not, Bool.not_eq_true', Bool.not_eq_false', Bool.not_eq_true, Bool.not_eq_false, beq_iff_eq, bne_iff_ne, beq_eq_false_iff_ne, bne_eq_false_iff_eq, Int.not_lt, Int.not_le, ge_iff_le, gt_iff_lt, not_and, ne_eq, Decidable.not_not] at hc'
  all_goals (try (dsimp only [st, setL, AV.cells, List.set_cons_zero, List.set_cons_succ, List.drop_zero, List.drop_succ_cons, List.take_zero, List.take_succ_cons, Nat.zero_add, Nat.add_zero, Nat.reduceAdd, List.cons_append, List.nil_append, List.eraseIdx_cons_zero, List.eraseIdx_cons_succ]))
  all_goals (refine W ?_)
  · refine RET fun h' HL => ?_
    try dsimp only [oneA]
    exact ⟨by rw [hc, Bool.false_or], HL.le⟩
  · refine RET fun h' HL => ?_
    try dsimp only [oneA]
    exact ⟨by rw [hc, Bool.true_or], HL.le⟩

theorem big_f {c1 c2 : List Int} (h : (decide ((c1.length : Int) > 1048576) || decide ((c2.length : Int) > 1048576 - c1.length)) = false) : c1.length ≤ 1048576 ∧ c2.length ≤ 1048576 := by
  simp at h
  omega

theorem take_snoc {α : Type} {l : List α} {i : Nat} {y : α} (hy : l[i]? = some y) : l.take (i + 1) = l.take i ++ [y] := by rw [List.take_add_one, hy]; rfl

def ssI (v : AV) (us : List AV) (ll : List (List Int)) : List It := .sl v 1 (us.flatMap enV) :: (rowsI us ll ++ [])

theorem at_ {α : Type} {l : List α} {i : Nat} (h : i < l.length) : ∃ x, l[i]? = some x := ⟨_, List.getElem?_eq_getElem h⟩

structure PlP (h : AH) (b : Nat) (p : PlanM) (vs vo : AV) : Prop where
  row : h.row b 0 3 = some [.i .i64 p.n, vs, vo]
  steps : RdG 2 enStep h vs p.steps
  outs : Rd h vo p.outs

theorem PlP.le {h h' : AH} {b : Nat} {p : PlanM} {vs vo : AV} (H : PlP h b p vs vo) (hle : h.le h') : PlP h' b p vs vo := ⟨hle.row H.row, H.steps.le hle, H.outs.le hle⟩

theorem l1Has_ac (l : List Int) (v : AV) (x : Int) (h : AH) (hR : Rd h v l) (hl : l.length ≤ 4611686018427387904) : AC Try.prog 86 [v, .i .i64 x] h (fun r h' => r = .b (l.any fun y => y == x) ∧ h.le h') := by
  refine e86 _ _ fun wf => ?_
  unfold c86
  refine LI_start wf ?_
  refine W ?_
  refine LIL_ind (fun n a L => ∃ (i : Int), (∃ r : Nat → AV, a = [r 0, .i .i64 x, r 2, r 3, r 4, r 5, r 6, v, .i .i64 l.length, .i .i64 i, r 10, r 11, r 12, r 13, r 14, r 15, r 16]) ∧ L = [] ∧ 0 ≤ i ∧ i + n = l.length ∧ (l.any fun y => y == x) = ((l.drop i.toNat).any fun y => y == x))
    l.length ⟨0, exJ rfl, rfl, by omega, by omega, rfl⟩ ?_
  rintro n a L ⟨i, ⟨r, rfl⟩, rfl, h0, hn, heq⟩ IH
  refine W ?_
  (first | refine LS_gt rfl ?_ ?_ | refine LS_gf rfl ?_ ?_ | refine LI_cond rfl ?_ ?_) <;> intro hc <;> have hc' := hc <;> try simp only [decide_eq_true_eq, decide_eq_false_iff_not, Bool.not_eq_true', Bool.not_eq_false', Bool.not_eq_true, Bool.not_eq_false, beq_iff_eq, bne_iff_ne, beq_eq_false_iff_ne, bne_eq_false_iff_eq, Int.not_lt, Int.not_le, ge_iff_le, gt_iff_lt, not_and, ne_eq, Decidable.not_not] at hc'
  all_goals (try (dsimp only [st, setL, AV.cells, List.set_cons_zero, List.set_cons_succ, List.drop_zero, List.drop_succ_cons, List.take_zero, List.take_succ_cons, Nat.zero_add, Nat.add_zero, Nat.reduceAdd, List.cons_append, List.nil_append, List.eraseIdx_cons_zero, List.eraseIdx_cons_succ]))
  all_goals (refine W ?_)
  · obtain ⟨y, hy, hym, hd⟩ := drop_at h0 hc'
    rw [hd, List.any_cons] at heq
    refine LS_ix (fun h' HL => hR.le HL.le) enI1 hy h0 rfl rfl fun b o hrow => ?_
    try (dsimp only [st, setL, AV.cells, List.set_cons_zero, List.set_cons_succ, List.drop_zero, List.drop_succ_cons, List.take_zero, List.take_succ_cons, Nat.zero_add, Nat.add_zero, Nat.reduceAdd, List.cons_append, List.nil_append, List.eraseIdx_cons_zero, List.eraseIdx_cons_succ])
    refine W ?_
    (first | refine LS_gt rfl ?_ ?_ | refine LS_gf rfl ?_ ?_ | refine LI_cond rfl ?_ ?_) <;> intro hc <;> have hc' := hc <;> try simp only [decide_eq_true_eq, decide_eq_false_iff_not, Bool.not_eq_true', Bool.not_eq_false', Bool.not_eq_true, Bool.not_eq_false, beq_iff_eq, bne_iff_ne, beq_eq_false_iff_ne, bne_eq_false_iff_eq, Int.not_lt, Int.not_le, ge_iff_le, gt_iff_lt, not_and, ne_eq, Decidable.not_not] at hc'
    all_goals (try (dsimp only [st, setL, AV.cells, List.set_cons_zero, List.set_cons_succ, List.drop_zero, List.drop_succ_cons, List.take_zero, List.take_succ_cons, Nat.zero_add, Nat.add_zero, Nat.reduceAdd, List.cons_append, List.nil_append, List.eraseIdx_cons_zero, List.eraseIdx_cons_succ]))
    all_goals (refine W ?_)
    · rw [heq, hc]
      refine RET fun h' HL => ?_
      try dsimp only [oneA]
      exact ⟨rfl, HL.le⟩
    · refine IH (n - 1) _ _ (by omega) ⟨i + 1, exJ rfl, rfl, by omega, by omega, ?_⟩
      rw [heq, hc, Bool.false_or, toNat_succ h0]
  · rw [heq, List.drop_eq_nil_of_le (by omega)]
    refine RET fun h' HL => ?_
    try dsimp only [oneA]
    exact ⟨rfl, HL.le⟩

theorem loq_ns {h0 h : AH} {L : List It} (H : Loq h0 h L) (k : Nat) : Loq h0 h (.sl .ns k [] :: L) := H.cons (.inl ⟨rfl, rfl⟩) fun y hy => .sl fun b e => by cases e

/-- A list handed back, and whether. -/
def TupI (l : List Int) (ok : Bool) (r : AV) (M : List It) : Prop := ∃ w, r = .tup [w, .b ok] ∧ lenA w = some l.length ∧ w.sc = true ∧ M = [.sl w 1 (l.flatMap enI)]

theorem TupI.of {l : List Int} {ok : Bool} {h0 h : AH} {w : AV} (H : AL.Own h0 1 enI h w l) : ∃ M, TupI l ok (.tup [w, .b ok]) M ∧ Loq h0 h M := ⟨_, ⟨w, rfl, H.rd.len, rd_sc H.rd, rfl⟩, H.loc enI1⟩

theorem TupI.none {h0 h : AH} {L : List It} (H : Loq h0 h L) : ∃ M, TupI [] false (.tup [.ns, .b false]) M ∧ Loq h0 h M := ⟨_, ⟨.ns, rfl, rfl, rfl, rfl⟩, loq_ns (H.sub (List.nil_sublist _)) 1⟩

/-! ### Numbers of paths -/
def pathS (n : Int) (x : Int) (U : List Int) (i : Nat) (s : Int × Int) : List Int := if n + i = x then U else U.set (n + i).toNat (U.getD s.1.toNat 0 + U.getD s.2.toNat 0)

/-- What is known of the numbers when some steps have been done. -/
structure PathI (p : PlanM) (x : Int) (i : Nat) (U : List Int) : Prop where
  len : U.length = (p.n + p.steps.length).toNat
  at_ : U.getD x.toNat 0 = 1
  lo : ∀ j : Nat, (j : Int) < x → U.getD j 0 = 0
  hi : ∀ j : Nat, p.n + i ≤ j → (j : Int) ≠ x → U.getD j 0 = 0
  bd : ∀ j : Nat, 0 ≤ U.getD j 0 ∧ U.getD j 0 ≤ 2 ^ i

theorem getD_set {U : List Int} {j k : Nat} {y : Int} (hk : k < U.length) : (U.set k y).getD j 0 = if k = j then y else U.getD j 0 := by
  simp only [List.getD, List.getElem?_set]
  split
  · rename_i e; subst e; simp [hk]
  · rfl

theorem PathI.next {p : PlanM} {x : Int} {i : Nat} {U : List Int} {s : Int × Int} (H : PathI p x i U) (hn : 1 ≤ p.n) (hx : 0 ≤ x) (hi : i < p.steps.length) (h1 : 0 ≤ s.1) (h2 : s.1 ≤ s.2) (h3 : s.2 < p.n + i) : PathI p x (i + 1) (pathS p.n x U i s) := by
  have hp : (2 : Int) ^ (i + 1) = 2 * 2 ^ i := by rw [Int.pow_succ]; omega
  have hpos : (0 : Int) ≤ 2 ^ i := Int.pow_nonneg (by omega)
  unfold pathS
  split
  · rename_i e
    refine ⟨H.len, H.at_, H.lo, fun j hj hx => H.hi j (by omega) hx, fun j => ?_⟩
    have := H.bd j
    rw [hp]
    omega
  · rename_i e
    have hk : (p.n + i).toNat < U.length := by rw [H.len]; omega
    have hb1 := H.bd s.1.toNat
    have hb2 := H.bd s.2.toNat
    refine ⟨by simp [H.len], ?_, ?_, ?_, ?_⟩
    · rw [getD_set hk, if_neg (by omega)]; exact H.at_
    · intro j hj
      rw [getD_set hk]
      split
      · rw [H.lo _ (by omega), H.lo _ (by omega)]; rfl
      · exact H.lo j hj
    · intro j hj hx
      rw [getD_set hk, if_neg (by omega)]
      exact H.hi j (by omega) hx
    · intro j
      rw [getD_set hk, hp]
      split
      · omega
      · have := H.bd j; omega

def iotaI (n : Nat) : List Int := (List.range n).map Int.ofNat

theorem iotaI_succ (n : Nat) : iotaI (n + 1) = iotaI n ++ [(n : Int)] := by simp [iotaI, List.range_succ]

theorem iotaI_mem (n : Nat) (x : Int) : x ∈ iotaI n ↔ 0 ≤ x ∧ x < n := by
  simp only [iotaI, List.mem_map, List.mem_range]
  constructor
  · rintro ⟨y, h, rfl⟩; simp only [Int.ofNat_eq_natCast]; omega
  · intro h; exact ⟨x.toNat, by omega, by simp only [Int.ofNat_eq_natCast]; omega⟩

theorem firsts_ac (k : Int) (h : AH) (wf : h.wf) (h0 : 0 ≤ k) (h1 : k ≤ 1048576) : AC Try.prog 54 [.i .i64 k] h (fun r h' => AL.Own h 1 enI h' r (iotaI k.toNat)) := by
  clear wf
  refine e54 _ fun wf => ?_
  unfold c54
  refine LI_start wf ?_
  refine W ?_
  refine LS_lt ([] : List Int) rfl rfl (by decide) rfl rfl rfl rfl enI1 rfl rfl fun lit3 hlit3 slit3 => ?_
  try (dsimp only [st, setL, AV.cells, List.set_cons_zero, List.set_cons_succ, List.drop_zero, List.drop_succ_cons, List.take_zero, List.take_succ_cons, Nat.zero_add, Nat.add_zero, Nat.reduceAdd, List.cons_append, List.nil_append, List.eraseIdx_cons_zero, List.eraseIdx_cons_succ])
  refine W ?_
  refine LIL_ind (fun n a L => ∃ (x : Int) (o : AV), (∃ r : Nat → AV, a = [r 0, r 1, r 2, o, r 4, r 5, .i .i64 k, .i .i64 x, r 8, r 9, r 10, r 11, r 12, r 13, r 14, r 15]) ∧ L = [.sl o 1 ((iotaI x.toNat).flatMap enI)] ∧ 0 ≤ x ∧ x + n = k)
    k.toNat ⟨0, _, exJ rfl, rfl, by omega, by omega⟩ ?_
  rintro n a L ⟨x, o, ⟨r, rfl⟩, rfl, hx0, hn⟩ IH
  have hxx : ((x.toNat : Nat) : Int) = x := by omega
  have hil : (iotaI x.toNat).length = x.toNat := by simp [iotaI]
  refine W ?_
  (first | refine LS_gt rfl ?_ ?_ | refine LS_gf rfl ?_ ?_ | refine LI_cond rfl ?_ ?_) <;> intro hc <;> have hc' := hc <;> try simp only [decide_eq_true_eq, decide_eq_false_iff_not, Bool.not_eq_true', Bool.not_eq_false', Bool.not_eq_true, Bool.not_eq_false, beq_iff_eq, bne_iff_ne, beq_eq_false_iff_ne, bne_eq_false_iff_eq, Int.not_lt, Int.not_le, ge_iff_le, gt_iff_lt, not_and, ne_eq, Decidable.not_not] at hc'
  all_goals (try (dsimp only [st, setL, AV.cells, List.set_cons_zero, List.set_cons_succ, List.drop_zero, List.drop_succ_cons, List.take_zero, List.take_succ_cons, Nat.zero_add, Nat.add_zero, Nat.reduceAdd, List.cons_append, List.nil_append, List.eraseIdx_cons_zero, List.eraseIdx_cons_succ]))
  all_goals (refine W ?_)
  · refine LS_lt [x] rfl rfl (by decide) rfl rfl rfl rfl enI1 rfl rfl fun lit7 hlit7 slit7 => ?_
    try (dsimp only [st, setL, AV.cells, List.set_cons_zero, List.set_cons_succ, List.drop_zero, List.drop_succ_cons, List.take_zero, List.take_succ_cons, Nat.zero_add, Nat.add_zero, Nat.reduceAdd, List.cons_append, List.nil_append, List.eraseIdx_cons_zero, List.eraseIdx_cons_succ])
    refine W ?_
    refine LS_ap 1 rfl (fun h' HL => HL.rdI 0 rfl enI1 (by decide)) enI1 (by decide) (by simp) (by simp; omega) (by simp; omega) rfl rfl rfl fun w8 hw8 sw8 => ?_
    try (dsimp only [st, setL, AV.cells, List.set_cons_zero, List.set_cons_succ, List.drop_zero, List.drop_succ_cons, List.take_zero, List.take_succ_cons, Nat.zero_add, Nat.add_zero, Nat.reduceAdd, List.cons_append, List.nil_append, List.eraseIdx_cons_zero, List.eraseIdx_cons_succ])
    refine W ?_
    refine LIL_drop 1 ?_
    refine IH (n - 1) _ _ (by omega) ⟨x + 1, _, exJ rfl, by rw [toNat_succ hx0, iotaI_succ, hxx]; rfl, by omega, by omega⟩
  · have ex : x = k := by omega
    subst ex
    refine RET fun h' HL => ?_
    try dsimp only [oneA]
    exact HL.ownI 0 rfl enI1 (by decide)

theorem iotaI_get {n j : Nat} (h : j < n) : (iotaI n)[j]? = some (j : Int) := by simp [iotaI, h]

theorem iotaI_len (n : Nat) : (iotaI n).length = n := by simp [iotaI]

theorem half_lt {e : Int} (he : 0 < e) : 0 ≤ e.tdiv 2 ∧ e.tdiv 2 < e := by
  rw [Int.tdiv_eq_ediv_of_nonneg (by omega)]
  omega

theorem tdiv2_wrap {e : Int} (h0 : 0 ≤ e) (h1 : e ≤ 9223372036854775807) : IntKind.i64.wrap (e.tdiv 2) = e.tdiv 2 := by
  refine IntWalk.i64_in _ ⟨?_, ?_⟩ <;> rw [Int.tdiv_eq_ediv_of_nonneg (by omega)] <;> omega

theorem exponentOk_ac (e : Int) (h : AH) : AC Try.prog 52 [.i .i64 e] h (fun v h' => v = .b (decide (0 ≤ e ∧ e ≤ 1000000)) ∧ h = h') := by
  refine e52 _ fun wf => ?_
  unfold c52
  repeat (first | refine AI_seqk fun K hK => ?_ | refine AI_reg ?_ | ((first | refine wmv rfl ?_ | refine wag rfl ?_ | refine war _ rfl rfl rfl (by omega) (by omega) ?_ | refine wbn rfl rfl rfl ?_ | refine wnt rfl ?_ | refine wex rfl rfl ?_ | refine wpt rfl (by first | assumption | with_reducible rfl) rfl ?_ | refine wpf rfl (by first | assumption | with_reducible rfl) rfl ?_ | refine wpb rfl rfl rfl ?_ | refine wmf rfl ?_ | refine wnc rfl ?_ | refine wbq Try.underlying4 rfl rfl _ (.inr ⟨rfl, rfl⟩) ?_ | refine wbq Try.underlying4 rfl rfl _ (.inl ⟨rfl, rfl⟩) ?_); try dsimp only [st, List.set_cons_zero, List.set_cons_succ]) | ((first | refine AS_nil ?_ | refine AI_skip ?_ | refine AI_exit ?_); try simp only [AThen, ABlk, reduceIte, reduceCtorEq]) | ((first | refine hK _ _ ?_ | ((first | clear hK K | clear IH hK K); refine hK _ _ ?_) | ((first | clear hK K | clear IH hK K); (first | clear hK K | clear IH hK K); refine hK _ _ ?_) | ((first | clear hK K | clear IH hK K); (first | clear hK K | clear IH hK K); (first | clear hK K | clear IH hK K); refine hK _ _ ?_)); try (first | clear hK K | clear IH hK K)) | refine AI_cond_t rfl (by first | assumption | with_reducible rfl) ?_ | refine AI_cond_f rfl (by first | assumption | with_reducible rfl) ?_ | refine AS_gy rfl (by first | assumption | with_reducible rfl) ?_ | refine AS_gtn rfl (by first | assumption | with_reducible rfl) ?_ | refine AS_gfn rfl (by first | assumption | with_reducible rfl) ?_ | refine AI_block (AI_loop ?_) | refine AI_block ?_ | refine AI_ret ⟨_, rfl, ?_⟩)
  refine AS_op (OpR_call rfl rfl (in_ac _ _ _ _) ?_)
  rintro _ _ wf1 ⟨rfl, rfl⟩
  try (dsimp only [st, setL, AV.cells, List.set_cons_zero, List.set_cons_succ, List.drop_zero, List.drop_succ_cons, List.take_zero, List.take_succ_cons, Nat.zero_add, Nat.add_zero, Nat.reduceAdd, List.cons_append, List.nil_append, List.eraseIdx_cons_zero, List.eraseIdx_cons_succ])
  repeat (first | refine AI_seqk fun K hK => ?_ | refine AI_reg ?_ | ((first | refine wmv rfl ?_ | refine wag rfl ?_ | refine war _ rfl rfl rfl (by omega) (by omega) ?_ | refine wbn rfl rfl rfl ?_ | refine wnt rfl ?_ | refine wex rfl rfl ?_ | refine wpt rfl (by first | assumption | with_reducible rfl) rfl ?_ | refine wpf rfl (by first | assumption | with_reducible rfl) rfl ?_ | refine wpb rfl rfl rfl ?_ | refine wmf rfl ?_ | refine wnc rfl ?_ | refine wbq Try.underlying4 rfl rfl _ (.inr ⟨rfl, rfl⟩) ?_ | refine wbq Try.underlying4 rfl rfl _ (.inl ⟨rfl, rfl⟩) ?_); try dsimp only [st, List.set_cons_zero, List.set_cons_succ]) | ((first | refine AS_nil ?_ | refine AI_skip ?_ | refine AI_exit ?_); try simp only [AThen, ABlk, reduceIte, reduceCtorEq]) | ((first | refine hK _ _ ?_ | ((first | clear hK K | clear IH hK K); refine hK _ _ ?_) | ((first | clear hK K | clear IH hK K); (first | clear hK K | clear IH hK K); refine hK _ _ ?_) | ((first | clear hK K | clear IH hK K); (first | clear hK K | clear IH hK K); (first | clear hK K | clear IH hK K); refine hK _ _ ?_)); try (first | clear hK K | clear IH hK K)) | refine AI_cond_t rfl (by first | assumption | with_reducible rfl) ?_ | refine AI_cond_f rfl (by first | assumption | with_reducible rfl) ?_ | refine AS_gy rfl (by first | assumption | with_reducible rfl) ?_ | refine AS_gtn rfl (by first | assumption | with_reducible rfl) ?_ | refine AS_gfn rfl (by first | assumption | with_reducible rfl) ?_ | refine AI_block (AI_loop ?_) | refine AI_block ?_ | refine AI_ret ⟨_, rfl, ?_⟩)
  exact ⟨rfl, rfl⟩

theorem moExponent_ac (e : Int) (h : AH) : AC Try.prog 55 [.i .i64 e] h (fun r h' => r = .b (decide (0 ≤ e ∧ e ≤ 1000000)) ∧ h.le h') := by
  refine e55 _ fun wf => ?_
  unfold c55
  refine LI_start wf ?_
  refine W ?_
  refine LS_c0' (fun h HL _ => l1In_ac e 0 1000000 h) rfl rfl ?_
  try (dsimp only [st, setL, AV.cells, List.set_cons_zero, List.set_cons_succ, List.drop_zero, List.drop_succ_cons, List.take_zero, List.take_succ_cons, Nat.zero_add, Nat.add_zero, Nat.reduceAdd, List.cons_append, List.nil_append, List.eraseIdx_cons_zero, List.eraseIdx_cons_succ])
  refine W ?_
  refine RET fun h' HL => ?_
  try dsimp only [oneA]
  exact ⟨rfl, HL.le⟩

def pickM {α : Type} (l : List α) (ix : List Int) : List α := ix.filterMap fun i => l[i.toNat]?

theorem pickM_len {α : Type} (l : List α) (ix : List Int) : (pickM l ix).length ≤ ix.length := List.length_filterMap_le _ _

theorem moPick_ac (l ix : List Int) (v w : AV) (h : AH) (hl : Rd h v l) (ho : Rd h w ix) (ho1 : ix.length ≤ 1048576) (hob : ∀ i ∈ ix, 0 ≤ i ∧ i < l.length) :
    AC Try.prog 68 [v, w] h (fun r h' => AL.Own h 1 enI h' r (pickM l ix)) := by
  refine e68 _ _ fun wf => ?_
  unfold c68
  refine LI_start wf ?_
  refine W ?_
  refine LIL_nl (k := 1) ?_
  refine LIL_ind (fun n a L => ∃ (i : Int) (u : AV), (∃ r : Nat → AV, a = [v, r 1, r 2, r 3, r 4, u, r 6, r 7, w, .i .i64 ix.length, .i .i64 i, r 11, r 12, r 13, r 14, r 15, r 16, r 17, r 18, r 19, r 20, r 21, r 22]) ∧ L = [.sl u 1 ((pickM l (ix.take i.toNat)).flatMap enI)] ∧ 0 ≤ i ∧ i + n = ix.length)
    ix.length ⟨0, _, exJ rfl, rfl, by omega, by omega⟩ ?_
  rintro n a L ⟨i, u, ⟨r, rfl⟩, rfl, h0, hn⟩ IH
  have hel := pickM_len l (ix.take i.toNat)
  rw [List.length_take] at hel
  refine W ?_
  (first | refine LS_gt rfl ?_ ?_ | refine LS_gf rfl ?_ ?_ | refine LI_cond rfl ?_ ?_) <;> intro hc <;> have hc' := hc <;> try simp only [decide_eq_true_eq, decide_eq_false_iff_not, Bool.not_eq_true', Bool.not_eq_false', Bool.not_eq_true, Bool.not_eq_false, beq_iff_eq, bne_iff_ne, beq_eq_false_iff_ne, bne_eq_false_iff_eq, Int.not_lt, Int.not_le, ge_iff_le, gt_iff_lt, not_and, ne_eq, Decidable.not_not] at hc'
  all_goals (try (dsimp only [st, setL, AV.cells, List.set_cons_zero, List.set_cons_succ, List.drop_zero, List.drop_succ_cons, List.take_zero, List.take_succ_cons, Nat.zero_add, Nat.add_zero, Nat.reduceAdd, List.cons_append, List.nil_append, List.eraseIdx_cons_zero, List.eraseIdx_cons_succ]))
  all_goals (refine W ?_)
  · obtain ⟨y, hy, hym, hd⟩ := drop_at (l := ix) h0 hc'
    have hyb := hob y hym
    have l1 : y.toNat < l.length := by omega
    have g1 : l[y.toNat]? = some l[y.toNat] := List.getElem?_eq_getElem l1
    have e : pickM l (ix.take (i + 1).toNat) = pickM l (ix.take i.toNat) ++ [l[y.toNat]] := by
      rw [toNat_succ h0, take_snoc hy, pickM, List.filterMap_append]
      simp [g1, pickM]
    refine LS_ix (fun h' HL => ho.le HL.le) enI1 hy h0 rfl rfl fun q1 o1 hrow1 => ?_
    try (dsimp only [st, setL, AV.cells, List.set_cons_zero, List.set_cons_succ, List.drop_zero, List.drop_succ_cons, List.take_zero, List.take_succ_cons, Nat.zero_add, Nat.add_zero, Nat.reduceAdd, List.cons_append, List.nil_append, List.eraseIdx_cons_zero, List.eraseIdx_cons_succ])
    refine W ?_
    refine LS_ix (fun h' HL => hl.le HL.le) enI1 g1 hyb.1 rfl rfl fun q2 o2 hrow2 => ?_
    try (dsimp only [st, setL, AV.cells, List.set_cons_zero, List.set_cons_succ, List.drop_zero, List.drop_succ_cons, List.take_zero, List.take_succ_cons, Nat.zero_add, Nat.add_zero, Nat.reduceAdd, List.cons_append, List.nil_append, List.eraseIdx_cons_zero, List.eraseIdx_cons_succ])
    refine W ?_
    refine LS_lt [l[y.toNat]] rfl rfl (by decide) rfl rfl rfl rfl enI1 rfl rfl fun lit4 hlit4 slit4 => ?_
    try (dsimp only [st, setL, AV.cells, List.set_cons_zero, List.set_cons_succ, List.drop_zero, List.drop_succ_cons, List.take_zero, List.take_succ_cons, Nat.zero_add, Nat.add_zero, Nat.reduceAdd, List.cons_append, List.nil_append, List.eraseIdx_cons_zero, List.eraseIdx_cons_succ])
    refine W ?_
    refine LS_ap 1 rfl (fun h' HL => HL.rdI 0 rfl enI1 (by decide)) enI1 (by decide) (by simp) (by simp; omega) (by simp; omega) rfl rfl rfl fun w5 hw5 sw5 => ?_
    try (dsimp only [st, setL, AV.cells, List.set_cons_zero, List.set_cons_succ, List.drop_zero, List.drop_succ_cons, List.take_zero, List.take_succ_cons, Nat.zero_add, Nat.add_zero, Nat.reduceAdd, List.cons_append, List.nil_append, List.eraseIdx_cons_zero, List.eraseIdx_cons_succ])
    refine W ?_
    refine LIL_drop 1 ?_
    refine IH (n - 1) _ _ (by omega) ⟨i + 1, _, exJ rfl, by rw [e]; rfl, by omega, by omega⟩
  · have ei : i.toNat = ix.length := by omega
    rw [ei, List.take_length]
    refine RET fun h' HL => ?_
    try dsimp only [oneA]
    exact HL.ownI 0 rfl enI1 (by decide)

def TupQ (l : List MatM) (ok : Bool) (r : AV) (M : List It) : Prop := ∃ w, r = .tup [w, .b ok] ∧ lenA w = some l.length ∧ w.sc = true ∧ M = [.sl w 4 (l.flatMap enMat)]

theorem TupQ.of {l : List MatM} {ok : Bool} {h0 h : AH} {w : AV} (H : AL.Own h0 4 enMat h w l) : ∃ M, TupQ l ok (.tup [w, .b ok]) M ∧ Loq h0 h M := ⟨_, ⟨w, rfl, H.rd.len, rd_sc H.rd, rfl⟩, H.loc enMat4⟩

theorem TupQ.none {h0 h : AH} {L : List It} (H : Loq h0 h L) : ∃ M, TupQ [] false (.tup [.ns, .b false]) M ∧ Loq h0 h M := ⟨_, ⟨.ns, rfl, rfl, rfl, rfl⟩, loq_ns (H.sub (List.nil_sublist _)) 4⟩

def zeroP : AV := .agg [.i .i64 0, .ns, .ns]

/-- A plan handed back, and whether. -/
def TupP (q : PlanM) (ok : Bool) (r : AV) (M : List It) : Prop := ∃ ws wo, r = .tup [.agg [.i .i64 q.n, ws, wo], .b ok] ∧ lenA ws = some q.steps.length ∧ ws.sc = true ∧ lenA wo = some q.outs.length ∧ wo.sc = true ∧ M = [.sl ws 2 (q.steps.flatMap enStep), .sl wo 1 (q.outs.flatMap enI)]

theorem TupP.none {h0 h : AH} {L : List It} (H : Loq h0 h L) : ∃ M, TupP emptyPlan false (.tup [zeroP, .b false]) M ∧ Loq h0 h M := ⟨_, ⟨.ns, .ns, rfl, rfl, rfl, rfl, rfl, rfl⟩, loq_ns (loq_ns (H.sub (List.nil_sublist _)) 1) 2⟩

theorem renamed_ac (l ix : List Int) (v w : AV) (h : AH) (hl : Rd h v l) (ho : Rd h w ix) (ho1 : ix.length ≤ 1048576) (hob : ∀ i ∈ ix, 0 ≤ i ∧ i < l.length) :
    AC Try.prog 71 [w, v] h (fun r h' => AL.Own h 1 enI h' r (pickM l ix)) := by
  refine e71 _ _ fun wf => ?_
  unfold c71
  refine LI_start wf ?_
  refine W ?_
  refine LS_lt ([] : List Int) rfl rfl (by decide) rfl rfl rfl rfl enI1 rfl rfl fun lit3 hlit3 slit3 => ?_
  try (dsimp only [st, setL, AV.cells, List.set_cons_zero, List.set_cons_succ, List.drop_zero, List.drop_succ_cons, List.take_zero, List.take_succ_cons, Nat.zero_add, Nat.add_zero, Nat.reduceAdd, List.cons_append, List.nil_append, List.eraseIdx_cons_zero, List.eraseIdx_cons_succ])
  refine W ?_
  refine LIL_ind (fun n a L => ∃ (i : Int) (u : AV), (∃ r : Nat → AV, a = [r 0, v, r 2, r 3, r 4, u, r 6, r 7, r 8, w, .i .i64 ix.length, .i .i64 i, r 12, r 13, r 14, r 15, r 16, r 17, r 18, r 19, r 20, r 21, r 22, r 23]) ∧ L = [.sl u 1 ((pickM l (ix.take i.toNat)).flatMap enI)] ∧ 0 ≤ i ∧ i + n = ix.length)
    ix.length ⟨0, _, exJ rfl, rfl, by omega, by omega⟩ ?_
  rintro n a L ⟨i, u, ⟨r, rfl⟩, rfl, h0, hn⟩ IH
  have hel := pickM_len l (ix.take i.toNat)
  rw [List.length_take] at hel
  refine W ?_
  (first | refine LS_gt rfl ?_ ?_ | refine LS_gf rfl ?_ ?_ | refine LI_cond rfl ?_ ?_) <;> intro hc <;> have hc' := hc <;> try simp only [decide_eq_true_eq, decide_eq_false_iff_not, Bool.not_eq_true', Bool.not_eq_false', Bool.not_eq_true, Bool.not_eq_false, beq_iff_eq, bne_iff_ne, beq_eq_false_iff_ne, bne_eq_false_iff_eq, Int.not_lt, Int.not_le, ge_iff_le, gt_iff_lt, not_and, ne_eq, Decidable.not_not] at hc'
  all_goals (try (dsimp only [st, setL, AV.cells, List.set_cons_zero, List.set_cons_succ, List.drop_zero, List.drop_succ_cons, List.take_zero, List.take_succ_cons, Nat.zero_add, Nat.add_zero, Nat.reduceAdd, List.cons_append, List.nil_append, List.eraseIdx_cons_zero, List.eraseIdx_cons_succ]))
  all_goals (refine W ?_)
  · obtain ⟨y, hy, hym, hd⟩ := drop_at (l := ix) h0 hc'
    have hyb := hob y hym
    have l1 : y.toNat < l.length := by omega
    have g1 : l[y.toNat]? = some l[y.toNat] := List.getElem?_eq_getElem l1
    have e : pickM l (ix.take (i + 1).toNat) = pickM l (ix.take i.toNat) ++ [l[y.toNat]] := by
      rw [toNat_succ h0, take_snoc hy, pickM, List.filterMap_append]
      simp [g1, pickM]
    refine LS_ix (fun h' HL => ho.le HL.le) enI1 hy h0 rfl rfl fun q1 o1 hrow1 => ?_
    try (dsimp only [st, setL, AV.cells, List.set_cons_zero, List.set_cons_succ, List.drop_zero, List.drop_succ_cons, List.take_zero, List.take_succ_cons, Nat.zero_add, Nat.add_zero, Nat.reduceAdd, List.cons_append, List.nil_append, List.eraseIdx_cons_zero, List.eraseIdx_cons_succ])
    refine W ?_
    refine LS_ix (fun h' HL => hl.le HL.le) enI1 g1 hyb.1 rfl rfl fun q2 o2 hrow2 => ?_
    try (dsimp only [st, setL, AV.cells, List.set_cons_zero, List.set_cons_succ, List.drop_zero, List.drop_succ_cons, List.take_zero, List.take_succ_cons, Nat.zero_add, Nat.add_zero, Nat.reduceAdd, List.cons_append, List.nil_append, List.eraseIdx_cons_zero, List.eraseIdx_cons_succ])
    refine W ?_
    refine LS_lt [l[y.toNat]] rfl rfl (by decide) rfl rfl rfl rfl enI1 rfl rfl fun lit4 hlit4 slit4 => ?_
    try (dsimp only [st, setL, AV.cells, List.set_cons_zero, List.set_cons_succ, List.drop_zero, List.drop_succ_cons, List.take_zero, List.take_succ_cons, Nat.zero_add, Nat.add_zero, Nat.reduceAdd, List.cons_append, List.nil_append, List.eraseIdx_cons_zero, List.eraseIdx_cons_succ])
    refine W ?_
    refine LS_ap 1 rfl (fun h' HL => HL.rdI 0 rfl enI1 (by decide)) enI1 (by decide) (by simp) (by simp; omega) (by simp; omega) rfl rfl rfl fun w5 hw5 sw5 => ?_
    try (dsimp only [st, setL, AV.cells, List.set_cons_zero, List.set_cons_succ, List.drop_zero, List.drop_succ_cons, List.take_zero, List.take_succ_cons, Nat.zero_add, Nat.add_zero, Nat.reduceAdd, List.cons_append, List.nil_append, List.eraseIdx_cons_zero, List.eraseIdx_cons_succ])
    refine W ?_
    refine LIL_drop 1 ?_
    refine IH (n - 1) _ _ (by omega) ⟨i + 1, _, exJ rfl, by rw [e]; rfl, by omega, by omega⟩
  · have ei : i.toNat = ix.length := by omega
    rw [ei, List.take_length]
    refine RET fun h' HL => ?_
    try dsimp only [oneA]
    exact HL.ownI 0 rfl enI1 (by decide)

def TupPP (q1 q2 : PlanM) (ok : Bool) (r : AV) (M : List It) : Prop := ∃ ws wo xs xo, r = .tup [.agg [.i .i64 q1.n, ws, wo], .agg [.i .i64 q2.n, xs, xo], .b ok] ∧ (lenA ws = some q1.steps.length ∧ ws.sc = true ∧ lenA wo = some q1.outs.length ∧ wo.sc = true) ∧ (lenA xs = some q2.steps.length ∧ xs.sc = true ∧ lenA xo = some q2.outs.length ∧ xo.sc = true) ∧ M = [.sl ws 2 (q1.steps.flatMap enStep), .sl wo 1 (q1.outs.flatMap enI), .sl xs 2 (q2.steps.flatMap enStep), .sl xo 1 (q2.outs.flatMap enI)]

theorem TupPP.none {h0 h : AH} {L : List It} (H : Loq h0 h L) : ∃ M, TupPP emptyPlan emptyPlan false (.tup [zeroP, zeroP, .b false]) M ∧ Loq h0 h M := ⟨_, ⟨.ns, .ns, .ns, .ns, rfl, ⟨rfl, rfl, rfl, rfl⟩, ⟨rfl, rfl, rfl, rfl⟩, rfl⟩, loq_ns (loq_ns (loq_ns (loq_ns (H.sub (List.nil_sublist _)) 1) 2) 1) 2⟩

theorem rSame_ac (l : List Int) (v u : AV) (h : AH) (hv : Rd h v l) (hu : Rd h u l) (hl : l.length ≤ 4611686018427387904) :
    AC Try.prog 19 [v, u] h (fun r h' => r = .b true ∧ h.le h') := by
  have hvl := hv.len
  have hul := hu.len
  refine e19 _ _ fun wf => ?_
  unfold c19
  refine LI_start wf ?_
  refine W ?_
  first | (refine LS_gtnH rfl (by simp) ?_; intro hg; try (dsimp only [st, setL, AV.cells, List.set_cons_zero, List.set_cons_succ, List.drop_zero, List.drop_succ_cons, List.take_zero, List.take_succ_cons, Nat.zero_add, Nat.add_zero, Nat.reduceAdd, List.cons_append, List.nil_append, List.eraseIdx_cons_zero, List.eraseIdx_cons_succ])) | (refine LS_gfnH rfl (by simp) ?_; intro hg; try (dsimp only [st, setL, AV.cells, List.set_cons_zero, List.set_cons_succ, List.drop_zero, List.drop_succ_cons, List.take_zero, List.take_succ_cons, Nat.zero_add, Nat.add_zero, Nat.reduceAdd, List.cons_append, List.nil_append, List.eraseIdx_cons_zero, List.eraseIdx_cons_succ])) | (refine LI_cond_fH rfl (by simp) ?_; intro hg)
  refine W ?_
  refine LIL_ind (fun k a L => ∃ (i : Int), (∃ r : Nat → AV, a = [v, u, r 2, r 3, .b false, r 5, r 6, r 7, r 8, r 9, r 10, r 11, .i .i64 l.length, .i .i64 i, r 14, r 15, r 16, r 17, r 18, r 19, r 20, r 21, r 22, r 23, r 24, r 25]) ∧ L = [] ∧ 0 ≤ i ∧ i + k = l.length)
    l.length ⟨0, exJ rfl, rfl, by omega, by omega⟩ ?_
  rintro k a L ⟨i, ⟨r, rfl⟩, rfl, h0, hk⟩ IH
  refine W ?_
  (first | refine LS_gt rfl ?_ ?_ | refine LS_gf rfl ?_ ?_ | refine LI_cond rfl ?_ ?_) <;> intro hc <;> have hc' := hc <;> try simp only [decide_eq_true_eq, decide_eq_false_iff_not, Bool.not_eq_true', Bool.not_eq_false', Bool.not_eq_true, Bool.not_eq_false, beq_iff_eq, bne_iff_ne, beq_eq_false_iff_ne, bne_eq_false_iff_eq, Int.not_lt, Int.not_le, ge_iff_le, gt_iff_lt, not_and, ne_eq, Decidable.not_not] at hc'
  all_goals (try (dsimp only [st, setL, AV.cells, List.set_cons_zero, List.set_cons_succ, List.drop_zero, List.drop_succ_cons, List.take_zero, List.take_succ_cons, Nat.zero_add, Nat.add_zero, Nat.reduceAdd, List.cons_append, List.nil_append, List.eraseIdx_cons_zero, List.eraseIdx_cons_succ]))
  all_goals (refine W ?_)
  · obtain ⟨y, hy, hym, _⟩ := drop_at (l := l) h0 hc'
    refine dz19_0 ?_
    refine WX ?_
    refine W ?_
    refine LX_ix (fun h' HL => hv.le HL.le) enI1 hy h0 rfl rfl noG fun q1 o1 hrow1 => ?_
    try (dsimp only [st, setL, AV.cells, List.set_cons_zero, List.set_cons_succ, List.drop_zero, List.drop_succ_cons, List.take_zero, List.take_succ_cons, Nat.zero_add, Nat.add_zero, Nat.reduceAdd, List.cons_append, List.nil_append, List.eraseIdx_cons_zero, List.eraseIdx_cons_succ])
    refine WX ?_
    refine W ?_
    refine LX_ix (fun h' HL => hu.le HL.le) enI1 hy h0 rfl rfl noG fun q2 o2 hrow2 => ?_
    try (dsimp only [st, setL, AV.cells, List.set_cons_zero, List.set_cons_succ, List.drop_zero, List.drop_succ_cons, List.take_zero, List.take_succ_cons, Nat.zero_add, Nat.add_zero, Nat.reduceAdd, List.cons_append, List.nil_append, List.eraseIdx_cons_zero, List.eraseIdx_cons_succ])
    refine WX ?_
    refine W ?_
    first | (refine LS_gtnH rfl (by simp) ?_; intro hg; try (dsimp only [st, setL, AV.cells, List.set_cons_zero, List.set_cons_succ, List.drop_zero, List.drop_succ_cons, List.take_zero, List.take_succ_cons, Nat.zero_add, Nat.add_zero, Nat.reduceAdd, List.cons_append, List.nil_append, List.eraseIdx_cons_zero, List.eraseIdx_cons_succ])) | (refine LS_gfnH rfl (by simp) ?_; intro hg; try (dsimp only [st, setL, AV.cells, List.set_cons_zero, List.set_cons_succ, List.drop_zero, List.drop_succ_cons, List.take_zero, List.take_succ_cons, Nat.zero_add, Nat.add_zero, Nat.reduceAdd, List.cons_append, List.nil_append, List.eraseIdx_cons_zero, List.eraseIdx_cons_succ])) | (refine LI_cond_fH rfl (by simp) ?_; intro hg)
    refine W ?_
    refine IH (k - 1) _ _ (by omega) ⟨i + 1, exJ rfl, rfl, by omega, by omega⟩
  · refine RET fun h' HL => ?_
    try dsimp only [oneA]
    exact ⟨rfl, HL.le⟩

def TupS (l : List (List Int)) (ok : Bool) (r : AV) (M : List It) : Prop := ∃ w us, r = .tup [w, .b ok] ∧ us.length = l.length ∧ lenA w = some us.length ∧ w.sc = true ∧ M = ssI w us l

theorem TupS.none {h0 h : AH} {L : List It} (H : Loq h0 h L) : ∃ M, TupS [] false (.tup [.ns, .b false]) M ∧ Loq h0 h M := ⟨_, ⟨.ns, [], rfl, rfl, rfl, rfl, rfl⟩, loq_ns (H.sub (List.nil_sublist _)) 1⟩

def chB (lo m : Int) (c : List Int) : Prop := ∀ x ∈ c, lo ≤ x ∧ x ≤ m

theorem chB.mono {lo m lo' m' : Int} {c : List Int} (h : chB lo m c) (h0 : lo' ≤ lo) (h1 : m ≤ m') : chB lo' m' c := fun x hx => by have := h x hx; omega

theorem chB.set {lo m : Int} {c : List Int} {z : Int} (h : chB lo m c) (i : Nat) (h0 : lo ≤ z) (h1 : z ≤ m) : chB lo m (c.set i z) := fun x hx => by
  rcases List.mem_or_eq_of_mem_set hx with hx | rfl
  · exact h x hx
  · exact ⟨h0, h1⟩

structure TS (ws0 : List (Int × List Int)) (s : List Int × List (Int × List Int)) (B : Nat) : Prop where
  nl : s.1.length ≤ B
  nb : ∀ n ∈ s.1, 0 ≤ n ∧ n ≤ 256
  pre : ∃ t, s.2 = ws0 ++ t
  wb : ∀ p ∈ s.2, 1 ≤ p.2.length ∧ p.2.length ≤ 14 ∧ ∀ x ∈ p.2, 0 ≤ x ∧ x ≤ 256

theorem TS.mono {ws0 : List (Int × List Int)} {s : List Int × List (Int × List Int)} {B B' : Nat} (H : TS ws0 s B) (h : B ≤ B') : TS ws0 s B' := ⟨Nat.le_trans H.nl h, H.nb, H.pre, H.wb⟩

/-! ### A slice of ints sorted by the library -/
open Go.Shelf in
def Try.mSort_ren : Go.Shelf.Ren := ⟨fun | 5 => 90 | 8 => 98 | 7 => 97 | 19 => 110 | 20 => 111 | 10 => 101 | 11 => 102 | 12 => 103 | 13 => 104 | 14 => 105 | 15 => 106 | 16 => 107 | 17 => 108 | 18 => 109 | 30 => 112 | 31 => 113 | 32 => 114 | 33 => 115 | 34 => 116 | 35 => 117 | 40 => 118 | n => n, fun | 23 => 31 | 25 => 3 | 3 => 3 | 32 => 97 | 22 => 31 | 0 => 0 | 44 => 111 | 46 => 61 | 4 => 4 | 36 => 105 | 35 => 104 | 41 => 41 | 5 => 5 | 9 => 9 | 53 => 113 | 57 => 117 | 63 => 119 | 64 => 120 | n => n, fun | n => n⟩
open Go.Shelf in
theorem Try.mSort : Go.Proofs.SlLaysM.n5 Try.prog Try.mSort_ren := {
  mixed := by kernel_rfl
  f5 := ⟨Try.f90.name, by decide, Try.func90.trans (congrArg some (by kernel_rfl))⟩
  f7 := ⟨Try.f97.name, by decide, Try.func97.trans (congrArg some (by kernel_rfl))⟩
  f8 := Try.func98.trans (congrArg some (by kernel_rfl))
  f10 := ⟨Try.f101.name, by decide, Try.func101.trans (congrArg some (by kernel_rfl))⟩
  f11 := ⟨Try.f102.name, by decide, Try.func102.trans (congrArg some (by kernel_rfl))⟩
  f12 := ⟨Try.f103.name, by decide, Try.func103.trans (congrArg some (by kernel_rfl))⟩
  f13 := ⟨Try.f104.name, by decide, Try.func104.trans (congrArg some (by kernel_rfl))⟩
  f14 := ⟨Try.f105.name, by decide, Try.func105.trans (congrArg some (by kernel_rfl))⟩
  f15 := ⟨Try.f106.name, by decide, Try.func106.trans (congrArg some (by kernel_rfl))⟩
  f16 := ⟨Try.f107.name, by decide, Try.func107.trans (congrArg some (by kernel_rfl))⟩
  f17 := ⟨Try.f108.name, by decide, Try.func108.trans (congrArg some (by kernel_rfl))⟩
  f18 := ⟨Try.f109.name, by decide, Try.func109.trans (congrArg some (by kernel_rfl))⟩
  f19 := Try.func110.trans (congrArg some (by kernel_rfl))
  f20 := Try.func111.trans (congrArg some (by kernel_rfl))
  f30 := ⟨Try.f112.name, by decide, Try.func112.trans (congrArg some (by kernel_rfl))⟩
  f31 := Try.func113.trans (congrArg some (by kernel_rfl))
  f32 := Try.func114.trans (congrArg some (by kernel_rfl))
  f33 := ⟨Try.f115.name, by decide, Try.func115.trans (congrArg some (by kernel_rfl))⟩
  f34 := ⟨Try.f116.name, by decide, Try.func116.trans (congrArg some (by kernel_rfl))⟩
  f35 := ⟨Try.f117.name, by decide, Try.func117.trans (congrArg some (by kernel_rfl))⟩
  f40 := ⟨Try.f118.name, by decide, Try.func118.trans (congrArg some (by kernel_rfl))⟩
  t0 := Try.underlying0
  a0 := Try.isAgg0
  z0 := Try.sizeOf0
  v0 := Try.zeroValue0
  t3 := Try.underlying3
  a3 := Try.isAgg3
  z3 := Try.sizeOf3
  v3 := Try.zeroValue3
  t4 := Try.underlying4
  a4 := Try.isAgg4
  z4 := Try.sizeOf4
  v4 := Try.zeroValue4
  t5 := Try.underlying5
  a5 := Try.isAgg5
  z5 := Try.sizeOf5
  v5 := Try.zeroValue5
  t9 := Try.underlying9
  a9 := Try.isAgg9
  z9 := Try.sizeOf9
  v9 := Try.zeroValue9
  t22 := Try.underlying31
  a22 := Try.isAgg31
  z22 := Try.sizeOf31
  v22 := Try.zeroValue31
  t23 := Try.underlying31
  a23 := Try.isAgg31
  z23 := Try.sizeOf31
  v23 := Try.zeroValue31
  t25 := Try.underlying3
  a25 := Try.isAgg3
  z25 := Try.sizeOf3
  v25 := Try.zeroValue3
  t32 := Try.underlying97
  a32 := Try.isAgg97
  z32 := Try.sizeOf97
  v32 := Try.zeroValue97
  t35 := Try.underlying104
  a35 := Try.isAgg104
  z35 := Try.sizeOf104
  v35 := Try.zeroValue104
  t36 := Try.underlying105
  a36 := Try.isAgg105
  z36 := Try.sizeOf105
  v36 := Try.zeroValue105
  t41 := Try.underlying41
  a41 := Try.isAgg41
  z41 := Try.sizeOf41
  v41 := Try.zeroValue41
  t44 := Try.underlying111
  a44 := Try.isAgg111
  z44 := Try.sizeOf111
  v44 := Try.zeroValue111
  t46 := Try.underlying61
  a46 := Try.isAgg61
  z46 := Try.sizeOf61
  v46 := Try.zeroValue61
  t53 := Try.underlying113
  a53 := Try.isAgg113
  z53 := Try.sizeOf113
  v53 := Try.zeroValue113
  t57 := Try.underlying117
  a57 := Try.isAgg117
  z57 := Try.sizeOf117
  v57 := Try.zeroValue117
  t63 := Try.underlying119
  a63 := Try.isAgg119
  z63 := Try.sizeOf119
  v63 := Try.zeroValue119
  t64 := Try.underlying120
  a64 := Try.isAgg120
  z64 := Try.sizeOf120
  v64 := Try.zeroValue120 }
theorem slSort_ac {h0 h : AH} {L : List It} {v : AV} {l : List Int} (HL : Loq h0 h (.sl v 1 (l.flatMap enI) :: L)) (hl : l.length < 4611686018427387904) :
    AC Try.prog 90 [v] h (fun r h' => ∃ M, (r = un ∧ M = .sl v 1 ((l.mergeSort fun x y => decide (x ≤ y)).flatMap enI) :: L) ∧ Loq h0 h' M) :=
  sort_ac ⟨_, Try.func90, by kernel_rfl, by kernel_rfl⟩ (fun blk off cap zs w hH hb hs => AnyM.slices_Sort_int Try.mSort blk off cap zs w hH hb hs) (fun p cap w => AnyM.slices_Sort_int_none Try.mSort p cap w) HL hl

/-! ### The ends of star chains: the laws -/
theorem nodup_len : ∀ (n : Nat) (l : List Nat), l.Nodup → (∀ j ∈ l, j < n) → l.length ≤ n
  | 0, l, _, h => by
    cases l with
    | nil => simp
    | cons x l => have := h x (by simp); omega
  | n + 1, l, hn, h => by
    by_cases hm : n ∈ l
    · have h1 := List.length_erase_of_mem hm
      have h2 := nodup_len n (l.erase n) (hn.erase n) (fun j hj => by
        have h3 := (List.Nodup.mem_erase_iff hn).1 hj
        have := h j h3.2
        have := h3.1
        omega)
      omega
    · have := nodup_len n l hn (fun j hj => by
        have h1 := h j hj
        have : j ≠ n := fun e => hm (e ▸ hj)
        omega)
      omega

/-! ### slices.Values, collected -/
open Go.Shelf in
def Try.mApp_ren : Go.Shelf.Ren := ⟨fun | 11 => 96 | n => n, fun | 24 => 31 | 26 => 3 | 28 => 85 | 0 => 0 | 33 => 65 | 4 => 4 | n => n, fun | n => n⟩
open Go.Shelf in
theorem Try.mApp : Go.Proofs.SlLaysZI.n11 Try.prog Try.mApp_ren := {
  mixed := by kernel_rfl
  f11 := ⟨Try.f96.name, by decide, Try.func96.trans (congrArg some (by kernel_rfl))⟩
  t0 := Try.underlying0
  a0 := Try.isAgg0
  z0 := Try.sizeOf0
  v0 := Try.zeroValue0
  t24 := Try.underlying31
  a24 := Try.isAgg31
  z24 := Try.sizeOf31
  v24 := Try.zeroValue31
  t26 := Try.underlying3
  a26 := Try.isAgg3
  z26 := Try.sizeOf3
  v26 := Try.zeroValue3
  t28 := Try.underlying85
  a28 := Try.isAgg85
  z28 := Try.sizeOf85
  v28 := Try.zeroValue85
  i26 := by kernel_rfl }
def uptoV (zs : List Int) (k : Nat) : List Int := (List.range k).map fun j => zs[j]?.getD 0

theorem uptoV_succ (zs : List Int) (k : Nat) : uptoV zs (k + 1) = uptoV zs k ++ [zs[k]?.getD 0] := by simp [uptoV, List.range_succ]

theorem uptoV_length (zs : List Int) (k : Nat) : (uptoV zs k).length = k := by simp [uptoV]

theorem uptoV_all (zs : List Int) : uptoV zs zs.length = zs := by
  apply List.ext_getElem
  · simp [uptoV]
  · intro i h1 h2
    simp [uptoV, h2]
open Go.RowKit Go.Shelf Go.Sort Go.Maps Go.Proofs in

attribute [local go_sem] Oper.semAt_some in
set_option maxHeartbeats 2000000 in
theorem values1_in (F : Fence) (n : Nat) (h7 : F.fn 91) (hro : F.round = none) (hn : 1 ≤ n) (l Bs bo n₀ b off len cap : Nat) (zs : List Int) (hreach : len * 8 ≤ 140737488351232) (hb : 0 < len → b < n₀) (J : List Int → World → Prop) (w0 : World) (hJb : ∀ pre W, J pre W → Below n₀ w0 W)
    (hY : ∀ pre x W, J pre W → pre.length < len → YieldAt F (n - 1) Try.prog l #[.int .i64 x] W fun e W' => e = .returned (.bool true) ∧ J (pre ++ [x]) W' ∧ KeepsWalks W W')
    (W : World) (hBs : W.cell? ⟨Bs, bo, none⟩ = some (.slice (some ⟨b, off, none⟩) len cap)) (hc : ∀ j, j < len → w0.cell? ⟨b, off + j, none⟩ = some (.int .i64 (zs[j]?.getD 0))) (h0 : J [] W) :
    CallsIn F n Try.prog 91 #[.func (.yield l) #[] #[], .pointer (some ⟨Bs, bo, none⟩)] W fun e W' => (∃ v, e = .returned v) ∧ J (uptoV zs len) W' := by
  refine callsIn_of_wp Try.func91 rfl h7 ?_ hro
  simp only [Try.ntmps91, List.size_toArray, List.length_cons, List.length_nil, Nat.reduceAdd, Nat.reduceSub, Array.replicate_succ, Array.replicate_zero, List.push_toArray, List.append_toArray, List.nil_append, List.cons_append]
  gi_wp2
  gi_loopw [7] (fun i wr => ∃ k : Nat, k ≤ len ∧ i = .int .i64 k ∧ J (uptoV zs k) wr)
    (fun i _ => len - (intOf i).toNat)
  case atStart => exact ⟨0, Nat.zero_le _, rfl, h0⟩
  case round =>
    obtain ⟨k, hk, rfl, hJs⟩ := hrel
    have hnx := hJb _ _ hJs
    have hcx : k < len → wr.cell? ⟨b, off + k, none⟩ = some (.int .i64 (zs[k]?.getD 0)) := fun h => (hnx.cell (p := ⟨b, off + k, none⟩) (hb (by omega))).trans (hc k h)
    by_cases hlt : k < len
    · obtain ⟨fn, tmps, assign, body, hy, hR⟩ := hY _ (zs[k]?.getD 0) wr hJs (by rw [uptoV_length]; exact hlt)
      have hcx' := hcx hlt
      gi_wp2
      refine hR.mono ?_
      rintro e W3 ⟨rfl, hJ3, _⟩
      gi_wp2
      go_roundw
      case rel => exact ⟨k + 1, by omega, by simp, by rw [uptoV_succ]; exact hJ3⟩
      case measure => simp [intOf]; omega
    · obtain rfl : k = len := by omega
      gi_wp2
      go_end0
      exact ⟨⟨_, rfl⟩, hJs⟩
open Go.RowKit Go.Shelf Go.Sort Go.Maps Go.Proofs in

attribute [local go_sem] Oper.semAt_some in
set_option maxHeartbeats 2000000 in
theorem values1_nil_in (F : Fence) (n : Nat) (h7 : F.fn 91) (hro : F.round = none) (l Bs bo : Nat) (p : Option Addr) (cap : Nat) (J : List Int → World → Prop) (W : World) (hBs : W.cell? ⟨Bs, bo, none⟩ = some (.slice p 0 cap)) (h0 : J [] W) :
    CallsIn F n Try.prog 91 #[.func (.yield l) #[] #[], .pointer (some ⟨Bs, bo, none⟩)] W fun e W' => (∃ v, e = .returned v) ∧ J [] W' := by
  refine callsIn_of_wp Try.func91 rfl h7 ?_ hro
  simp only [Try.ntmps91, List.size_toArray, List.length_cons, List.length_nil, Nat.reduceAdd, Nat.reduceSub, Array.replicate_succ, Array.replicate_zero, List.push_toArray, List.append_toArray, List.nil_append, List.cons_append]
  gi_wp2
  gi_loopw [7] (fun i wr => i = .int .i64 0 ∧ J [] wr) (fun _ _ => 0)
  case atStart => exact ⟨rfl, h0⟩
  case round =>
    obtain ⟨rfl, hJs⟩ := hrel
    gi_wp2
    go_end0
    exact ⟨⟨_, rfl⟩, hJs⟩
open Go.RowKit Go.Shelf Go.Maps Go.Proofs in

theorem appendSeq_ac {h : AH} {b o : Nat} {v : AV} {l : List Int} (wf : h.wf) (hcell : h.cell b o = some v) (hR : Rd h v l) (hl : l.length ≤ 1048576) :
    AC Try.prog 96 [.ns, .f 91 [.p b o]] h (fun r h' => AL.Own h 1 enI h' r l) := by
  refine AC_mk Try.func96 (by kernel_rfl) (by kernel_rfl) fun base w0 ι w cargs hrep hv => ?_
  obtain ⟨pl, hp, hca⟩ : ∃ pl : AL.Place, ι.bl[b]? = some pl ∧ cargs = #[.slice none 0 0, .func (.func 91) #[] #[.pointer (some ⟨pl.c, pl.o + o, none⟩)]] := by
    cases cargs with
    | mk cl =>
      simp only at hv
      cases hv with
      | cons h1 t =>
        cases h1
        cases t with
        | cons h2 t =>
          cases t
          cases h2 with
          | f _ _ vs h3 =>
            cases vs with
            | mk vl =>
              simp only at h3
              cases h3 with
              | cons h4 t4 =>
                cases t4
                cases h4 with
                | p _ _ pl e => exact ⟨pl, e, rfl⟩
  subst hca
  obtain ⟨row, hrow, hro⟩ : ∃ row, h.cs[b]? = some row ∧ row[o]? = some v := by
    unfold AH.cell at hcell
    cases hr : h.cs[b]? with
    | none => rw [hr] at hcell; simp at hcell
    | some row => rw [hr] at hcell; exact ⟨row, rfl, hcell⟩
  obtain ⟨cv, hcc, hcv⟩ := hrep.cell b pl row hp hrow o v hro
  have hIn : ∀ (J : List Int → World → Prop) (lp : Nat) (W : World), Below w.heap.size w W → (∀ pre W, J pre W → Below w.heap.size w W) → (∀ pre x W1, J pre W1 → pre.length < l.length → YieldAt Fence.wide (5 - 1 - 1) Try.prog lp #[.int .i64 x] W1 fun e W' => e = .returned (.bool true) ∧ J (pre ++ [x]) W' ∧ KeepsWalks W1 W') → J [] W →
      CallsIn Fence.wide (5 - 1) Try.prog 91 #[.func (.yield lp) #[] #[], .pointer (some ⟨pl.c, pl.o + o, none⟩)] W fun e W' => (∃ v, e = .returned v) ∧ J l W' := by
    intro J lp W hb hJb hY h0
    have hc' : W.cell? ⟨pl.c, pl.o + o, none⟩ = some cv := (hb.cell (p := ⟨pl.c, pl.o + o, none⟩) (hrep.inb b pl hp)).trans hcc
    have hln := hR.len
    rcases hR.rd with rfl | ⟨b2, o2, c2, rfl, hg1, hg2⟩
    · have : l = [] := by simp [lenA] at hln; exact List.eq_nil_of_length_eq_zero hln.symm
      subst this
      cases hcv
      exact values1_nil_in Fence.wide _ trivial rfl lp _ _ _ _ J W hc' h0
    · cases hcv with
      | sl _ _ _ _ pl2 x cap hp2 hcap hcl hx =>
        have key : ∀ j, j < l.length → x.block < w.heap.size ∧ w.cell? ⟨x.block, x.off + j, none⟩ = some (.int .i64 (l[j]?.getD 0)) ∧ x = ⟨x.block, x.off, none⟩ := by
          intro j hj
          rcases hx with hx | ⟨rfl, _⟩
          · omega
          · obtain ⟨row2, e1, e2, e3, e4⟩ := row_get hg1
            have hlf : (l.flatMap enI).length = l.length := by rw [flatMap_len enI1]; omega
            have h5 : row2[o2 + j]? = some (.i .i64 (l[j]?.getD 0)) := by
              have h6 : (l.flatMap enI)[j]? = some (.i .i64 (l[j]?.getD 0)) := by rw [flatMap_enI]; simp [hj]
              rw [e3, List.getElem?_take_of_lt (by omega), List.getElem?_drop] at h6
              exact h6
            obtain ⟨cv2, h7, h8⟩ := hrep.cell b2 pl2 row2 hp2 e1 (o2 + j) _ h5
            cases h8
            exact ⟨hrep.inb b2 pl2 hp2, by rw [show pl2.o + o2 + j = pl2.o + (o2 + j) by omega]; exact h7, rfl⟩
        by_cases hl0 : l = []
        · subst hl0
          exact values1_nil_in Fence.wide _ trivial rfl lp _ _ _ _ J W hc' h0
        · have hpos := List.length_pos_iff.2 hl0
          obtain ⟨_, _, ex⟩ := key 0 hpos
          rw [ex] at hc'
          have := values1_in Fence.wide (5 - 1) trivial rfl (by decide) lp pl.c (pl.o + o) w.heap.size x.block x.off l.length cap l (by omega) (fun _ => (key 0 hpos).1) J w hJb hY W hc' (fun j hj => (key j hj).2.1) h0
          rw [uptoV_all] at this
          exact this
  have H := appendSeqJ_in Try.mApp Fence.wide 5 trivial rfl (by decide) 91 #[.pointer (some ⟨pl.c, pl.o + o, none⟩)] trivial (enters_of Try.func91 (by kernel_rfl) rfl) (fun ss => ss = l) l.length (by unfold maxLen; omega) (by omega) w
    (fun fn lp Bs D W hb hY h0 => (hIn _ lp W hb (fun pre W h => h.below) hY h0).mono fun e W' ⟨he, hj⟩ => ⟨he, l, rfl, hj⟩)
  refine (callsIn_wide.1 H).mono ?_
  rintro e w' ⟨rv, ss, rfl, rfl, hrow, hnil, hb⟩
  have hrep' := hrep.below_keep hb
  rcases hrow.2 with ⟨rfl, hz⟩ | ⟨gb, cap, cur, rfl, hbase, hgb, r1, r2, r3, r4⟩
  · have : ss = [] := List.eq_nil_of_length_eq_zero hz
    subst this
    exact ⟨.ns, _, ι, h, rfl, .refl ι, hrep', .ns, AL.Own.nil wf (.refl h) wf _ _⟩
  · have hfl : (ss.flatMap enI).length = ss.length := by rw [flatMap_len enI1]; omega
    refine ⟨.sl h.cs.length 0 ss.length false, _, ι.add ⟨gb, 0, cur.size, 1⟩, h.new 1 (ss.flatMap enI), rfl, ι.le_add _, hrep'.addOwn hgb (by have := hrep.base_le; omega) (fun b pl e => by have := hrep.inb b pl e; omega) ?_ ?_ ?_, .sl _ _ _ _ ⟨gb, 0, cur.size, 1⟩ ⟨gb, 0, none⟩ cap ?_ r1 (by simp) (.inr ⟨rfl, by simp only; omega⟩), AL.Own.fresh wf (.refl h) wf enI1 ss false rfl rfl⟩
    · rw [hfl, flatMap_enI]
      have e : cur.toList.take ss.length = ss.map (Value.int .i64) := by
        have := r4
        rw [Nat.mul_one] at this
        exact this
      rw [e]
      exact vrels_ints _ ss
    · rw [hfl]; omega
    · rw [flatMap_enI]; simp [AV.sc]
    · rw [← hrep.lb]; exact get_new _ _

/-! ### Orders: slices.Sorted(slices.Values(list)) -/
theorem sortedV_ac {h : AH} {b o : Nat} {v : AV} {l : List Int} (hcell : h.cell b o = some v) (hR : Rd h v l) (hl : l.length ≤ 1048576) :
    AC Try.prog 74 [.f 91 [.p b o]] h (fun r h' => AL.Own h 1 enI h' r (l.mergeSort fun x y => decide (x ≤ y))) := by
  have hcol : ∀ h', h.le h' → h'.wf → AC Try.prog 89 [.f 91 [.p b o]] h' (fun r h2 => AL.Own h' 1 enI h2 r l) := by
    intro h' hle wf'
    have hc' : h'.cell b o = some v := hle.cell hcell
    refine e89 _ fun wf => ?_
    unfold c89
    refine LI_start wf ?_
    refine W ?_
    refine LS_co (fun h2 HL wf2 => appendSeq_ac wf2 (HL.le.cell hc') ((hR.le hle).le HL.le) hl) enI1 rfl rfl fun w lw sw => ?_
    try (dsimp only [st, setL, AV.cells, List.set_cons_zero, List.set_cons_succ, List.drop_zero, List.drop_succ_cons, List.take_zero, List.take_succ_cons, Nat.zero_add, Nat.add_zero, Nat.reduceAdd, List.cons_append, List.nil_append, List.eraseIdx_cons_zero, List.eraseIdx_cons_succ])
    refine W ?_
    refine RET fun h' HL => ?_
    try dsimp only [oneA]
    exact HL.ownI 0 rfl enI1 (by decide)
  refine e74 _ fun wf => ?_
  unfold c74
  refine LI_start wf ?_
  refine W ?_
  refine LS_co (fun h2 HL wf2 => hcol h2 HL.le wf2) enI1 rfl rfl fun w lw sw => ?_
  try (dsimp only [st, setL, AV.cells, List.set_cons_zero, List.set_cons_succ, List.drop_zero, List.drop_succ_cons, List.take_zero, List.take_succ_cons, Nat.zero_add, Nat.add_zero, Nat.reduceAdd, List.cons_append, List.nil_append, List.eraseIdx_cons_zero, List.eraseIdx_cons_succ])
  refine W ?_
  refine LS_cm (.refl _) (fun h' HL' wf => slSort_ac HL' (by omega)) rfl rfl ?_
  try (dsimp only [st, setL, AV.cells, List.set_cons_zero, List.set_cons_succ, List.drop_zero, List.drop_succ_cons, List.take_zero, List.take_succ_cons, Nat.zero_add, Nat.add_zero, Nat.reduceAdd, List.cons_append, List.nil_append, List.eraseIdx_cons_zero, List.eraseIdx_cons_succ])
  refine W ?_
  rintro _ _ ⟨rfl, rfl⟩
  try (dsimp only [st, setL, AV.cells, List.set_cons_zero, List.set_cons_succ, List.drop_zero, List.drop_succ_cons, List.take_zero, List.take_succ_cons, Nat.zero_add, Nat.add_zero, Nat.reduceAdd, List.cons_append, List.nil_append, List.eraseIdx_cons_zero, List.eraseIdx_cons_succ])
  refine W ?_
  refine RET fun h' HL => ?_
  try dsimp only [oneA]
  exact HL.ownI 0 rfl enI1 (by decide)

theorem valuesV_ac {h : AH} {v : AV} {l : List Int} (hR : Rd h v l) :
    AC Try.prog 75 [v] h (fun r h' => ∃ M, (∃ b, r = .f 91 [.p b 0] ∧ M = [.pt b [v]]) ∧ Loq h h' M) := by
  have sv := rd_sc hR
  refine e75 _ fun wf => ?_
  unfold c75
  refine LI_start wf ?_
  refine W ?_
  refine LS_bx1 rfl sv fun b => ?_
  try (dsimp only [st, setL, AV.cells, List.set_cons_zero, List.set_cons_succ, List.drop_zero, List.drop_succ_cons, List.take_zero, List.take_succ_cons, Nat.zero_add, Nat.add_zero, Nat.reduceAdd, List.cons_append, List.nil_append, List.eraseIdx_cons_zero, List.eraseIdx_cons_succ])
  refine W ?_
  refine RET fun h' HL => ?_
  try dsimp only [oneA]
  exact ⟨_, ⟨b, rfl, rfl⟩, HL⟩

theorem eqV_ac (l m : List Int) (v u : AV) (h : AH) (hv : Rd h v l) (hu : Rd h u m) (hl : l.length ≤ 4611686018427387904) (hm : m.length ≤ 4611686018427387904) :
    AC Try.prog 44 [v, u] h (fun r h' => r = .b (decide (l = m)) ∧ h.le h') := by
  have hvl := hv.len
  have hul := hu.len
  refine e44 _ _ fun wf => ?_
  unfold c44
  refine LI_start wf ?_
  refine W ?_
  by_cases hlm : l.length = m.length
  · first | (refine LS_gtnH rfl (by simp; omega) ?_; intro hg; try (dsimp only [st, setL, AV.cells, List.set_cons_zero, List.set_cons_succ, List.drop_zero, List.drop_succ_cons, List.take_zero, List.take_succ_cons, Nat.zero_add, Nat.add_zero, Nat.reduceAdd, List.cons_append, List.nil_append, List.eraseIdx_cons_zero, List.eraseIdx_cons_succ])) | (refine LS_gfnH rfl (by simp; omega) ?_; intro hg; try (dsimp only [st, setL, AV.cells, List.set_cons_zero, List.set_cons_succ, List.drop_zero, List.drop_succ_cons, List.take_zero, List.take_succ_cons, Nat.zero_add, Nat.add_zero, Nat.reduceAdd, List.cons_append, List.nil_append, List.eraseIdx_cons_zero, List.eraseIdx_cons_succ])) | (refine LI_cond_fH rfl (by simp; omega) ?_; intro hg)
    refine W ?_
    refine LIL_ind (fun k a L => ∃ (i : Int), (∃ r : Nat → AV, a = [v, u, r 2, r 3, .b false, r 5, r 6, r 7, r 8, r 9, r 10, r 11, .i .i64 l.length, .i .i64 i, r 14, r 15, r 16, r 17, r 18, r 19, r 20, r 21, r 22, r 23, r 24, r 25]) ∧ L = [] ∧ 0 ≤ i ∧ i + k = l.length ∧ decide (l = m) = decide (l.drop i.toNat = m.drop i.toNat))
      l.length ⟨0, exJ rfl, rfl, by omega, by omega, rfl⟩ ?_
    rintro k a L ⟨i, ⟨r, rfl⟩, rfl, h0, hk, hd⟩ IH
    refine W ?_
    (first | refine LS_gt rfl ?_ ?_ | refine LS_gf rfl ?_ ?_ | refine LI_cond rfl ?_ ?_) <;> intro hc <;> have hc' := hc <;> try simp only [decide_eq_true_eq, decide_eq_false_iff_not, Bool.not_eq_true', Bool.not_eq_false', Bool.not_eq_true, Bool.not_eq_false, beq_iff_eq, bne_iff_ne, beq_eq_false_iff_ne, bne_eq_false_iff_eq, Int.not_lt, Int.not_le, ge_iff_le, gt_iff_lt, not_and, ne_eq, Decidable.not_not] at hc'
    all_goals (try (dsimp only [st, setL, AV.cells, List.set_cons_zero, List.set_cons_succ, List.drop_zero, List.drop_succ_cons, List.take_zero, List.take_succ_cons, Nat.zero_add, Nat.add_zero, Nat.reduceAdd, List.cons_append, List.nil_append, List.eraseIdx_cons_zero, List.eraseIdx_cons_succ]))
    all_goals (refine W ?_)
    · obtain ⟨x, hx, _, hdx⟩ := drop_at (l := l) h0 hc'
      obtain ⟨y, hy, _, hdy⟩ := drop_at (l := m) h0 (by omega)
      rw [hdx, hdy] at hd
      refine dz44_0 ?_
      refine WX ?_
      refine W ?_
      refine LX_ix (fun h' HL => hv.le HL.le) enI1 hx h0 rfl rfl noG fun q1 o1 hrow1 => ?_
      try (dsimp only [st, setL, AV.cells, List.set_cons_zero, List.set_cons_succ, List.drop_zero, List.drop_succ_cons, List.take_zero, List.take_succ_cons, Nat.zero_add, Nat.add_zero, Nat.reduceAdd, List.cons_append, List.nil_append, List.eraseIdx_cons_zero, List.eraseIdx_cons_succ])
      refine WX ?_
      refine W ?_
      refine LX_ix (fun h' HL => hu.le HL.le) enI1 hy h0 rfl rfl noG fun q2 o2 hrow2 => ?_
      try (dsimp only [st, setL, AV.cells, List.set_cons_zero, List.set_cons_succ, List.drop_zero, List.drop_succ_cons, List.take_zero, List.take_succ_cons, Nat.zero_add, Nat.add_zero, Nat.reduceAdd, List.cons_append, List.nil_append, List.eraseIdx_cons_zero, List.eraseIdx_cons_succ])
      refine WX ?_
      refine W ?_
      (first | refine LS_gt rfl ?_ ?_ | refine LS_gf rfl ?_ ?_ | refine LI_cond rfl ?_ ?_) <;> intro hc <;> have hc' := hc <;> try simp only [decide_eq_true_eq, decide_eq_false_iff_not, Bool.not_eq_true', Bool.not_eq_false', Bool.not_eq_true, Bool.not_eq_false, beq_iff_eq, bne_iff_ne, beq_eq_false_iff_ne, bne_eq_false_iff_eq, Int.not_lt, Int.not_le, ge_iff_le, gt_iff_lt, not_and, ne_eq, Decidable.not_not] at hc'
      all_goals (try (dsimp only [st, setL, AV.cells, List.set_cons_zero, List.set_cons_succ, List.drop_zero, List.drop_succ_cons, List.take_zero, List.take_succ_cons, Nat.zero_add, Nat.add_zero, Nat.reduceAdd, List.cons_append, List.nil_append, List.eraseIdx_cons_zero, List.eraseIdx_cons_succ]))
      all_goals (refine W ?_)
      · have hne : x ≠ y := by simpa using hc
        refine RET fun h' HL => ?_
        try dsimp only [oneA]
        exact ⟨by rw [hd, decide_eq_false (by simp [hne])], HL.le⟩
      · have he : x = y := by simpa using hc
        refine IH (k - 1) _ _ (by omega) ⟨i + 1, exJ rfl, rfl, by omega, by omega, by rw [toNat_succ h0, hd]; simp [he]⟩
    · rw [List.drop_eq_nil_of_le (by omega), List.drop_eq_nil_of_le (by omega)] at hd
      refine RET fun h' HL => ?_
      try dsimp only [oneA]
      exact ⟨by rw [hd]; rfl, HL.le⟩
  · first | (refine LS_gyH rfl (by simp; omega) ?_; intro hg) | (refine LI_cond_tH rfl (by simp; omega) ?_; intro hg)
    refine W ?_
    refine RET fun h' HL => ?_
    try dsimp only [oneA]
    exact ⟨by rw [decide_eq_false (fun e => hlm (by rw [e]))], HL.le⟩

theorem l1Same_ac (l m : List Int) (v u : AV) (h : AH) (hv : Rd h v l) (hu : Rd h u m) (hl : l.length ≤ 4611686018427387904) (hm : m.length ≤ 4611686018427387904) :
    AC Try.prog 41 [v, u] h (fun r h' => r = .b (decide (l = m)) ∧ h.le h') := by
  have hvl := hv.len
  have hul := hu.len
  refine e41 _ _ fun wf => ?_
  unfold c41
  refine LI_start wf ?_
  refine W ?_
  by_cases hlm : l.length = m.length
  · first | (refine LS_gtnH rfl (by simp; omega) ?_; intro hg; try (dsimp only [st, setL, AV.cells, List.set_cons_zero, List.set_cons_succ, List.drop_zero, List.drop_succ_cons, List.take_zero, List.take_succ_cons, Nat.zero_add, Nat.add_zero, Nat.reduceAdd, List.cons_append, List.nil_append, List.eraseIdx_cons_zero, List.eraseIdx_cons_succ])) | (refine LS_gfnH rfl (by simp; omega) ?_; intro hg; try (dsimp only [st, setL, AV.cells, List.set_cons_zero, List.set_cons_succ, List.drop_zero, List.drop_succ_cons, List.take_zero, List.take_succ_cons, Nat.zero_add, Nat.add_zero, Nat.reduceAdd, List.cons_append, List.nil_append, List.eraseIdx_cons_zero, List.eraseIdx_cons_succ])) | (refine LI_cond_fH rfl (by simp; omega) ?_; intro hg)
    refine W ?_
    refine LIL_ind (fun k a L => ∃ (i : Int), (∃ r : Nat → AV, a = [v, u, r 2, r 3, .b false, r 5, r 6, r 7, r 8, r 9, r 10, r 11, .i .i64 l.length, .i .i64 i, r 14, r 15, r 16, r 17, r 18, r 19, r 20, r 21, r 22, r 23, r 24, r 25]) ∧ L = [] ∧ 0 ≤ i ∧ i + k = l.length ∧ decide (l = m) = decide (l.drop i.toNat = m.drop i.toNat))
      l.length ⟨0, exJ rfl, rfl, by omega, by omega, rfl⟩ ?_
    rintro k a L ⟨i, ⟨r, rfl⟩, rfl, h0, hk, hd⟩ IH
    refine W ?_
    (first | refine LS_gt rfl ?_ ?_ | refine LS_gf rfl ?_ ?_ | refine LI_cond rfl ?_ ?_) <;> intro hc <;> have hc' := hc <;> try simp only [decide_eq_true_eq, decide_eq_false_iff_not, Bool.not_eq_true', Bool.not_eq_false', Bool.not_eq_true, Bool.not_eq_false, beq_iff_eq, bne_iff_ne, beq_eq_false_iff_ne, bne_eq_false_iff_eq, Int.not_lt, Int.not_le, ge_iff_le, gt_iff_lt, not_and, ne_eq, Decidable.not_not] at hc'
    all_goals (try (dsimp only [st, setL, AV.cells, List.set_cons_zero, List.set_cons_succ, List.drop_zero, List.drop_succ_cons, List.take_zero, List.take_succ_cons, Nat.zero_add, Nat.add_zero, Nat.reduceAdd, List.cons_append, List.nil_append, List.eraseIdx_cons_zero, List.eraseIdx_cons_succ]))
    all_goals (refine W ?_)
    · obtain ⟨x, hx, _, hdx⟩ := drop_at (l := l) h0 hc'
      obtain ⟨y, hy, _, hdy⟩ := drop_at (l := m) h0 (by omega)
      rw [hdx, hdy] at hd
      refine dz41_0 ?_
      refine WX ?_
      refine W ?_
      refine LX_ix (fun h' HL => hv.le HL.le) enI1 hx h0 rfl rfl noG fun q1 o1 hrow1 => ?_
      try (dsimp only [st, setL, AV.cells, List.set_cons_zero, List.set_cons_succ, List.drop_zero, List.drop_succ_cons, List.take_zero, List.take_succ_cons, Nat.zero_add, Nat.add_zero, Nat.reduceAdd, List.cons_append, List.nil_append, List.eraseIdx_cons_zero, List.eraseIdx_cons_succ])
      refine WX ?_
      refine W ?_
      refine LX_ix (fun h' HL => hu.le HL.le) enI1 hy h0 rfl rfl noG fun q2 o2 hrow2 => ?_
      try (dsimp only [st, setL, AV.cells, List.set_cons_zero, List.set_cons_succ, List.drop_zero, List.drop_succ_cons, List.take_zero, List.take_succ_cons, Nat.zero_add, Nat.add_zero, Nat.reduceAdd, List.cons_append, List.nil_append, List.eraseIdx_cons_zero, List.eraseIdx_cons_succ])
      refine WX ?_
      refine W ?_
      (first | refine LS_gt rfl ?_ ?_ | refine LS_gf rfl ?_ ?_ | refine LI_cond rfl ?_ ?_) <;> intro hc <;> have hc' := hc <;> try simp only [decide_eq_true_eq, decide_eq_false_iff_not, Bool.not_eq_true', Bool.not_eq_false', Bool.not_eq_true, Bool.not_eq_false, beq_iff_eq, bne_iff_ne, beq_eq_false_iff_ne, bne_eq_false_iff_eq, Int.not_lt, Int.not_le, ge_iff_le, gt_iff_lt, not_and, ne_eq, Decidable.not_not] at hc'
      all_goals (try (dsimp only [st, setL, AV.cells, List.set_cons_zero, List.set_cons_succ, List.drop_zero, List.drop_succ_cons, List.take_zero, List.take_succ_cons, Nat.zero_add, Nat.add_zero, Nat.reduceAdd, List.cons_append, List.nil_append, List.eraseIdx_cons_zero, List.eraseIdx_cons_succ]))
      all_goals (refine W ?_)
      · have hne : x ≠ y := by simpa using hc
        refine RET fun h' HL => ?_
        try dsimp only [oneA]
        exact ⟨by rw [hd, decide_eq_false (by simp [hne])], HL.le⟩
      · have he : x = y := by simpa using hc
        refine IH (k - 1) _ _ (by omega) ⟨i + 1, exJ rfl, rfl, by omega, by omega, by rw [toNat_succ h0, hd]; simp [he]⟩
    · rw [List.drop_eq_nil_of_le (by omega), List.drop_eq_nil_of_le (by omega)] at hd
      refine RET fun h' HL => ?_
      try dsimp only [oneA]
      exact ⟨by rw [hd]; rfl, HL.le⟩
  · first | (refine LS_gyH rfl (by simp; omega) ?_; intro hg) | (refine LI_cond_tH rfl (by simp; omega) ?_; intro hg)
    refine W ?_
    refine RET fun h' HL => ?_
    try dsimp only [oneA]
    exact ⟨by rw [decide_eq_false (fun e => hlm (by rw [e]))], HL.le⟩

theorem rSameV_ac (l m : List Int) (v u : AV) (h : AH) (hv : Rd h v l) (hu : Rd h u m) (hl : l.length ≤ 4611686018427387904) (hm : m.length ≤ 4611686018427387904) :
    AC Try.prog 19 [v, u] h (fun r h' => r = .b (decide (l = m)) ∧ h.le h') := by
  have hvl := hv.len
  have hul := hu.len
  refine e19 _ _ fun wf => ?_
  unfold c19
  refine LI_start wf ?_
  refine W ?_
  by_cases hlm : l.length = m.length
  · first | (refine LS_gtnH rfl (by simp; omega) ?_; intro hg; try (dsimp only [st, setL, AV.cells, List.set_cons_zero, List.set_cons_succ, List.drop_zero, List.drop_succ_cons, List.take_zero, List.take_succ_cons, Nat.zero_add, Nat.add_zero, Nat.reduceAdd, List.cons_append, List.nil_append, List.eraseIdx_cons_zero, List.eraseIdx_cons_succ])) | (refine LS_gfnH rfl (by simp; omega) ?_; intro hg; try (dsimp only [st, setL, AV.cells, List.set_cons_zero, List.set_cons_succ, List.drop_zero, List.drop_succ_cons, List.take_zero, List.take_succ_cons, Nat.zero_add, Nat.add_zero, Nat.reduceAdd, List.cons_append, List.nil_append, List.eraseIdx_cons_zero, List.eraseIdx_cons_succ])) | (refine LI_cond_fH rfl (by simp; omega) ?_; intro hg)
    refine W ?_
    refine LIL_ind (fun k a L => ∃ (i : Int), (∃ r : Nat → AV, a = [v, u, r 2, r 3, .b false, r 5, r 6, r 7, r 8, r 9, r 10, r 11, .i .i64 l.length, .i .i64 i, r 14, r 15, r 16, r 17, r 18, r 19, r 20, r 21, r 22, r 23, r 24, r 25]) ∧ L = [] ∧ 0 ≤ i ∧ i + k = l.length ∧ decide (l = m) = decide (l.drop i.toNat = m.drop i.toNat))
      l.length ⟨0, exJ rfl, rfl, by omega, by omega, rfl⟩ ?_
    rintro k a L ⟨i, ⟨r, rfl⟩, rfl, h0, hk, hd⟩ IH
    refine W ?_
    (first | refine LS_gt rfl ?_ ?_ | refine LS_gf rfl ?_ ?_ | refine LI_cond rfl ?_ ?_) <;> intro hc <;> have hc' := hc <;> try simp only [decide_eq_true_eq, decide_eq_false_iff_not, Bool.not_eq_true', Bool.not_eq_false', Bool.not_eq_true, Bool.not_eq_false, beq_iff_eq, bne_iff_ne, beq_eq_false_iff_ne, bne_eq_false_iff_eq, Int.not_lt, Int.not_le, ge_iff_le, gt_iff_lt, not_and, ne_eq, Decidable.not_not] at hc'
    all_goals (try (dsimp only [st, setL, AV.cells, List.set_cons_zero, List.set_cons_succ, List.drop_zero, List.drop_succ_cons, List.take_zero, List.take_succ_cons, Nat.zero_add, Nat.add_zero, Nat.reduceAdd, List.cons_append, List.nil_append, List.eraseIdx_cons_zero, List.eraseIdx_cons_succ]))
    all_goals (refine W ?_)
    · obtain ⟨x, hx, _, hdx⟩ := drop_at (l := l) h0 hc'
      obtain ⟨y, hy, _, hdy⟩ := drop_at (l := m) h0 (by omega)
      rw [hdx, hdy] at hd
      refine dz19_0 ?_
      refine WX ?_
      refine W ?_
      refine LX_ix (fun h' HL => hv.le HL.le) enI1 hx h0 rfl rfl noG fun q1 o1 hrow1 => ?_
      try (dsimp only [st, setL, AV.cells, List.set_cons_zero, List.set_cons_succ, List.drop_zero, List.drop_succ_cons, List.take_zero, List.take_succ_cons, Nat.zero_add, Nat.add_zero, Nat.reduceAdd, List.cons_append, List.nil_append, List.eraseIdx_cons_zero, List.eraseIdx_cons_succ])
      refine WX ?_
      refine W ?_
      refine LX_ix (fun h' HL => hu.le HL.le) enI1 hy h0 rfl rfl noG fun q2 o2 hrow2 => ?_
      try (dsimp only [st, setL, AV.cells, List.set_cons_zero, List.set_cons_succ, List.drop_zero, List.drop_succ_cons, List.take_zero, List.take_succ_cons, Nat.zero_add, Nat.add_zero, Nat.reduceAdd, List.cons_append, List.nil_append, List.eraseIdx_cons_zero, List.eraseIdx_cons_succ])
      refine WX ?_
      refine W ?_
      (first | refine LS_gt rfl ?_ ?_ | refine LS_gf rfl ?_ ?_ | refine LI_cond rfl ?_ ?_) <;> intro hc <;> have hc' := hc <;> try simp only [decide_eq_true_eq, decide_eq_false_iff_not, Bool.not_eq_true', Bool.not_eq_false', Bool.not_eq_true, Bool.not_eq_false, beq_iff_eq, bne_iff_ne, beq_eq_false_iff_ne, bne_eq_false_iff_eq, Int.not_lt, Int.not_le, ge_iff_le, gt_iff_lt, not_and, ne_eq, Decidable.not_not] at hc'
      all_goals (try (dsimp only [st, setL, AV.cells, List.set_cons_zero, List.set_cons_succ, List.drop_zero, List.drop_succ_cons, List.take_zero, List.take_succ_cons, Nat.zero_add, Nat.add_zero, Nat.reduceAdd, List.cons_append, List.nil_append, List.eraseIdx_cons_zero, List.eraseIdx_cons_succ]))
      all_goals (refine W ?_)
      · have hne : x ≠ y := by simpa using hc
        refine RET fun h' HL => ?_
        try dsimp only [oneA]
        exact ⟨by rw [hd, decide_eq_false (by simp [hne])], HL.le⟩
      · have he : x = y := by simpa using hc
        refine IH (k - 1) _ _ (by omega) ⟨i + 1, exJ rfl, rfl, by omega, by omega, by rw [toNat_succ h0, hd]; simp [he]⟩
    · rw [List.drop_eq_nil_of_le (by omega), List.drop_eq_nil_of_le (by omega)] at hd
      refine RET fun h' HL => ?_
      try dsimp only [oneA]
      exact ⟨by rw [hd]; rfl, HL.le⟩
  · first | (refine LS_gyH rfl (by simp; omega) ?_; intro hg) | (refine LI_cond_tH rfl (by simp; omega) ?_; intro hg)
    refine W ?_
    refine RET fun h' HL => ?_
    try dsimp only [oneA]
    exact ⟨by rw [decide_eq_false (fun e => hlm (by rw [e]))], HL.le⟩

def isOrd (l : List Int) (n : Int) : Bool := decide ((l.mergeSort fun x y => decide (x ≤ y)) = iotaI n.toNat)

theorem isOrder_ac (l : List Int) (n : Int) (v : AV) (h : AH) (hR : Rd h v l) (hl : l.length ≤ 1048576) (h0 : 0 ≤ n) (h1 : n ≤ 1048576) :
    AC Try.prog 50 [v, .i .i64 n] h (fun r h' => r = .b (isOrd l n) ∧ h.le h') := by
  refine e50 _ _ fun wf => ?_
  unfold c50
  refine LI_start wf ?_
  refine W ?_
  refine LS_c1 (fun h' HL wf => valuesV_ac (hR.le HL.le)) rfl rfl ?_
  try (dsimp only [st, setL, AV.cells, List.set_cons_zero, List.set_cons_succ, List.drop_zero, List.drop_succ_cons, List.take_zero, List.take_succ_cons, Nat.zero_add, Nat.add_zero, Nat.reduceAdd, List.cons_append, List.nil_append, List.eraseIdx_cons_zero, List.eraseIdx_cons_succ])
  refine W ?_
  rintro _ _ ⟨b, rfl, rfl⟩
  try (dsimp only [st, setL, AV.cells, List.set_cons_zero, List.set_cons_succ, List.drop_zero, List.drop_succ_cons, List.take_zero, List.take_succ_cons, Nat.zero_add, Nat.add_zero, Nat.reduceAdd, List.cons_append, List.nil_append, List.eraseIdx_cons_zero, List.eraseIdx_cons_succ])
  refine W ?_
  refine LS_co (fun h' HL wf => sortedV_ac (HL.cellP 0 rfl rfl) (hR.le HL.le) hl) enI1 rfl rfl fun w lw sw => ?_
  try (dsimp only [st, setL, AV.cells, List.set_cons_zero, List.set_cons_succ, List.drop_zero, List.drop_succ_cons, List.take_zero, List.take_succ_cons, Nat.zero_add, Nat.add_zero, Nat.reduceAdd, List.cons_append, List.nil_append, List.eraseIdx_cons_zero, List.eraseIdx_cons_succ])
  refine W ?_
  refine LS_co (fun h' HL wf => firsts_ac n h' wf h0 h1) enI1 rfl rfl fun w2 lw2 sw2 => ?_
  try (dsimp only [st, setL, AV.cells, List.set_cons_zero, List.set_cons_succ, List.drop_zero, List.drop_succ_cons, List.take_zero, List.take_succ_cons, Nat.zero_add, Nat.add_zero, Nat.reduceAdd, List.cons_append, List.nil_append, List.eraseIdx_cons_zero, List.eraseIdx_cons_succ])
  refine W ?_
  refine LS_c0 (fun h' HL wf => eqV_ac (l.mergeSort fun x y => decide (x ≤ y)) (iotaI n.toNat) w w2 h' (HL.rdI 1 rfl enI1 (by decide)) (HL.rdI 0 rfl enI1 (by decide)) (by rw [List.length_mergeSort]; omega) (by simp [iotaI]; omega)) rfl rfl ?_
  try (dsimp only [st, setL, AV.cells, List.set_cons_zero, List.set_cons_succ, List.drop_zero, List.drop_succ_cons, List.take_zero, List.take_succ_cons, Nat.zero_add, Nat.add_zero, Nat.reduceAdd, List.cons_append, List.nil_append, List.eraseIdx_cons_zero, List.eraseIdx_cons_succ])
  refine W ?_
  refine RET fun h' HL => ?_
  try dsimp only [oneA]
  exact ⟨rfl, HL.le⟩

/-! ### Permutations: plain laws -/
def permB (l : List Int) : Bool := decide (l.Nodup ∧ ∀ x ∈ l, 0 ≤ x ∧ x < l.length)

theorem iota_sorted : ∀ k : Nat, (iotaI k).Pairwise (· ≤ ·) := by
  intro k
  unfold iotaI
  rw [List.pairwise_map]
  exact List.pairwise_lt_range.imp fun h => Int.ofNat_le.2 (Nat.le_of_lt h)

theorem isOrd_perm (l : List Int) : isOrd l l.length = decide (l.Perm (iotaI l.length)) := by
  unfold isOrd
  have hp := List.mergeSort_perm l (fun x y => decide (x ≤ y))
  have hs : (l.mergeSort fun x y => decide (x ≤ y)).Pairwise (· ≤ ·) := by
    have := List.pairwise_mergeSort (le := fun x y : Int => decide (x ≤ y)) (fun a b c h1 h2 => by simp at *; omega) (fun a b => by simp; omega) l
    exact this.imp (by intro a b h; simpa using h)
  rw [Int.toNat_natCast]
  by_cases h : l.Perm (iotaI l.length)
  · rw [decide_eq_true h, decide_eq_true]
    exact List.Perm.eq_of_pairwise (fun a b _ _ h1 h2 => by omega) hs (iota_sorted _) (hp.trans h)
  · rw [decide_eq_false h, decide_eq_false]
    intro e
    exact h (hp.symm.trans (e ▸ List.Perm.refl _))

theorem nodup_lenI (n : Nat) (l : List Int) (h1 : l.Nodup) (h2 : ∀ x ∈ l, 0 ≤ x ∧ x < n) : l.length ≤ n := by
  have := nodup_len n (l.map Int.toNat) (by
    unfold List.Nodup
    rw [List.pairwise_map]
    exact List.Pairwise.imp_of_mem (fun {a b} ha hb hne e => hne (by have := h2 a ha; have := h2 b hb; omega)) h1) (fun j hj => by
    obtain ⟨x, hx, rfl⟩ := List.mem_map.1 hj
    have := h2 x hx
    omega)
  simpa using this

theorem iota_mem (k : Nat) (x : Int) : x ∈ iotaI k ↔ 0 ≤ x ∧ x < k := by
  unfold iotaI
  rw [List.mem_map]
  constructor
  · rintro ⟨j, hj, rfl⟩
    have := List.mem_range.1 hj
    exact ⟨Int.natCast_nonneg _, Int.ofNat_lt.2 this⟩
  · intro h
    exact ⟨x.toNat, List.mem_range.2 (by omega), by show ((x.toNat : Nat) : Int) = x; omega⟩

theorem iota_nodup (k : Nat) : (iotaI k).Nodup := by
  unfold iotaI List.Nodup
  rw [List.pairwise_map]
  exact List.nodup_range.imp fun h e => h (Int.ofNat.inj e)

theorem permB_iff (l : List Int) : permB l = decide (l.Perm (iotaI l.length)) := by
  unfold permB
  by_cases h : l.Nodup ∧ ∀ x ∈ l, 0 ≤ x ∧ x < l.length
  · rw [decide_eq_true h, decide_eq_true]
    refine (List.perm_ext_iff_of_nodup h.1 (iota_nodup _)).2 fun x => ?_
    rw [iota_mem]
    refine ⟨h.2 x, fun hx => Classical.byContradiction fun hn => ?_⟩
    have := nodup_lenI l.length (x :: l) (List.nodup_cons.2 ⟨hn, h.1⟩) (fun y hy => by
      rcases List.mem_cons.1 hy with rfl | hy
      · exact hx
      · exact h.2 y hy)
    simp only [List.length_cons] at this
    omega
  · rw [decide_eq_false h, decide_eq_false]
    intro hp
    exact h ⟨hp.nodup_iff.2 (iota_nodup _), fun x hx => (iota_mem _ _).1 (hp.mem_iff.1 hx)⟩

theorem isOrd_permB (l : List Int) : isOrd l l.length = permB l := by rw [isOrd_perm, permB_iff]

/-! ### Permutations: both checks -/
def isPerm (l : List Int) : Bool := decide (1 ≤ l.length ∧ l.length ≤ 8) && permB l

theorem implIP_ac (l : List Int) (v : AV) (h : AH) (hR : Rd h v l) (hl : l.length ≤ 1048576) : AC Try.prog 20 [v] h (fun r h' => r = .b (isPerm l) ∧ h.le h') := by
  have hln := hR.len
  refine e20 _ fun wf => ?_
  unfold c20
  refine LI_start wf ?_
  refine W ?_
  refine LS_c0' (fun h' HL wf => in_ac l.length 1 8 h') rfl rfl ?_
  try (dsimp only [st, setL, AV.cells, List.set_cons_zero, List.set_cons_succ, List.drop_zero, List.drop_succ_cons, List.take_zero, List.take_succ_cons, Nat.zero_add, Nat.add_zero, Nat.reduceAdd, List.cons_append, List.nil_append, List.eraseIdx_cons_zero, List.eraseIdx_cons_succ])
  refine W ?_
  (first | refine LS_gt rfl ?_ ?_ | refine LS_gf rfl ?_ ?_ | refine LI_cond rfl ?_ ?_) <;> intro hc <;> have hc' := hc <;> try simp only [decide_eq_true_eq, decide_eq_false_iff_not, Bool.not_eq_true', Bool.not_eq_false', Bool.not_eq_true, Bool.not_eq_false, beq_iff_eq, bne_iff_ne, beq_eq_false_iff_ne, bne_eq_false_iff_eq, Int.not_lt, Int.not_le, ge_iff_le, gt_iff_lt, not_and, ne_eq, Decidable.not_not] at hc'
  all_goals (try (dsimp only [st, setL, AV.cells, List.set_cons_zero, List.set_cons_succ, List.drop_zero, List.drop_succ_cons, List.take_zero, List.take_succ_cons, Nat.zero_add, Nat.add_zero, Nat.reduceAdd, List.cons_append, List.nil_append, List.eraseIdx_cons_zero, List.eraseIdx_cons_succ]))
  all_goals (refine W ?_)
  · have hn : 1 ≤ l.length ∧ l.length ≤ 8 := by simp at hc; omega
    refine LS_c0 (fun h' HL wf => by have H := isOrder_ac l l.length v h' (hR.le HL.le) hl (by omega) (by omega); rw [isOrd_permB] at H; exact H) rfl rfl ?_
    try (dsimp only [st, setL, AV.cells, List.set_cons_zero, List.set_cons_succ, List.drop_zero, List.drop_succ_cons, List.take_zero, List.take_succ_cons, Nat.zero_add, Nat.add_zero, Nat.reduceAdd, List.cons_append, List.nil_append, List.eraseIdx_cons_zero, List.eraseIdx_cons_succ])
    refine W ?_
    refine RET fun h' HL => ?_
    try dsimp only [oneA]
    exact ⟨by rw [isPerm, decide_eq_true hn, Bool.true_and], HL.le⟩
  · have hn : ¬ (1 ≤ l.length ∧ l.length ≤ 8) := by simp at hc; omega
    refine RET fun h' HL => ?_
    try dsimp only [oneA]
    exact ⟨by rw [isPerm, decide_eq_false hn, Bool.false_and], HL.le⟩

/-! ### Permutations: the reference's check -/
def goodTo (l : List Int) (k : Nat) : Prop := (l.take k).Nodup ∧ ∀ x ∈ l.take k, 0 ≤ x ∧ x < l.length

theorem goodTo_succ {l : List Int} {k : Nat} {x : Int} (hx : l[k]? = some x) : goodTo l (k + 1) ↔ goodTo l k ∧ (0 ≤ x ∧ x ≤ l.length - 1) ∧ x ∉ l.take k := by
  unfold goodTo
  rw [take_snoc hx, List.nodup_append]
  constructor
  · rintro ⟨⟨h1, _, h3⟩, h4⟩
    have hb := h4 x (by simp)
    exact ⟨⟨h1, fun y hy => h4 y (by simp [hy])⟩, by omega, fun hm => h3 x hm x (by simp) rfl⟩
  · rintro ⟨⟨h1, h2⟩, h3, h4⟩
    refine ⟨⟨h1, by simp, fun y hy z hz e => ?_⟩, fun y hy => ?_⟩
    · rw [List.mem_singleton.1 hz] at e; exact h4 (e ▸ hy)
    · rcases List.mem_append.1 hy with hy | hy
      · exact h2 y hy
      · rw [List.mem_singleton.1 hy]; omega

theorem goodTo_le {l : List Int} {k : Nat} (h : goodTo l l.length) : goodTo l k :=
  ⟨by have := h.1; rw [List.take_length] at this; exact this.sublist (List.take_sublist _ _), fun x hx => by have := h.2 x; rw [List.take_length] at this; exact this (List.mem_of_mem_take hx)⟩

theorem goodTo_permB (l : List Int) : permB l = true ↔ goodTo l l.length := by
  unfold permB goodTo
  rw [List.take_length, decide_eq_true_iff]

theorem isPerm_bad {l : List Int} (h : ¬ goodTo l l.length) : isPerm l = false := by
  rw [isPerm, Bool.eq_false_iff.2 (fun e => h ((goodTo_permB l).1 e)), Bool.and_false]

theorem moPerm_ac (l : List Int) (v : AV) (h : AH) (hR : Rd h v l) (hl : l.length ≤ 1048576) : AC Try.prog 67 [v] h (fun r h' => r = .b (isPerm l) ∧ h.le h') := by
  have hln := hR.len
  refine e67 _ fun wf => ?_
  unfold c67
  refine LI_start wf ?_
  refine W ?_
  refine LIL_ind (fun m a L => ∃ (i : Int), (∃ r : Nat → AV, a = [v, r 1, r 2, r 3, r 4, v, .i .i64 l.length, .i .i64 i, r 8, r 9, r 10, r 11, r 12, r 13, r 14, r 15, r 16, r 17, r 18, r 19, r 20, r 21, r 22, r 23, r 24, r 25, r 26, r 27, r 28]) ∧ L = [] ∧ 0 ≤ i ∧ i + m = l.length ∧ goodTo l i.toNat)
    l.length ⟨0, exJ rfl, rfl, by omega, by omega, by simp [goodTo]⟩ ?_
  rintro m a L ⟨i, ⟨r, rfl⟩, rfl, h0, hk, hg0⟩ IH
  refine W ?_
  (first | refine LS_gt rfl ?_ ?_ | refine LS_gf rfl ?_ ?_ | refine LI_cond rfl ?_ ?_) <;> intro hc <;> have hc' := hc <;> try simp only [decide_eq_true_eq, decide_eq_false_iff_not, Bool.not_eq_true', Bool.not_eq_false', Bool.not_eq_true, Bool.not_eq_false, beq_iff_eq, bne_iff_ne, beq_eq_false_iff_ne, bne_eq_false_iff_eq, Int.not_lt, Int.not_le, ge_iff_le, gt_iff_lt, not_and, ne_eq, Decidable.not_not] at hc'
  all_goals (try (dsimp only [st, setL, AV.cells, List.set_cons_zero, List.set_cons_succ, List.drop_zero, List.drop_succ_cons, List.take_zero, List.take_succ_cons, Nat.zero_add, Nat.add_zero, Nat.reduceAdd, List.cons_append, List.nil_append, List.eraseIdx_cons_zero, List.eraseIdx_cons_succ]))
  all_goals (refine W ?_)
  · obtain ⟨x, hx, hxm, _⟩ := drop_at (l := l) h0 hc'
    have hgs := goodTo_succ hx
    refine LS_ix (fun h' HL => hR.le HL.le) enI1 hx h0 rfl rfl fun q1 o1 hrow1 => ?_
    try (dsimp only [st, setL, AV.cells, List.set_cons_zero, List.set_cons_succ, List.drop_zero, List.drop_succ_cons, List.take_zero, List.take_succ_cons, Nat.zero_add, Nat.add_zero, Nat.reduceAdd, List.cons_append, List.nil_append, List.eraseIdx_cons_zero, List.eraseIdx_cons_succ])
    refine W ?_
    refine LS_c0' (fun h' HL wf => l1In_ac x 0 ((l.length : Int) - 1) h') rfl rfl ?_
    try (dsimp only [st, setL, AV.cells, List.set_cons_zero, List.set_cons_succ, List.drop_zero, List.drop_succ_cons, List.take_zero, List.take_succ_cons, Nat.zero_add, Nat.add_zero, Nat.reduceAdd, List.cons_append, List.nil_append, List.eraseIdx_cons_zero, List.eraseIdx_cons_succ])
    refine W ?_
    (first | refine LS_gt rfl ?_ ?_ | refine LS_gf rfl ?_ ?_ | refine LI_cond rfl ?_ ?_) <;> intro hc <;> have hc' := hc <;> try simp only [decide_eq_true_eq, decide_eq_false_iff_not, Bool.not_eq_true', Bool.not_eq_false', Bool.not_eq_true, Bool.not_eq_false, beq_iff_eq, bne_iff_ne, beq_eq_false_iff_ne, bne_eq_false_iff_eq, Int.not_lt, Int.not_le, ge_iff_le, gt_iff_lt, not_and, ne_eq, Decidable.not_not] at hc'
    all_goals (try (dsimp only [st, setL, AV.cells, List.set_cons_zero, List.set_cons_succ, List.drop_zero, List.drop_succ_cons, List.take_zero, List.take_succ_cons, Nat.zero_add, Nat.add_zero, Nat.reduceAdd, List.cons_append, List.nil_append, List.eraseIdx_cons_zero, List.eraseIdx_cons_succ]))
    all_goals (refine W ?_)
    · have hin := of_decide_eq_true (nf hc)
      refine LS_sz (u := i.toNat) (q := 0) (fun h' HL => hR.le HL.le) enI1 (.inl ⟨rfl, rfl⟩) (.inr ⟨_, _, _, rfl, rfl, h0, rfl⟩) (by omega) (by omega) rfl fun w1 hw1 sw1 rw1 => ?_
      try (dsimp only [st, setL, AV.cells, List.set_cons_zero, List.set_cons_succ, List.drop_zero, List.drop_succ_cons, List.take_zero, List.take_succ_cons, Nat.zero_add, Nat.add_zero, Nat.reduceAdd, List.cons_append, List.nil_append, List.eraseIdx_cons_zero, List.eraseIdx_cons_succ])
      refine W ?_
      refine LS_c0 (fun h' HL wf => l1Has_ac (l.take i.toNat) w1 x h' (by have := rw1 h' (hR.le HL.le); rwa [List.drop_zero] at this) (by simp; omega)) rfl rfl ?_
      try (dsimp only [st, setL, AV.cells, List.set_cons_zero, List.set_cons_succ, List.drop_zero, List.drop_succ_cons, List.take_zero, List.take_succ_cons, Nat.zero_add, Nat.add_zero, Nat.reduceAdd, List.cons_append, List.nil_append, List.eraseIdx_cons_zero, List.eraseIdx_cons_succ])
      refine W ?_
      (first | refine LS_gt rfl ?_ ?_ | refine LS_gf rfl ?_ ?_ | refine LI_cond rfl ?_ ?_) <;> intro hc <;> have hc' := hc <;> try simp only [decide_eq_true_eq, decide_eq_false_iff_not, Bool.not_eq_true', Bool.not_eq_false', Bool.not_eq_true, Bool.not_eq_false, beq_iff_eq, bne_iff_ne, beq_eq_false_iff_ne, bne_eq_false_iff_eq, Int.not_lt, Int.not_le, ge_iff_le, gt_iff_lt, not_and, ne_eq, Decidable.not_not] at hc'
      all_goals (try (dsimp only [st, setL, AV.cells, List.set_cons_zero, List.set_cons_succ, List.drop_zero, List.drop_succ_cons, List.take_zero, List.take_succ_cons, Nat.zero_add, Nat.add_zero, Nat.reduceAdd, List.cons_append, List.nil_append, List.eraseIdx_cons_zero, List.eraseIdx_cons_succ]))
      all_goals (refine W ?_)
      · have hmem : x ∈ l.take i.toNat := by obtain ⟨y, hy, e⟩ := List.any_eq_true.1 hc; rw [← eq_of_beq e]; exact hy
        rw [isPerm_bad fun hg => ((hgs.1 (goodTo_le hg)).2.2 hmem)]
        refine RET fun h' HL => ?_
        try dsimp only [oneA]
        exact ⟨rfl, HL.le⟩
      · have hmem : x ∉ l.take i.toNat := fun hm => by have := List.any_eq_false.1 hc x hm; simp at this
        refine IH (m - 1) _ _ (by omega) ⟨i + 1, exJ rfl, rfl, by omega, by omega, by rw [toNat_succ h0]; exact hgs.2 ⟨hg0, hin, hmem⟩⟩
    · have hin := of_decide_eq_false (nt hc)
      rw [isPerm_bad fun hg => (hin (hgs.1 (goodTo_le hg)).2.1)]
      refine RET fun h' HL => ?_
      try dsimp only [oneA]
      exact ⟨rfl, HL.le⟩
  · have ei : i.toNat = l.length := by omega
    rw [ei] at hg0
    refine LS_c0' (fun h' HL wf => l1In_ac l.length 1 8 h') rfl rfl ?_
    try (dsimp only [st, setL, AV.cells, List.set_cons_zero, List.set_cons_succ, List.drop_zero, List.drop_succ_cons, List.take_zero, List.take_succ_cons, Nat.zero_add, Nat.add_zero, Nat.reduceAdd, List.cons_append, List.nil_append, List.eraseIdx_cons_zero, List.eraseIdx_cons_succ])
    refine W ?_
    refine RET fun h' HL => ?_
    try dsimp only [oneA]
    refine ⟨?_, HL.le⟩
    rw [isPerm, (goodTo_permB l).2 hg0, Bool.and_true]
    congr 1
    by_cases h8 : 1 ≤ l.length ∧ l.length ≤ 8
    · rw [decide_eq_true h8, decide_eq_true (by omega)]
    · rw [decide_eq_false h8, decide_eq_false (by omega)]

theorem specIP_ac (l : List Int) (v : AV) (h : AH) (hR : Rd h v l) (hl : l.length ≤ 1048576) : AC Try.prog 34 [v] h (fun r h' => r = .b (isPerm l) ∧ h.le h') := by
  have hln := hR.len
  refine e34 _ fun wf => ?_
  unfold c34
  refine LI_start wf ?_
  refine W ?_
  (first | refine LS_gt rfl ?_ ?_ | refine LS_gf rfl ?_ ?_ | refine LI_cond rfl ?_ ?_) <;> intro hc <;> have hc' := hc <;> try simp only [decide_eq_true_eq, decide_eq_false_iff_not, Bool.not_eq_true', Bool.not_eq_false', Bool.not_eq_true, Bool.not_eq_false, beq_iff_eq, bne_iff_ne, beq_eq_false_iff_ne, bne_eq_false_iff_eq, Int.not_lt, Int.not_le, ge_iff_le, gt_iff_lt, not_and, ne_eq, Decidable.not_not] at hc'
  all_goals (try (dsimp only [st, setL, AV.cells, List.set_cons_zero, List.set_cons_succ, List.drop_zero, List.drop_succ_cons, List.take_zero, List.take_succ_cons, Nat.zero_add, Nat.add_zero, Nat.reduceAdd, List.cons_append, List.nil_append, List.eraseIdx_cons_zero, List.eraseIdx_cons_succ]))
  all_goals (refine W ?_)
  · refine LS_c0 (fun h' HL wf => moPerm_ac l v h' (hR.le HL.le) hl) rfl rfl ?_
    try (dsimp only [st, setL, AV.cells, List.set_cons_zero, List.set_cons_succ, List.drop_zero, List.drop_succ_cons, List.take_zero, List.take_succ_cons, Nat.zero_add, Nat.add_zero, Nat.reduceAdd, List.cons_append, List.nil_append, List.eraseIdx_cons_zero, List.eraseIdx_cons_succ])
    refine W ?_
    refine RET fun h' HL => ?_
    try dsimp only [oneA]
    exact ⟨rfl, HL.le⟩
  · refine RET fun h' HL => ?_
    try dsimp only [oneA]
    refine ⟨?_, HL.le⟩
    rw [isPerm, decide_eq_false (fun e => by have := e.2; omega), Bool.false_and]

/-! ### Permutations: products, powers and orders as plain law -/
def appI (l : List Int) (x : Int) : Int := l[x.toNat]?.getD 0

def itr (f : Int → Int) : Nat → Int → Int
  | 0, x => x
  | k + 1, x => f (itr f k x)

theorem itr_add (f : Int → Int) (i j : Nat) (x : Int) : itr f (i + j) x = itr f i (itr f j x) := by
  induction i with
  | zero => rw [Nat.zero_add]; rfl
  | succ i ih => rw [Nat.succ_add]; show f _ = f _; rw [ih]

theorem pick_mapI {l ix : List Int} (h : ∀ i ∈ ix, 0 ≤ i ∧ i < l.length) : pickM l ix = ix.map (appI l) := by
  induction ix with
  | nil => rfl
  | cons i ix ih =>
    have hi := h i (by simp)
    have : i.toNat < l.length := by omega
    rw [pickM, List.filterMap_cons, List.getElem?_eq_getElem this, List.map_cons, ← ih fun j hj => h j (by simp [hj])]
    simp only [appI, List.getElem?_eq_getElem this, Option.getD_some]
    rfl

theorem map_app (l : List Int) : (iotaI l.length).map (appI l) = l := by
  apply List.ext_getElem?
  intro j
  by_cases hj : j < l.length
  · rw [List.getElem?_map, iotaI_get hj]
    simp [appI, hj]
  · rw [List.getElem?_eq_none (by simp [iotaI_len]; omega), List.getElem?_eq_none (by omega)]

theorem mapI_eq {n : Nat} {f g : Int → Int} : (iotaI n).map f = (iotaI n).map g ↔ ∀ x : Int, 0 ≤ x → x < (n : Int) → f x = g x := by
  rw [List.map_inj_left]
  exact ⟨fun h x h0 h1 => h x ((iotaI_mem _ _).2 ⟨h0, h1⟩), fun h x hx => h x ((iotaI_mem _ _).1 hx).1 ((iotaI_mem _ _).1 hx).2⟩

theorem permB_out {l : List Int} (h : permB l = true) : l.Nodup ∧ ∀ x ∈ l, 0 ≤ x ∧ x < l.length := of_decide_eq_true h

theorem app_in {l : List Int} (h : permB l = true) {x : Int} (h0 : 0 ≤ x) (h1 : x < l.length) : 0 ≤ appI l x ∧ appI l x < l.length := by
  have : x.toNat < l.length := by omega
  unfold appI
  rw [List.getElem?_eq_getElem this]
  exact (permB_out h).2 _ (List.getElem_mem this)

theorem app_inj {l : List Int} (h : permB l = true) {x y : Int} (h0 : 0 ≤ x) (h1 : x < l.length) (g0 : 0 ≤ y) (g1 : y < l.length) (e : appI l x = appI l y) : x = y := by
  have hx : x.toNat < l.length := by omega
  have hy : y.toNat < l.length := by omega
  unfold appI at e
  rw [List.getElem?_eq_getElem hx, List.getElem?_eq_getElem hy] at e
  have := (List.getElem_inj (permB_out h).1).1 e
  omega

theorem itr_in {l : List Int} (h : permB l = true) (k : Nat) {x : Int} (h0 : 0 ≤ x) (h1 : x < l.length) : 0 ≤ itr (appI l) k x ∧ itr (appI l) k x < l.length := by
  induction k with
  | zero => exact ⟨h0, h1⟩
  | succ k ih => exact app_in h ih.1 ih.2

theorem itr_inj {l : List Int} (h : permB l = true) (k : Nat) {x y : Int} (h0 : 0 ≤ x) (h1 : x < l.length) (g0 : 0 ≤ y) (g1 : y < l.length) (e : itr (appI l) k x = itr (appI l) k y) : x = y := by
  induction k with
  | zero => exact e
  | succ k ih => exact ih (app_inj h (itr_in h k h0 h1).1 (itr_in h k h0 h1).2 (itr_in h k g0 g1).1 (itr_in h k g0 g1).2 e)

/-- The powers of a permutation. -/
def pwI (l : List Int) (k : Nat) : List Int := (iotaI l.length).map (itr (appI l) k)

theorem pwI_len (l : List Int) (k : Nat) : (pwI l k).length = l.length := by simp [pwI, iotaI_len]

theorem pwI_0 (l : List Int) : pwI l 0 = iotaI l.length := by
  unfold pwI
  rw [show itr (appI l) 0 = id from rfl, List.map_id]

theorem pwI_1 (l : List Int) : pwI l 1 = l := map_app l

theorem pwI_mem {l : List Int} (h : permB l = true) (k : Nat) : ∀ i ∈ pwI l k, 0 ≤ i ∧ i < l.length := by
  intro i hi
  obtain ⟨x, hx, rfl⟩ := List.mem_map.1 hi
  have := (iotaI_mem _ _).1 hx
  exact itr_in h k this.1 this.2

theorem appI_pw {l : List Int} (k : Nat) {x : Int} (h0 : 0 ≤ x) (h1 : x < l.length) : appI (pwI l k) x = itr (appI l) k x := by
  have : x.toNat < l.length := by omega
  unfold appI pwI
  rw [List.getElem?_map, iotaI_get this]
  simp only [Option.map_some, Option.getD_some]
  rw [show ((x.toNat : Nat) : Int) = x by omega]
  rfl

theorem pwI_mul {l : List Int} (h : permB l = true) (i j : Nat) : pickM (pwI l i) (pwI l j) = pwI l (i + j) := by
  rw [pick_mapI (by rw [pwI_len]; exact pwI_mem h j)]
  conv => lhs; arg 2; unfold pwI
  rw [List.map_map]
  refine mapI_eq.2 fun x h0 h1 => ?_
  have := itr_in h j h0 h1
  show appI _ (itr _ j x) = _
  rw [appI_pw i this.1 this.2, itr_add]

/-- The product of two permutations is one. -/
theorem pick_perm {a b : List Int} (ha : permB a = true) (hb : permB b = true) (hl : a.length = b.length) : permB (pickM b a) = true ∧ (pickM b a).length = a.length := by
  have hm : ∀ i ∈ a, 0 ≤ i ∧ i < b.length := by rw [← hl]; exact (permB_out ha).2
  rw [pick_mapI hm]
  refine ⟨decide_eq_true ⟨?_, ?_⟩, by simp⟩
  · unfold List.Nodup
    rw [List.pairwise_map]
    exact List.Pairwise.imp_of_mem (fun {x y} hx hy hne e => hne (app_inj hb (hm x hx).1 (hm x hx).2 (hm y hy).1 (hm y hy).2 e)) (permB_out ha).1
  · intro x hx
    obtain ⟨y, hy, rfl⟩ := List.mem_map.1 hx
    have := app_in hb (hm y hy).1 (hm y hy).2
    rw [List.length_map, hl]
    exact this

/-! Orders. -/
theorem not_nodup {α : Type} {n : Nat} {f : Nat → α} (h : ¬ ((List.range n).map f).Nodup) : ∃ i j, i < j ∧ j < n ∧ f i = f j := by
  refine Classical.byContradiction fun hn => h ?_
  unfold List.Nodup
  rw [List.pairwise_map]
  refine List.Pairwise.imp_of_mem (fun {a b} ha hb hlt e => hn ⟨a, b, hlt, List.mem_range.1 hb, e⟩) List.pairwise_lt_range

theorem cyc_at {l : List Int} (h : permB l = true) {x : Int} (h0 : 0 ≤ x) (h1 : x < l.length) : ∃ c, 1 ≤ c ∧ c ≤ l.length ∧ itr (appI l) c x = x := by
  obtain ⟨i, j, hij, hj, e⟩ := not_nodup (n := l.length + 1) (f := fun k => itr (appI l) k x) (fun hnd => by
    have := nodup_lenI l.length _ hnd fun y hy => by
      obtain ⟨k, _, rfl⟩ := List.mem_map.1 hy
      exact itr_in h k h0 h1
    simp at this
    omega)
  refine ⟨j - i, by omega, by omega, ?_⟩
  have e' : itr (appI l) i (itr (appI l) (j - i) x) = itr (appI l) i x := by rw [← itr_add, show i + (j - i) = j by omega]; exact e.symm
  exact itr_inj h i (itr_in h _ h0 h1).1 (itr_in h _ h0 h1).2 h0 h1 e'

theorem itr_mul {f : Int → Int} {c : Nat} {x : Int} (h : itr f c x = x) (q : Nat) : itr f (c * q) x = x := by
  induction q with
  | zero => rfl
  | succ q ih => rw [Nat.mul_succ, itr_add, h, ih]

theorem pw840 {l : List Int} (h : permB l = true) (hl : l.length ≤ 8) : pwI l 840 = iotaI l.length := by
  rw [← pwI_0]
  refine mapI_eq.2 fun x h0 h1 => ?_
  obtain ⟨c, c0, c1, hc⟩ := cyc_at h h0 h1
  have hd : c * (840 / c) = 840 := by
    have : c ≤ 8 := by omega
    rcases c with _ | _ | _ | _ | _ | _ | _ | _ | _ | c <;> first | omega | rfl
  rw [← hd]
  exact itr_mul hc _

/-- The order: the least power that is the identity. -/
def ordF (l : List Int) : Nat → Nat → Nat
  | 0, k => k
  | n + 1, k => if pwI l k = iotaI l.length then k else ordF l n (k + 1)

def ordI (l : List Int) : Nat := ordF l 839 1

theorem ordF_spec {l : List Int} : ∀ (n k : Nat), pwI l (k + n) = iotaI l.length → k ≤ ordF l n k ∧ ordF l n k ≤ k + n ∧ pwI l (ordF l n k) = iotaI l.length ∧ ∀ j, k ≤ j → j < ordF l n k → pwI l j ≠ iotaI l.length
  | 0, k, h => ⟨Nat.le_refl _, Nat.le_refl _, h, fun j h1 h2 => by have : j < k := h2; omega⟩
  | n + 1, k, h => by
    unfold ordF
    split
    · rename_i he
      exact ⟨by omega, by omega, he, fun j h1 h2 => by omega⟩
    · rename_i he
      obtain ⟨h1, h2, h3, h4⟩ := ordF_spec n (k + 1) (by rw [show k + 1 + n = k + (n + 1) by omega]; exact h)
      refine ⟨by omega, by omega, h3, fun j g1 g2 => ?_⟩
      by_cases e : j = k
      · subst e; exact he
      · exact h4 j (by omega) g2

theorem ordI_spec {l : List Int} (h : permB l = true) (hl : l.length ≤ 8) : 1 ≤ ordI l ∧ ordI l ≤ 840 ∧ pwI l (ordI l) = iotaI l.length ∧ ∀ j, 1 ≤ j → j < ordI l → pwI l j ≠ iotaI l.length :=
  ordF_spec 839 1 (pw840 h hl)

theorem pwI_ord {l : List Int} (h : permB l = true) {o : Nat} (ho : pwI l o = iotaI l.length) (e : Nat) : pwI l (e % o) = pwI l e := by
  refine mapI_eq.2 fun x h0 h1 => ?_
  have hx : ∀ y : Int, 0 ≤ y → y < (l.length : Int) → itr (appI l) o y = y := by
    rw [← pwI_0] at ho
    exact fun y a b => (mapI_eq.1 ho) y a b
  conv => rhs; rw [← Nat.mod_add_div e o, itr_add, itr_mul (hx x h0 h1)]

/-! ### Permutations: products and powers, walked -/
theorem then_ac (a b : List Int) (v w : AV) (h : AH) (ha : Rd h v a) (hb : Rd h w b) (hl : a.length ≤ 1048576) (hob : ∀ i ∈ a, 0 ≤ i ∧ i < b.length) :
    AC Try.prog 45 [v, w] h (fun r h' => AL.Own h 1 enI h' r (pickM b a)) := by
  refine e45 _ _ fun wf => ?_
  unfold c45
  refine LI_start wf ?_
  refine W ?_
  refine LS_co (fun h' HL wf => renamed_ac b a w v h' (hb.le HL.le) (ha.le HL.le) hl hob) enI1 rfl rfl fun w1 lw sw => ?_
  try (dsimp only [st, setL, AV.cells, List.set_cons_zero, List.set_cons_succ, List.drop_zero, List.drop_succ_cons, List.take_zero, List.take_succ_cons, Nat.zero_add, Nat.add_zero, Nat.reduceAdd, List.cons_append, List.nil_append, List.eraseIdx_cons_zero, List.eraseIdx_cons_succ])
  refine W ?_
  refine RET fun h' HL => ?_
  try dsimp only [oneA]
  exact HL.ownI 0 rfl enI1 (by decide)

theorem moThen_ac (a b : List Int) (v w : AV) (h : AH) (ha : Rd h v a) (hb : Rd h w b) (hl : a.length ≤ 1048576) (hob : ∀ i ∈ a, 0 ≤ i ∧ i < b.length) :
    AC Try.prog 42 [v, w] h (fun r h' => AL.Own h 1 enI h' r (pickM b a)) := by
  refine e42 _ _ fun wf => ?_
  unfold c42
  refine LI_start wf ?_
  refine W ?_
  refine LS_co (fun h' HL wf => moPick_ac b a w v h' (hb.le HL.le) (ha.le HL.le) hl hob) enI1 rfl rfl fun w1 lw sw => ?_
  try (dsimp only [st, setL, AV.cells, List.set_cons_zero, List.set_cons_succ, List.drop_zero, List.drop_succ_cons, List.take_zero, List.take_succ_cons, Nat.zero_add, Nat.add_zero, Nat.reduceAdd, List.cons_append, List.nil_append, List.eraseIdx_cons_zero, List.eraseIdx_cons_succ])
  refine W ?_
  refine RET fun h' HL => ?_
  try dsimp only [oneA]
  exact HL.ownI 0 rfl enI1 (by decide)

theorem half_sum {e : Int} {i j k : Nat} (h0 : 0 < e) (hs : j + i * e.toNat = k) : (e.tmod 2 = 1 → (i + j) + (i + i) * (e.tdiv 2).toNat = k) ∧ (¬ e.tmod 2 = 1 → j + (i + i) * (e.tdiv 2).toNat = k) := by
  have hd : e.tdiv 2 = e / 2 := Int.tdiv_eq_ediv_of_nonneg (by omega)
  have hm : e.tmod 2 = e % 2 := Int.tmod_eq_emod_of_nonneg (by omega)
  rw [hd, hm]
  have h2 : (i + i) * (e / 2).toNat = i * (2 * (e / 2).toNat) := by rw [← Nat.mul_assoc, Nat.mul_comm i 2, Nat.two_mul]
  rw [h2]
  constructor
  · intro ho
    have ee : e.toNat = 2 * (e / 2).toNat + 1 := by omega
    rw [ee, Nat.mul_add, Nat.mul_one] at hs
    omega
  · intro ho
    have ee : e.toNat = 2 * (e / 2).toNat := by omega
    rw [ee] at hs
    exact hs

theorem powI_ac (l : List Int) (e : Int) (hp : permB l = true) (hl : l.length ≤ 1048576) (v u : AV) (h0 h : AH) (L : List It) (HL : Loq h0 h (.sl u 1 ((iotaI l.length).flatMap enI) :: L)) (hv : ∀ h, Loq h0 h (.sl u 1 ((iotaI l.length).flatMap enI) :: L) → Rd h v l) (he0 : 0 ≤ e) (he1 : e ≤ 1000000) :
    AC Try.prog 53 [v, u, .i .i64 e, .f 45 []] h (fun r h' => ∃ M, (r.sc = true ∧ lenA r = some l.length ∧ M = [.sl r 1 ((pwI l e.toNat).flatMap enI)]) ∧ Loq h0 h' M) := by
  refine e53 _ _ _ _ fun wf => ?_
  unfold c53
  refine LI_startL HL ?_
  refine W ?_
  refine LIL_ind (fun n a L => ∃ (e1 : Int) (x o : AV) (i j : Nat), (∃ r : Nat → AV, a = [x, o, .i .i64 e1, .f 45 [], r 4, r 5, r 6, r 7, r 8, r 9, r 10, r 11, r 12, r 13, r 14, r 15, r 16, r 17, r 18, r 19, r 20, r 21, r 22, r 23, r 24]) ∧ (∀ h, Loq h0 h L → Rd h x (pwI l i)) ∧ .sl o 1 ((pwI l j).flatMap enI) ∈ L ∧ 0 ≤ e1 ∧ e1 ≤ n ∧ e1 ≤ 1000000 ∧ j + i * e1.toNat = e.toNat)
    e.toNat ⟨e, v, u, 1, 0, exJ rfl, by rw [pwI_1]; exact hv, by rw [pwI_0]; exact List.mem_cons_self, by omega, by omega, by omega, by omega⟩ ?_
  rintro n a L ⟨e1, x, o, i, j, ⟨r, rfl⟩, hx, ho, hn0, hn, hn1, hs⟩ IH
  refine W ?_
  (first | refine LS_gt rfl ?_ ?_ | refine LS_gf rfl ?_ ?_ | refine LI_cond rfl ?_ ?_) <;> intro hc <;> have hc' := hc <;> try simp only [decide_eq_true_eq, decide_eq_false_iff_not, Bool.not_eq_true', Bool.not_eq_false', Bool.not_eq_true, Bool.not_eq_false, beq_iff_eq, bne_iff_ne, beq_eq_false_iff_ne, bne_eq_false_iff_eq, Int.not_lt, Int.not_le, ge_iff_le, gt_iff_lt, not_and, ne_eq, Decidable.not_not] at hc'
  all_goals (try (dsimp only [st, setL, AV.cells, List.set_cons_zero, List.set_cons_succ, List.drop_zero, List.drop_succ_cons, List.take_zero, List.take_succ_cons, Nat.zero_add, Nat.add_zero, Nat.reduceAdd, List.cons_append, List.nil_append, List.eraseIdx_cons_zero, List.eraseIdx_cons_succ]))
  all_goals (refine W ?_)
  · have hh := half_lt hc'
    have hsum := half_sum hc' hs
    obtain ⟨n, rfl⟩ : ∃ q, n = q + 1 := ⟨n - 1, by omega⟩
    have hm : ∀ k, ∀ y ∈ pwI l k, 0 ≤ y ∧ y < (pwI l i).length := fun k => by rw [pwI_len]; exact pwI_mem hp k
    refine AL.LS_rm rfl rfl (by omega) ?_
    try (dsimp only [st, setL, AV.cells, List.set_cons_zero, List.set_cons_succ, List.drop_zero, List.drop_succ_cons, List.take_zero, List.take_succ_cons, Nat.zero_add, Nat.add_zero, Nat.reduceAdd, List.cons_append, List.nil_append, List.eraseIdx_cons_zero, List.eraseIdx_cons_succ])
    refine W ?_
    (first | refine LS_gt rfl ?_ ?_ | refine LS_gf rfl ?_ ?_ | refine LI_cond rfl ?_ ?_) <;> intro hc <;> have hc' := hc <;> try simp only [decide_eq_true_eq, decide_eq_false_iff_not, Bool.not_eq_true', Bool.not_eq_false', Bool.not_eq_true, Bool.not_eq_false, beq_iff_eq, bne_iff_ne, beq_eq_false_iff_ne, bne_eq_false_iff_eq, Int.not_lt, Int.not_le, ge_iff_le, gt_iff_lt, not_and, ne_eq, Decidable.not_not] at hc'
    all_goals (try (dsimp only [st, setL, AV.cells, List.set_cons_zero, List.set_cons_succ, List.drop_zero, List.drop_succ_cons, List.take_zero, List.take_succ_cons, Nat.zero_add, Nat.add_zero, Nat.reduceAdd, List.cons_append, List.nil_append, List.eraseIdx_cons_zero, List.eraseIdx_cons_succ]))
    all_goals (refine W ?_)
    · refine LS_co (fun h' HL wf => then_ac (pwI l j) (pwI l i) o x h' (HL.rdM ho enI1 (by decide)) (hx h' HL) (by rw [pwI_len]; exact hl) (hm j)) enI1 rfl rfl fun w lw sw => ?_
      try (dsimp only [st, setL, AV.cells, List.set_cons_zero, List.set_cons_succ, List.drop_zero, List.drop_succ_cons, List.take_zero, List.take_succ_cons, Nat.zero_add, Nat.add_zero, Nat.reduceAdd, List.cons_append, List.nil_append, List.eraseIdx_cons_zero, List.eraseIdx_cons_succ])
      refine W ?_
      refine LS_co (fun h' HL wf => then_ac (pwI l i) (pwI l i) x x h' (hx h' HL.tail) (hx h' HL.tail) (by rw [pwI_len]; exact hl) (hm i)) enI1 rfl rfl fun w2 lw2 sw2 => ?_
      try (dsimp only [st, setL, AV.cells, List.set_cons_zero, List.set_cons_succ, List.drop_zero, List.drop_succ_cons, List.take_zero, List.take_succ_cons, Nat.zero_add, Nat.add_zero, Nat.reduceAdd, List.cons_append, List.nil_append, List.eraseIdx_cons_zero, List.eraseIdx_cons_succ])
      refine W ?_
      refine LS_qu rfl rfl (by omega) ?_
      try (dsimp only [st, setL, AV.cells, List.set_cons_zero, List.set_cons_succ, List.drop_zero, List.drop_succ_cons, List.take_zero, List.take_succ_cons, Nat.zero_add, Nat.add_zero, Nat.reduceAdd, List.cons_append, List.nil_append, List.eraseIdx_cons_zero, List.eraseIdx_cons_succ])
      refine W ?_
      rw [tdiv2_wrap hn0 (by omega)]
      refine IH n _ _ (by omega) ⟨_, w2, w, i + i, i + j, exJ rfl, fun h HL => ?_, ?_, by omega, by omega, by omega, hsum.1 hc'⟩
      · have := HL.rdI 0 rfl enI1 (by decide)
        rwa [pwI_mul hp] at this
      · rw [← pwI_mul hp]
        exact List.mem_cons_of_mem _ List.mem_cons_self
    · refine LS_co (fun h' HL wf => then_ac (pwI l i) (pwI l i) x x h' (hx h' HL) (hx h' HL) (by rw [pwI_len]; exact hl) (hm i)) enI1 rfl rfl fun w2 lw2 sw2 => ?_
      try (dsimp only [st, setL, AV.cells, List.set_cons_zero, List.set_cons_succ, List.drop_zero, List.drop_succ_cons, List.take_zero, List.take_succ_cons, Nat.zero_add, Nat.add_zero, Nat.reduceAdd, List.cons_append, List.nil_append, List.eraseIdx_cons_zero, List.eraseIdx_cons_succ])
      refine W ?_
      refine LS_qu rfl rfl (by omega) ?_
      try (dsimp only [st, setL, AV.cells, List.set_cons_zero, List.set_cons_succ, List.drop_zero, List.drop_succ_cons, List.take_zero, List.take_succ_cons, Nat.zero_add, Nat.add_zero, Nat.reduceAdd, List.cons_append, List.nil_append, List.eraseIdx_cons_zero, List.eraseIdx_cons_succ])
      refine W ?_
      rw [tdiv2_wrap hn0 (by omega)]
      refine IH n _ _ (by omega) ⟨_, w2, o, i + i, j, exJ rfl, fun h HL => ?_, List.mem_cons_of_mem _ ho, by omega, by omega, by omega, hsum.2 hc'⟩
      have := HL.rdI 0 rfl enI1 (by decide)
      rwa [pwI_mul hp] at this
  · have ej : j = e.toNat := by
      have : e1.toNat = 0 := by omega
      rw [this] at hs
      simpa using hs
    subst ej
    refine RET fun h' HL => ?_
    try dsimp only [oneA]
    have hO := HL.rdM ho enI1 (by decide)
    have hln := hO.len
    rw [pwI_len] at hln
    exact ⟨_, ⟨rd_sc hO, hln, rfl⟩, HL.sub (List.singleton_sublist.2 ho)⟩

theorem moRaise_ac (l : List Int) (e : Int) (hp : permB l = true) (hl : l.length ≤ 1048576) (v : AV) (h : AH) (hR : Rd h v l) (he0 : 0 ≤ e) (he1 : e ≤ 1000000) :
    AC Try.prog 56 [v, .i .i64 e] h (fun r h' => AL.Own h 1 enI h' r (pwI l e.toNat)) := by
  have hln := hR.len
  refine e56 _ _ fun wf => ?_
  unfold c56
  refine LI_start wf ?_
  refine W ?_
  refine LIL_nl (k := 1) ?_
  refine LIL_ind (fun n a L => ∃ (k : Int) (o : AV), (∃ r : Nat → AV, a = [v, .i .i64 e, r 2, r 3, r 4, o, r 6, r 7, .i .i64 l.length, .i .i64 k, r 10, r 11, r 12, r 13, r 14, r 15, r 16, r 17, r 18, r 19, r 20, r 21, r 22, r 23, r 24, r 25, r 26, r 27, r 28, r 29, r 30]) ∧ L = [.sl o 1 ((iotaI k.toNat).flatMap enI)] ∧ 0 ≤ k ∧ k + n = l.length)
    l.length ⟨0, _, exJ rfl, rfl, by omega, by omega⟩ ?_
  rintro n a L ⟨k, o, ⟨r, rfl⟩, rfl, h0, hn⟩ IH
  refine W ?_
  (first | refine LS_gt rfl ?_ ?_ | refine LS_gf rfl ?_ ?_ | refine LI_cond rfl ?_ ?_) <;> intro hc <;> have hc' := hc <;> try simp only [decide_eq_true_eq, decide_eq_false_iff_not, Bool.not_eq_true', Bool.not_eq_false', Bool.not_eq_true, Bool.not_eq_false, beq_iff_eq, bne_iff_ne, beq_eq_false_iff_ne, bne_eq_false_iff_eq, Int.not_lt, Int.not_le, ge_iff_le, gt_iff_lt, not_and, ne_eq, Decidable.not_not] at hc'
  all_goals (try (dsimp only [st, setL, AV.cells, List.set_cons_zero, List.set_cons_succ, List.drop_zero, List.drop_succ_cons, List.take_zero, List.take_succ_cons, Nat.zero_add, Nat.add_zero, Nat.reduceAdd, List.cons_append, List.nil_append, List.eraseIdx_cons_zero, List.eraseIdx_cons_succ]))
  all_goals (refine W ?_)
  · refine LS_lt [k] rfl rfl (by decide) rfl rfl rfl rfl enI1 rfl rfl fun lit3 hlit3 slit3 => ?_
    try (dsimp only [st, setL, AV.cells, List.set_cons_zero, List.set_cons_succ, List.drop_zero, List.drop_succ_cons, List.take_zero, List.take_succ_cons, Nat.zero_add, Nat.add_zero, Nat.reduceAdd, List.cons_append, List.nil_append, List.eraseIdx_cons_zero, List.eraseIdx_cons_succ])
    refine W ?_
    refine LS_ap 1 rfl (fun h' HL => HL.rdI 0 rfl enI1 (by decide)) enI1 (by decide) (by simp) (by simp [iotaI_len]; omega) (by simp [iotaI_len]; omega) rfl rfl rfl fun w4 hw4 sw4 => ?_
    try (dsimp only [st, setL, AV.cells, List.set_cons_zero, List.set_cons_succ, List.drop_zero, List.drop_succ_cons, List.take_zero, List.take_succ_cons, Nat.zero_add, Nat.add_zero, Nat.reduceAdd, List.cons_append, List.nil_append, List.eraseIdx_cons_zero, List.eraseIdx_cons_succ])
    refine W ?_
    refine LIL_drop 1 ?_
    refine IH (n - 1) _ _ (by omega) ⟨k + 1, _, exJ rfl, ?_, by omega, by omega⟩
    rw [toNat_succ h0, iotaI_succ, show ((k.toNat : Nat) : Int) = k by omega]
    rfl
  · have ek : k.toNat = l.length := by omega
    rw [ek]
    refine LIL_ind (fun n a L => ∃ (e1 : Int) (x o : AV) (i j : Nat), (∃ r : Nat → AV, a = [x, .i .i64 e1, r 2, r 3, r 4, o, r 6, r 7, r 8, r 9, r 10, r 11, r 12, r 13, r 14, r 15, r 16, r 17, r 18, r 19, r 20, r 21, r 22, r 23, r 24, r 25, r 26, r 27, r 28, r 29, r 30]) ∧ (∀ h', Loq h h' L → Rd h' x (pwI l i)) ∧ .sl o 1 ((pwI l j).flatMap enI) ∈ L ∧ 0 ≤ e1 ∧ e1 ≤ n ∧ e1 ≤ 1000000 ∧ j + i * e1.toNat = e.toNat)
      e.toNat ⟨e, v, o, 1, 0, exJ rfl, fun h' HL => by rw [pwI_1]; exact hR.le HL.le, by rw [pwI_0]; exact List.mem_cons_self, by omega, by omega, by omega, by omega⟩ ?_
    clear IH
    rintro n a L ⟨e1, x, o, i, j, ⟨r, rfl⟩, hx, ho, hn0, hn, hn1, hs⟩ IH
    refine W ?_
    (first | refine LS_gt rfl ?_ ?_ | refine LS_gf rfl ?_ ?_ | refine LI_cond rfl ?_ ?_) <;> intro hc <;> have hc' := hc <;> try simp only [decide_eq_true_eq, decide_eq_false_iff_not, Bool.not_eq_true', Bool.not_eq_false', Bool.not_eq_true, Bool.not_eq_false, beq_iff_eq, bne_iff_ne, beq_eq_false_iff_ne, bne_eq_false_iff_eq, Int.not_lt, Int.not_le, ge_iff_le, gt_iff_lt, not_and, ne_eq, Decidable.not_not] at hc'
    all_goals (try (dsimp only [st, setL, AV.cells, List.set_cons_zero, List.set_cons_succ, List.drop_zero, List.drop_succ_cons, List.take_zero, List.take_succ_cons, Nat.zero_add, Nat.add_zero, Nat.reduceAdd, List.cons_append, List.nil_append, List.eraseIdx_cons_zero, List.eraseIdx_cons_succ]))
    all_goals (refine W ?_)
    · have hh := half_lt hc'
      have hsum := half_sum hc' hs
      obtain ⟨n, rfl⟩ : ∃ q, n = q + 1 := ⟨n - 1, by omega⟩
      have hm : ∀ k, ∀ y ∈ pwI l k, 0 ≤ y ∧ y < (pwI l i).length := fun k => by rw [pwI_len]; exact pwI_mem hp k
      refine AL.LS_rm rfl rfl (by omega) ?_
      try (dsimp only [st, setL, AV.cells, List.set_cons_zero, List.set_cons_succ, List.drop_zero, List.drop_succ_cons, List.take_zero, List.take_succ_cons, Nat.zero_add, Nat.add_zero, Nat.reduceAdd, List.cons_append, List.nil_append, List.eraseIdx_cons_zero, List.eraseIdx_cons_succ])
      refine W ?_
      (first | refine LS_gt rfl ?_ ?_ | refine LS_gf rfl ?_ ?_ | refine LI_cond rfl ?_ ?_) <;> intro hc <;> have hc' := hc <;> try simp only [decide_eq_true_eq, decide_eq_false_iff_not, Bool.not_eq_true', Bool.not_eq_false', Bool.not_eq_true, Bool.not_eq_false, beq_iff_eq, bne_iff_ne, beq_eq_false_iff_ne, bne_eq_false_iff_eq, Int.not_lt, Int.not_le, ge_iff_le, gt_iff_lt, not_and, ne_eq, Decidable.not_not] at hc'
      all_goals (try (dsimp only [st, setL, AV.cells, List.set_cons_zero, List.set_cons_succ, List.drop_zero, List.drop_succ_cons, List.take_zero, List.take_succ_cons, Nat.zero_add, Nat.add_zero, Nat.reduceAdd, List.cons_append, List.nil_append, List.eraseIdx_cons_zero, List.eraseIdx_cons_succ]))
      all_goals (refine W ?_)
      · refine LS_co (fun h' HL wf => moThen_ac (pwI l j) (pwI l i) o x h' (HL.rdM ho enI1 (by decide)) (hx h' HL) (by rw [pwI_len]; exact hl) (hm j)) enI1 rfl rfl fun w lw sw => ?_
        try (dsimp only [st, setL, AV.cells, List.set_cons_zero, List.set_cons_succ, List.drop_zero, List.drop_succ_cons, List.take_zero, List.take_succ_cons, Nat.zero_add, Nat.add_zero, Nat.reduceAdd, List.cons_append, List.nil_append, List.eraseIdx_cons_zero, List.eraseIdx_cons_succ])
        refine W ?_
        refine LS_co (fun h' HL wf => moThen_ac (pwI l i) (pwI l i) x x h' (hx h' HL.tail) (hx h' HL.tail) (by rw [pwI_len]; exact hl) (hm i)) enI1 rfl rfl fun w2 lw2 sw2 => ?_
        try (dsimp only [st, setL, AV.cells, List.set_cons_zero, List.set_cons_succ, List.drop_zero, List.drop_succ_cons, List.take_zero, List.take_succ_cons, Nat.zero_add, Nat.add_zero, Nat.reduceAdd, List.cons_append, List.nil_append, List.eraseIdx_cons_zero, List.eraseIdx_cons_succ])
        refine W ?_
        refine LS_qu rfl rfl (by omega) ?_
        try (dsimp only [st, setL, AV.cells, List.set_cons_zero, List.set_cons_succ, List.drop_zero, List.drop_succ_cons, List.take_zero, List.take_succ_cons, Nat.zero_add, Nat.add_zero, Nat.reduceAdd, List.cons_append, List.nil_append, List.eraseIdx_cons_zero, List.eraseIdx_cons_succ])
        refine W ?_
        rw [tdiv2_wrap hn0 (by omega)]
        refine IH n _ _ (by omega) ⟨_, w2, w, i + i, i + j, exJ rfl, fun h HL => ?_, ?_, by omega, by omega, by omega, hsum.1 hc'⟩
        · have := HL.rdI 0 rfl enI1 (by decide)
          rwa [pwI_mul hp] at this
        · rw [← pwI_mul hp]
          exact List.mem_cons_of_mem _ List.mem_cons_self
      · refine LS_co (fun h' HL wf => moThen_ac (pwI l i) (pwI l i) x x h' (hx h' HL) (hx h' HL) (by rw [pwI_len]; exact hl) (hm i)) enI1 rfl rfl fun w2 lw2 sw2 => ?_
        try (dsimp only [st, setL, AV.cells, List.set_cons_zero, List.set_cons_succ, List.drop_zero, List.drop_succ_cons, List.take_zero, List.take_succ_cons, Nat.zero_add, Nat.add_zero, Nat.reduceAdd, List.cons_append, List.nil_append, List.eraseIdx_cons_zero, List.eraseIdx_cons_succ])
        refine W ?_
        refine LS_qu rfl rfl (by omega) ?_
        try (dsimp only [st, setL, AV.cells, List.set_cons_zero, List.set_cons_succ, List.drop_zero, List.drop_succ_cons, List.take_zero, List.take_succ_cons, Nat.zero_add, Nat.add_zero, Nat.reduceAdd, List.cons_append, List.nil_append, List.eraseIdx_cons_zero, List.eraseIdx_cons_succ])
        refine W ?_
        rw [tdiv2_wrap hn0 (by omega)]
        refine IH n _ _ (by omega) ⟨_, w2, o, i + i, j, exJ rfl, fun h HL => ?_, List.mem_cons_of_mem _ ho, by omega, by omega, by omega, hsum.2 hc'⟩
        have := HL.rdI 0 rfl enI1 (by decide)
        rwa [pwI_mul hp] at this
    · have ej : j = e.toNat := by
        have : e1.toNat = 0 := by omega
        rw [this] at hs
        simpa using hs
      subst ej
      refine RET fun h' HL => ?_
      try dsimp only [oneA]
      exact (HL.sub (List.singleton_sublist.2 ho)).ownI 0 rfl enI1 (by decide)

/-! ### Permutations: products, powers, orders as the laws call them -/
def thenOk (a b : List Int) : Bool := isPerm a && (isPerm b && decide (a.length = b.length))

def thenR (a b : List Int) : List Int := if thenOk a b = true then pickM b a else []

theorem isPerm_out {l : List Int} (h : isPerm l = true) : 1 ≤ l.length ∧ l.length ≤ 8 ∧ permB l = true := by
  simp only [isPerm, Bool.and_eq_true, decide_eq_true_eq] at h
  exact ⟨h.1.1, h.1.2, h.2⟩

theorem thenR_bad {a b : List Int} (h : thenOk a b = false) : thenR a b = [] := by simp [thenR, h]

theorem implThenP_ac (a b : List Int) (v w : AV) (h : AH) (ha : Rd h v a) (hb : Rd h w b) (hla : a.length ≤ 1048576) (hlb : b.length ≤ 1048576) : AC Try.prog 17 [v, w] h (fun r h' => ∃ M, TupI (thenR a b) (thenOk a b) r M ∧ Loq h h' M) := by
  have hva := ha.len
  have hvb := hb.len
  refine e17 _ _ fun wf => ?_
  unfold c17
  refine LI_start wf ?_
  refine W ?_
  refine LS_c0 (fun h' HL wf => implIP_ac a v h' (ha.le HL.le) hla) rfl rfl ?_
  try (dsimp only [st, setL, AV.cells, List.set_cons_zero, List.set_cons_succ, List.drop_zero, List.drop_succ_cons, List.take_zero, List.take_succ_cons, Nat.zero_add, Nat.add_zero, Nat.reduceAdd, List.cons_append, List.nil_append, List.eraseIdx_cons_zero, List.eraseIdx_cons_succ])
  refine W ?_
  (first | refine LS_gt rfl ?_ ?_ | refine LS_gf rfl ?_ ?_ | refine LI_cond rfl ?_ ?_) <;> intro hc <;> have hc' := hc <;> try simp only [decide_eq_true_eq, decide_eq_false_iff_not, Bool.not_eq_true', Bool.not_eq_false', Bool.not_eq_true, Bool.not_eq_false, beq_iff_eq, bne_iff_ne, beq_eq_false_iff_ne, bne_eq_false_iff_eq, Int.not_lt, Int.not_le, ge_iff_le, gt_iff_lt, not_and, ne_eq, Decidable.not_not] at hc'
  all_goals (try (dsimp only [st, setL, AV.cells, List.set_cons_zero, List.set_cons_succ, List.drop_zero, List.drop_succ_cons, List.take_zero, List.take_succ_cons, Nat.zero_add, Nat.add_zero, Nat.reduceAdd, List.cons_append, List.nil_append, List.eraseIdx_cons_zero, List.eraseIdx_cons_succ]))
  all_goals (refine W ?_)
  · have h1 := nf hc
    refine LS_c0 (fun h' HL wf => implIP_ac b w h' (hb.le HL.le) hlb) rfl rfl ?_
    try (dsimp only [st, setL, AV.cells, List.set_cons_zero, List.set_cons_succ, List.drop_zero, List.drop_succ_cons, List.take_zero, List.take_succ_cons, Nat.zero_add, Nat.add_zero, Nat.reduceAdd, List.cons_append, List.nil_append, List.eraseIdx_cons_zero, List.eraseIdx_cons_succ])
    refine W ?_
    (first | refine LS_gt rfl ?_ ?_ | refine LS_gf rfl ?_ ?_ | refine LI_cond rfl ?_ ?_) <;> intro hc <;> have hc' := hc <;> try simp only [decide_eq_true_eq, decide_eq_false_iff_not, Bool.not_eq_true', Bool.not_eq_false', Bool.not_eq_true, Bool.not_eq_false, beq_iff_eq, bne_iff_ne, beq_eq_false_iff_ne, bne_eq_false_iff_eq, Int.not_lt, Int.not_le, ge_iff_le, gt_iff_lt, not_and, ne_eq, Decidable.not_not] at hc'
    all_goals (try (dsimp only [st, setL, AV.cells, List.set_cons_zero, List.set_cons_succ, List.drop_zero, List.drop_succ_cons, List.take_zero, List.take_succ_cons, Nat.zero_add, Nat.add_zero, Nat.reduceAdd, List.cons_append, List.nil_append, List.eraseIdx_cons_zero, List.eraseIdx_cons_succ]))
    all_goals (refine W ?_)
    · have h2 := nf hc
      (first | refine LS_gt rfl ?_ ?_ | refine LS_gf rfl ?_ ?_ | refine LI_cond rfl ?_ ?_) <;> intro hc <;> have hc' := hc <;> try simp only [decide_eq_true_eq, decide_eq_false_iff_not, Bool.not_eq_true', Bool.not_eq_false', Bool.not_eq_true, Bool.not_eq_false, beq_iff_eq, bne_iff_ne, beq_eq_false_iff_ne, bne_eq_false_iff_eq, Int.not_lt, Int.not_le, ge_iff_le, gt_iff_lt, not_and, ne_eq, Decidable.not_not] at hc'
      all_goals (try (dsimp only [st, setL, AV.cells, List.set_cons_zero, List.set_cons_succ, List.drop_zero, List.drop_succ_cons, List.take_zero, List.take_succ_cons, Nat.zero_add, Nat.add_zero, Nat.reduceAdd, List.cons_append, List.nil_append, List.eraseIdx_cons_zero, List.eraseIdx_cons_succ]))
      all_goals (refine W ?_)
      · have hk : thenOk a b = false := by
          rw [thenOk, h1, h2, decide_eq_false (by omega)]; rfl
        rw [hk, thenR_bad hk]
        refine RET fun h' HL => ?_
        try dsimp only [oneA]
        exact TupI.none HL
      · have hle : a.length = b.length := by omega
        have hk : thenOk a b = true := by rw [thenOk, h1, h2, decide_eq_true hle]; rfl
        rw [hk, thenR, if_pos hk]
        refine LS_co (fun h' HL wf => then_ac a b v w h' (ha.le HL.le) (hb.le HL.le) hla (by rw [← hle]; exact (permB_out (isPerm_out h1).2.2).2)) enI1 rfl rfl fun w1 lw sw => ?_
        try (dsimp only [st, setL, AV.cells, List.set_cons_zero, List.set_cons_succ, List.drop_zero, List.drop_succ_cons, List.take_zero, List.take_succ_cons, Nat.zero_add, Nat.add_zero, Nat.reduceAdd, List.cons_append, List.nil_append, List.eraseIdx_cons_zero, List.eraseIdx_cons_succ])
        refine W ?_
        refine RET fun h' HL => ?_
        try dsimp only [oneA]
        exact TupI.of (HL.ownI 0 rfl enI1 (by decide))
    · have hk : thenOk a b = false := by rw [thenOk, nt hc, Bool.false_and, Bool.and_false]
      rw [hk, thenR_bad hk]
      refine RET fun h' HL => ?_
      try dsimp only [oneA]
      exact TupI.none HL
  · have hk : thenOk a b = false := by rw [thenOk, nt hc, Bool.false_and]
    rw [hk, thenR_bad hk]
    refine RET fun h' HL => ?_
    try dsimp only [oneA]
    exact TupI.none HL

theorem specThenP_ac (a b : List Int) (v w : AV) (h : AH) (ha : Rd h v a) (hb : Rd h w b) (hla : a.length ≤ 1048576) (hlb : b.length ≤ 1048576) : AC Try.prog 18 [v, w] h (fun r h' => ∃ M, TupI (thenR a b) (thenOk a b) r M ∧ Loq h h' M) := by
  have hva := ha.len
  have hvb := hb.len
  refine e18 _ _ fun wf => ?_
  unfold c18
  refine LI_start wf ?_
  refine W ?_
  refine LS_c0 (fun h' HL wf => specIP_ac a v h' (ha.le HL.le) hla) rfl rfl ?_
  try (dsimp only [st, setL, AV.cells, List.set_cons_zero, List.set_cons_succ, List.drop_zero, List.drop_succ_cons, List.take_zero, List.take_succ_cons, Nat.zero_add, Nat.add_zero, Nat.reduceAdd, List.cons_append, List.nil_append, List.eraseIdx_cons_zero, List.eraseIdx_cons_succ])
  refine W ?_
  (first | refine LS_gt rfl ?_ ?_ | refine LS_gf rfl ?_ ?_ | refine LI_cond rfl ?_ ?_) <;> intro hc <;> have hc' := hc <;> try simp only [decide_eq_true_eq, decide_eq_false_iff_not, Bool.not_eq_true', Bool.not_eq_false', Bool.not_eq_true, Bool.not_eq_false, beq_iff_eq, bne_iff_ne, beq_eq_false_iff_ne, bne_eq_false_iff_eq, Int.not_lt, Int.not_le, ge_iff_le, gt_iff_lt, not_and, ne_eq, Decidable.not_not] at hc'
  all_goals (try (dsimp only [st, setL, AV.cells, List.set_cons_zero, List.set_cons_succ, List.drop_zero, List.drop_succ_cons, List.take_zero, List.take_succ_cons, Nat.zero_add, Nat.add_zero, Nat.reduceAdd, List.cons_append, List.nil_append, List.eraseIdx_cons_zero, List.eraseIdx_cons_succ]))
  all_goals (refine W ?_)
  · have h1 := nf hc
    refine LS_c0 (fun h' HL wf => specIP_ac b w h' (hb.le HL.le) hlb) rfl rfl ?_
    try (dsimp only [st, setL, AV.cells, List.set_cons_zero, List.set_cons_succ, List.drop_zero, List.drop_succ_cons, List.take_zero, List.take_succ_cons, Nat.zero_add, Nat.add_zero, Nat.reduceAdd, List.cons_append, List.nil_append, List.eraseIdx_cons_zero, List.eraseIdx_cons_succ])
    refine W ?_
    (first | refine LS_gt rfl ?_ ?_ | refine LS_gf rfl ?_ ?_ | refine LI_cond rfl ?_ ?_) <;> intro hc <;> have hc' := hc <;> try simp only [decide_eq_true_eq, decide_eq_false_iff_not, Bool.not_eq_true', Bool.not_eq_false', Bool.not_eq_true, Bool.not_eq_false, beq_iff_eq, bne_iff_ne, beq_eq_false_iff_ne, bne_eq_false_iff_eq, Int.not_lt, Int.not_le, ge_iff_le, gt_iff_lt, not_and, ne_eq, Decidable.not_not] at hc'
    all_goals (try (dsimp only [st, setL, AV.cells, List.set_cons_zero, List.set_cons_succ, List.drop_zero, List.drop_succ_cons, List.take_zero, List.take_succ_cons, Nat.zero_add, Nat.add_zero, Nat.reduceAdd, List.cons_append, List.nil_append, List.eraseIdx_cons_zero, List.eraseIdx_cons_succ]))
    all_goals (refine W ?_)
    · have h2 := nf hc
      (first | refine LS_gt rfl ?_ ?_ | refine LS_gf rfl ?_ ?_ | refine LI_cond rfl ?_ ?_) <;> intro hc <;> have hc' := hc <;> try simp only [decide_eq_true_eq, decide_eq_false_iff_not, Bool.not_eq_true', Bool.not_eq_false', Bool.not_eq_true, Bool.not_eq_false, beq_iff_eq, bne_iff_ne, beq_eq_false_iff_ne, bne_eq_false_iff_eq, Int.not_lt, Int.not_le, ge_iff_le, gt_iff_lt, not_and, ne_eq, Decidable.not_not] at hc'
      all_goals (try (dsimp only [st, setL, AV.cells, List.set_cons_zero, List.set_cons_succ, List.drop_zero, List.drop_succ_cons, List.take_zero, List.take_succ_cons, Nat.zero_add, Nat.add_zero, Nat.reduceAdd, List.cons_append, List.nil_append, List.eraseIdx_cons_zero, List.eraseIdx_cons_succ]))
      all_goals (refine W ?_)
      · have hk : thenOk a b = false := by
          rw [thenOk, h1, h2, decide_eq_false (by omega)]; rfl
        rw [hk, thenR_bad hk]
        refine RET fun h' HL => ?_
        try dsimp only [oneA]
        exact TupI.none HL
      · have hle : a.length = b.length := by omega
        have hk : thenOk a b = true := by rw [thenOk, h1, h2, decide_eq_true hle]; rfl
        rw [hk, thenR, if_pos hk]
        refine LS_co (fun h' HL wf => moThen_ac a b v w h' (ha.le HL.le) (hb.le HL.le) hla (by rw [← hle]; exact (permB_out (isPerm_out h1).2.2).2)) enI1 rfl rfl fun w1 lw sw => ?_
        try (dsimp only [st, setL, AV.cells, List.set_cons_zero, List.set_cons_succ, List.drop_zero, List.drop_succ_cons, List.take_zero, List.take_succ_cons, Nat.zero_add, Nat.add_zero, Nat.reduceAdd, List.cons_append, List.nil_append, List.eraseIdx_cons_zero, List.eraseIdx_cons_succ])
        refine W ?_
        refine RET fun h' HL => ?_
        try dsimp only [oneA]
        exact TupI.of (HL.ownI 0 rfl enI1 (by decide))
    · have hk : thenOk a b = false := by rw [thenOk, nt hc, Bool.false_and, Bool.and_false]
      rw [hk, thenR_bad hk]
      refine RET fun h' HL => ?_
      try dsimp only [oneA]
      exact TupI.none HL
  · have hk : thenOk a b = false := by rw [thenOk, nt hc, Bool.false_and]
    rw [hk, thenR_bad hk]
    refine RET fun h' HL => ?_
    try dsimp only [oneA]
    exact TupI.none HL

def powOk (e : Int) (a : List Int) : Bool := isPerm a && decide (0 ≤ e ∧ e ≤ 1000000)

def powR (e : Int) (a : List Int) : List Int := if powOk e a = true then pwI a e.toNat else []

theorem powR_bad {e : Int} {a : List Int} (h : powOk e a = false) : powR e a = [] := by simp [powR, h]

theorem implPowP_ac (a : List Int) (e : Int) (v : AV) (h : AH) (ha : Rd h v a) (hla : a.length ≤ 1048576) : AC Try.prog 22 [v, .i .i64 e] h (fun r h' => ∃ M, TupI (powR e a) (powOk e a) r M ∧ Loq h h' M) := by
  have hva := ha.len
  refine e22 _ _ fun wf => ?_
  unfold c22
  refine LI_start wf ?_
  refine W ?_
  refine LS_c0 (fun h' HL wf => implIP_ac a v h' (ha.le HL.le) hla) rfl rfl ?_
  try (dsimp only [st, setL, AV.cells, List.set_cons_zero, List.set_cons_succ, List.drop_zero, List.drop_succ_cons, List.take_zero, List.take_succ_cons, Nat.zero_add, Nat.add_zero, Nat.reduceAdd, List.cons_append, List.nil_append, List.eraseIdx_cons_zero, List.eraseIdx_cons_succ])
  refine W ?_
  (first | refine LS_gt rfl ?_ ?_ | refine LS_gf rfl ?_ ?_ | refine LI_cond rfl ?_ ?_) <;> intro hc <;> have hc' := hc <;> try simp only [decide_eq_true_eq, decide_eq_false_iff_not, Bool.not_eq_true', Bool.not_eq_false', Bool.not_eq_true, Bool.not_eq_false, beq_iff_eq, bne_iff_ne, beq_eq_false_iff_ne, bne_eq_false_iff_eq, Int.not_lt, Int.not_le, ge_iff_le, gt_iff_lt, not_and, ne_eq, Decidable.not_not] at hc'
  all_goals (try (dsimp only [st, setL, AV.cells, List.set_cons_zero, List.set_cons_succ, List.drop_zero, List.drop_succ_cons, List.take_zero, List.take_succ_cons, Nat.zero_add, Nat.add_zero, Nat.reduceAdd, List.cons_append, List.nil_append, List.eraseIdx_cons_zero, List.eraseIdx_cons_succ]))
  all_goals (refine W ?_)
  · have h1 := nf hc
    obtain ⟨h2, h3, h4⟩ := isPerm_out h1
    refine LS_c0' (fun h' HL wf => exponentOk_ac e h') rfl rfl ?_
    try (dsimp only [st, setL, AV.cells, List.set_cons_zero, List.set_cons_succ, List.drop_zero, List.drop_succ_cons, List.take_zero, List.take_succ_cons, Nat.zero_add, Nat.add_zero, Nat.reduceAdd, List.cons_append, List.nil_append, List.eraseIdx_cons_zero, List.eraseIdx_cons_succ])
    refine W ?_
    (first | refine LS_gt rfl ?_ ?_ | refine LS_gf rfl ?_ ?_ | refine LI_cond rfl ?_ ?_) <;> intro hc <;> have hc' := hc <;> try simp only [decide_eq_true_eq, decide_eq_false_iff_not, Bool.not_eq_true', Bool.not_eq_false', Bool.not_eq_true, Bool.not_eq_false, beq_iff_eq, bne_iff_ne, beq_eq_false_iff_ne, bne_eq_false_iff_eq, Int.not_lt, Int.not_le, ge_iff_le, gt_iff_lt, not_and, ne_eq, Decidable.not_not] at hc'
    all_goals (try (dsimp only [st, setL, AV.cells, List.set_cons_zero, List.set_cons_succ, List.drop_zero, List.drop_succ_cons, List.take_zero, List.take_succ_cons, Nat.zero_add, Nat.add_zero, Nat.reduceAdd, List.cons_append, List.nil_append, List.eraseIdx_cons_zero, List.eraseIdx_cons_succ]))
    all_goals (refine W ?_)
    · have hk : powOk e a = false := by rw [powOk, nt hc, Bool.and_false]
      rw [hk, powR_bad hk]
      refine RET fun h' HL => ?_
      try dsimp only [oneA]
      exact TupI.none HL
    · have he := of_decide_eq_true (nf hc)
      have hk : powOk e a = true := by rw [powOk, h1, nf hc]; rfl
      rw [hk, powR, if_pos hk]
      refine LS_co (fun h' HL wf => firsts_ac a.length h' wf (by omega) (by omega)) enI1 rfl rfl fun w1 lw1 sw1 => ?_
      try (dsimp only [st, setL, AV.cells, List.set_cons_zero, List.set_cons_succ, List.drop_zero, List.drop_succ_cons, List.take_zero, List.take_succ_cons, Nat.zero_add, Nat.add_zero, Nat.reduceAdd, List.cons_append, List.nil_append, List.eraseIdx_cons_zero, List.eraseIdx_cons_succ])
      refine W ?_
      rw [Int.toNat_natCast]
      refine LS_cm (.refl _) (fun h' HL wf => powI_ac a e h4 hla v w1 h h' [] HL (fun h'' HL => ha.le HL.le) he.1 he.2) rfl rfl ?_
      try (dsimp only [st, setL, AV.cells, List.set_cons_zero, List.set_cons_succ, List.drop_zero, List.drop_succ_cons, List.take_zero, List.take_succ_cons, Nat.zero_add, Nat.add_zero, Nat.reduceAdd, List.cons_append, List.nil_append, List.eraseIdx_cons_zero, List.eraseIdx_cons_succ])
      refine W ?_
      rintro w2 _ ⟨sw2, lw2, rfl⟩
      try (dsimp only [st, setL, AV.cells, List.set_cons_zero, List.set_cons_succ, List.drop_zero, List.drop_succ_cons, List.take_zero, List.take_succ_cons, Nat.zero_add, Nat.add_zero, Nat.reduceAdd, List.cons_append, List.nil_append, List.eraseIdx_cons_zero, List.eraseIdx_cons_succ])
      refine W ?_
      refine RET fun h' HL => ?_
      try dsimp only [oneA]
      exact TupI.of (HL.ownI 0 rfl enI1 (by decide))
  · have hk : powOk e a = false := by rw [powOk, nt hc, Bool.false_and]
    rw [hk, powR_bad hk]
    refine RET fun h' HL => ?_
    try dsimp only [oneA]
    exact TupI.none HL

theorem specPowP_ac (a : List Int) (e : Int) (v : AV) (h : AH) (ha : Rd h v a) (hla : a.length ≤ 1048576) : AC Try.prog 23 [v, .i .i64 e] h (fun r h' => ∃ M, TupI (powR e a) (powOk e a) r M ∧ Loq h h' M) := by
  have hva := ha.len
  refine e23 _ _ fun wf => ?_
  unfold c23
  refine LI_start wf ?_
  refine W ?_
  refine LS_c0 (fun h' HL wf => specIP_ac a v h' (ha.le HL.le) hla) rfl rfl ?_
  try (dsimp only [st, setL, AV.cells, List.set_cons_zero, List.set_cons_succ, List.drop_zero, List.drop_succ_cons, List.take_zero, List.take_succ_cons, Nat.zero_add, Nat.add_zero, Nat.reduceAdd, List.cons_append, List.nil_append, List.eraseIdx_cons_zero, List.eraseIdx_cons_succ])
  refine W ?_
  (first | refine LS_gt rfl ?_ ?_ | refine LS_gf rfl ?_ ?_ | refine LI_cond rfl ?_ ?_) <;> intro hc <;> have hc' := hc <;> try simp only [decide_eq_true_eq, decide_eq_false_iff_not, Bool.not_eq_true', Bool.not_eq_false', Bool.not_eq_true, Bool.not_eq_false, beq_iff_eq, bne_iff_ne, beq_eq_false_iff_ne, bne_eq_false_iff_eq, Int.not_lt, Int.not_le, ge_iff_le, gt_iff_lt, not_and, ne_eq, Decidable.not_not] at hc'
  all_goals (try (dsimp only [st, setL, AV.cells, List.set_cons_zero, List.set_cons_succ, List.drop_zero, List.drop_succ_cons, List.take_zero, List.take_succ_cons, Nat.zero_add, Nat.add_zero, Nat.reduceAdd, List.cons_append, List.nil_append, List.eraseIdx_cons_zero, List.eraseIdx_cons_succ]))
  all_goals (refine W ?_)
  · have h1 := nf hc
    obtain ⟨h2, h3, h4⟩ := isPerm_out h1
    refine LS_c0 (fun h' HL wf => moExponent_ac e h') rfl rfl ?_
    try (dsimp only [st, setL, AV.cells, List.set_cons_zero, List.set_cons_succ, List.drop_zero, List.drop_succ_cons, List.take_zero, List.take_succ_cons, Nat.zero_add, Nat.add_zero, Nat.reduceAdd, List.cons_append, List.nil_append, List.eraseIdx_cons_zero, List.eraseIdx_cons_succ])
    refine W ?_
    (first | refine LS_gt rfl ?_ ?_ | refine LS_gf rfl ?_ ?_ | refine LI_cond rfl ?_ ?_) <;> intro hc <;> have hc' := hc <;> try simp only [decide_eq_true_eq, decide_eq_false_iff_not, Bool.not_eq_true', Bool.not_eq_false', Bool.not_eq_true, Bool.not_eq_false, beq_iff_eq, bne_iff_ne, beq_eq_false_iff_ne, bne_eq_false_iff_eq, Int.not_lt, Int.not_le, ge_iff_le, gt_iff_lt, not_and, ne_eq, Decidable.not_not] at hc'
    all_goals (try (dsimp only [st, setL, AV.cells, List.set_cons_zero, List.set_cons_succ, List.drop_zero, List.drop_succ_cons, List.take_zero, List.take_succ_cons, Nat.zero_add, Nat.add_zero, Nat.reduceAdd, List.cons_append, List.nil_append, List.eraseIdx_cons_zero, List.eraseIdx_cons_succ]))
    all_goals (refine W ?_)
    · have hk : powOk e a = false := by rw [powOk, nt hc, Bool.and_false]
      rw [hk, powR_bad hk]
      refine RET fun h' HL => ?_
      try dsimp only [oneA]
      exact TupI.none HL
    · have he := of_decide_eq_true (nf hc)
      have hk : powOk e a = true := by rw [powOk, h1, nf hc]; rfl
      rw [hk, powR, if_pos hk]
      refine LS_co (fun h' HL wf => moRaise_ac a e h4 hla v h' (ha.le HL.le) he.1 he.2) enI1 rfl rfl fun w1 lw1 sw1 => ?_
      try (dsimp only [st, setL, AV.cells, List.set_cons_zero, List.set_cons_succ, List.drop_zero, List.drop_succ_cons, List.take_zero, List.take_succ_cons, Nat.zero_add, Nat.add_zero, Nat.reduceAdd, List.cons_append, List.nil_append, List.eraseIdx_cons_zero, List.eraseIdx_cons_succ])
      refine W ?_
      refine RET fun h' HL => ?_
      try dsimp only [oneA]
      exact TupI.of (HL.ownI 0 rfl enI1 (by decide))
  · have hk : powOk e a = false := by rw [powOk, nt hc, Bool.false_and]
    rw [hk, powR_bad hk]
    refine RET fun h' HL => ?_
    try dsimp only [oneA]
    exact TupI.none HL

def ordR (a : List Int) : Int := if isPerm a = true then ordI a else 0

theorem ord_eq {a : List Int} (hp : isPerm a = true) {k : Nat} (h1 : 1 ≤ k) (h2 : k ≤ ordI a) : pwI a k = iotaI a.length → k = ordI a := fun e => by
  obtain ⟨g1, g2, g3⟩ := isPerm_out hp
  obtain ⟨g4, g5, g6, g7⟩ := ordI_spec g3 g2
  by_cases hk : k < ordI a
  · exact absurd e (g7 k h1 hk)
  · omega

theorem implOrdP_ac (a : List Int) (v : AV) (h : AH) (ha : Rd h v a) (hla : a.length ≤ 1048576) : AC Try.prog 24 [v] h (fun r h' => r = .tup [.i .i64 (ordR a), .b (isPerm a)] ∧ h.le h') := by
  have hva := ha.len
  refine e24 _ fun wf => ?_
  unfold c24
  refine LI_start wf ?_
  refine W ?_
  refine LS_c0 (fun h' HL wf => implIP_ac a v h' (ha.le HL.le) hla) rfl rfl ?_
  try (dsimp only [st, setL, AV.cells, List.set_cons_zero, List.set_cons_succ, List.drop_zero, List.drop_succ_cons, List.take_zero, List.take_succ_cons, Nat.zero_add, Nat.add_zero, Nat.reduceAdd, List.cons_append, List.nil_append, List.eraseIdx_cons_zero, List.eraseIdx_cons_succ])
  refine W ?_
  (first | refine LS_gt rfl ?_ ?_ | refine LS_gf rfl ?_ ?_ | refine LI_cond rfl ?_ ?_) <;> intro hc <;> have hc' := hc <;> try simp only [decide_eq_true_eq, decide_eq_false_iff_not, Bool.not_eq_true', Bool.not_eq_false', Bool.not_eq_true, Bool.not_eq_false, beq_iff_eq, bne_iff_ne, beq_eq_false_iff_ne, bne_eq_false_iff_eq, Int.not_lt, Int.not_le, ge_iff_le, gt_iff_lt, not_and, ne_eq, Decidable.not_not] at hc'
  all_goals (try (dsimp only [st, setL, AV.cells, List.set_cons_zero, List.set_cons_succ, List.drop_zero, List.drop_succ_cons, List.take_zero, List.take_succ_cons, Nat.zero_add, Nat.add_zero, Nat.reduceAdd, List.cons_append, List.nil_append, List.eraseIdx_cons_zero, List.eraseIdx_cons_succ]))
  all_goals (refine W ?_)
  · rw [ordR, nt hc, if_neg (by simp)]
    refine RET fun h' HL => ?_
    try dsimp only [oneA]
    exact ⟨rfl, HL.le⟩
  · have h1 := nf hc
    obtain ⟨h2, h3, h4⟩ := isPerm_out h1
    obtain ⟨g4, g5, g6, g7⟩ := ordI_spec h4 h3
    rw [ordR, h1, if_pos rfl]
    refine LIL_ind (fun n a' L => ∃ (k : Nat) (b : AV), (∃ r : Nat → AV, a' = [v, r 1, r 2, r 3, .i .i64 k, b, r 6, r 7, r 8, r 9, r 10, r 11, r 12, r 13, r 14, r 15, r 16, r 17, r 18, r 19, r 20, r 21]) ∧ (∀ h', Loq h h' L → Rd h' b (pwI a k)) ∧ 1 ≤ k ∧ k ≤ ordI a ∧ k + n = ordI a)
      (ordI a - 1) ⟨1, v, exJ rfl, fun h' HL => by rw [pwI_1]; exact ha.le HL.le, by omega, by omega, by omega⟩ ?_
    rintro n a' L ⟨k, b, ⟨r, rfl⟩, hb, hk1, hk2, hkn⟩ IH
    refine W ?_
    refine LS_co (fun h' HL wf => firsts_ac a.length h' wf (by omega) (by omega)) enI1 rfl rfl fun w1 lw1 sw1 => ?_
    try (dsimp only [st, setL, AV.cells, List.set_cons_zero, List.set_cons_succ, List.drop_zero, List.drop_succ_cons, List.take_zero, List.take_succ_cons, Nat.zero_add, Nat.add_zero, Nat.reduceAdd, List.cons_append, List.nil_append, List.eraseIdx_cons_zero, List.eraseIdx_cons_succ])
    refine W ?_
    rw [Int.toNat_natCast]
    refine LS_c0 (fun h' HL wf => eqV_ac (pwI a k) (iotaI a.length) b w1 h' (hb h' HL.tail) (HL.rdI 0 rfl enI1 (by decide)) (by rw [pwI_len]; omega) (by rw [iotaI_len]; omega)) rfl rfl ?_
    try (dsimp only [st, setL, AV.cells, List.set_cons_zero, List.set_cons_succ, List.drop_zero, List.drop_succ_cons, List.take_zero, List.take_succ_cons, Nat.zero_add, Nat.add_zero, Nat.reduceAdd, List.cons_append, List.nil_append, List.eraseIdx_cons_zero, List.eraseIdx_cons_succ])
    refine W ?_
    (first | refine LS_gt rfl ?_ ?_ | refine LS_gf rfl ?_ ?_ | refine LI_cond rfl ?_ ?_) <;> intro hc <;> have hc' := hc <;> try simp only [decide_eq_true_eq, decide_eq_false_iff_not, Bool.not_eq_true', Bool.not_eq_false', Bool.not_eq_true, Bool.not_eq_false, beq_iff_eq, bne_iff_ne, beq_eq_false_iff_ne, bne_eq_false_iff_eq, Int.not_lt, Int.not_le, ge_iff_le, gt_iff_lt, not_and, ne_eq, Decidable.not_not] at hc'
    all_goals (try (dsimp only [st, setL, AV.cells, List.set_cons_zero, List.set_cons_succ, List.drop_zero, List.drop_succ_cons, List.take_zero, List.take_succ_cons, Nat.zero_add, Nat.add_zero, Nat.reduceAdd, List.cons_append, List.nil_append, List.eraseIdx_cons_zero, List.eraseIdx_cons_succ]))
    all_goals (refine W ?_)
    · have hne := of_decide_eq_false (nt hc)
      have hlt : k < ordI a := Nat.lt_of_le_of_ne hk2 (fun e => hne (by rw [e]; exact g6))
      refine LS_co (fun h' HL wf => then_ac (pwI a k) a b v h' (hb h' HL.tail) (ha.le HL.le) (by rw [pwI_len]; omega) (pwI_mem h4 k)) enI1 rfl rfl fun w2 lw2 sw2 => ?_
      try (dsimp only [st, setL, AV.cells, List.set_cons_zero, List.set_cons_succ, List.drop_zero, List.drop_succ_cons, List.take_zero, List.take_succ_cons, Nat.zero_add, Nat.add_zero, Nat.reduceAdd, List.cons_append, List.nil_append, List.eraseIdx_cons_zero, List.eraseIdx_cons_succ])
      refine W ?_
      refine IH (n - 1) _ _ (by omega) ⟨k + 1, w2, exJ rfl, fun h' HL => ?_, by omega, by omega, by omega⟩
      have := HL.rdI 0 rfl enI1 (by decide)
      have e : pickM a (pwI a k) = pwI a (k + 1) := by
        have := pwI_mul h4 1 k
        rwa [pwI_1, Nat.add_comm] at this
      rwa [e] at this
    · have he := of_decide_eq_true (nf hc)
      have hk := ord_eq h1 hk1 hk2 he
      refine RET fun h' HL => ?_
      try dsimp only [oneA]
      exact ⟨by rw [hk], HL.le⟩

theorem specOrdP_ac (a : List Int) (v : AV) (h : AH) (ha : Rd h v a) (hla : a.length ≤ 1048576) : AC Try.prog 25 [v] h (fun r h' => r = .tup [.i .i64 (ordR a), .b (isPerm a)] ∧ h.le h') := by
  have hva := ha.len
  refine e25 _ fun wf => ?_
  unfold c25
  refine LI_start wf ?_
  refine W ?_
  refine LS_c0 (fun h' HL wf => specIP_ac a v h' (ha.le HL.le) hla) rfl rfl ?_
  try (dsimp only [st, setL, AV.cells, List.set_cons_zero, List.set_cons_succ, List.drop_zero, List.drop_succ_cons, List.take_zero, List.take_succ_cons, Nat.zero_add, Nat.add_zero, Nat.reduceAdd, List.cons_append, List.nil_append, List.eraseIdx_cons_zero, List.eraseIdx_cons_succ])
  refine W ?_
  (first | refine LS_gt rfl ?_ ?_ | refine LS_gf rfl ?_ ?_ | refine LI_cond rfl ?_ ?_) <;> intro hc <;> have hc' := hc <;> try simp only [decide_eq_true_eq, decide_eq_false_iff_not, Bool.not_eq_true', Bool.not_eq_false', Bool.not_eq_true, Bool.not_eq_false, beq_iff_eq, bne_iff_ne, beq_eq_false_iff_ne, bne_eq_false_iff_eq, Int.not_lt, Int.not_le, ge_iff_le, gt_iff_lt, not_and, ne_eq, Decidable.not_not] at hc'
  all_goals (try (dsimp only [st, setL, AV.cells, List.set_cons_zero, List.set_cons_succ, List.drop_zero, List.drop_succ_cons, List.take_zero, List.take_succ_cons, Nat.zero_add, Nat.add_zero, Nat.reduceAdd, List.cons_append, List.nil_append, List.eraseIdx_cons_zero, List.eraseIdx_cons_succ]))
  all_goals (refine W ?_)
  · rw [ordR, nt hc, if_neg (by simp)]
    refine RET fun h' HL => ?_
    try dsimp only [oneA]
    exact ⟨rfl, HL.le⟩
  · have h1 := nf hc
    obtain ⟨h2, h3, h4⟩ := isPerm_out h1
    obtain ⟨g4, g5, g6, g7⟩ := ordI_spec h4 h3
    rw [ordR, h1, if_pos rfl]
    refine LIL_ind (fun n a' L => ∃ (k : Nat), (∃ r : Nat → AV, a' = [v, r 1, r 2, r 3, .i .i64 k, r 5, r 6, r 7, r 8, r 9, r 10, r 11, r 12, r 13, r 14, r 15, r 16, r 17]) ∧ L = [] ∧ 1 ≤ k ∧ k ≤ ordI a ∧ k + n = ordI a)
      (ordI a - 1) ⟨1, exJ rfl, rfl, by omega, by omega, by omega⟩ ?_
    rintro n a' L ⟨k, ⟨r, rfl⟩, rfl, hk1, hk2, hkn⟩ IH
    refine W ?_
    refine LS_co (fun h' HL wf => moRaise_ac a k h4 hla v h' (ha.le HL.le) (by omega) (by omega)) enI1 rfl rfl fun w1 lw1 sw1 => ?_
    try (dsimp only [st, setL, AV.cells, List.set_cons_zero, List.set_cons_succ, List.drop_zero, List.drop_succ_cons, List.take_zero, List.take_succ_cons, Nat.zero_add, Nat.add_zero, Nat.reduceAdd, List.cons_append, List.nil_append, List.eraseIdx_cons_zero, List.eraseIdx_cons_succ])
    refine W ?_
    refine LS_co (fun h' HL wf => moRaise_ac a 0 h4 hla v h' (ha.le HL.le) (by omega) (by omega)) enI1 rfl rfl fun w2 lw2 sw2 => ?_
    try (dsimp only [st, setL, AV.cells, List.set_cons_zero, List.set_cons_succ, List.drop_zero, List.drop_succ_cons, List.take_zero, List.take_succ_cons, Nat.zero_add, Nat.add_zero, Nat.reduceAdd, List.cons_append, List.nil_append, List.eraseIdx_cons_zero, List.eraseIdx_cons_succ])
    refine W ?_
    refine LS_c0 (fun h' HL wf => l1Same_ac (pwI a (k : Int).toNat) (pwI a (0 : Int).toNat) w1 w2 h' (HL.rdI 1 rfl enI1 (by decide)) (HL.rdI 0 rfl enI1 (by decide)) (by rw [pwI_len]; omega) (by rw [pwI_len]; omega)) rfl rfl ?_
    try (dsimp only [st, setL, AV.cells, List.set_cons_zero, List.set_cons_succ, List.drop_zero, List.drop_succ_cons, List.take_zero, List.take_succ_cons, Nat.zero_add, Nat.add_zero, Nat.reduceAdd, List.cons_append, List.nil_append, List.eraseIdx_cons_zero, List.eraseIdx_cons_succ])
    refine W ?_
    rw [Int.toNat_natCast, show (0 : Int).toNat = 0 from rfl, pwI_0]
    (first | refine LS_gt rfl ?_ ?_ | refine LS_gf rfl ?_ ?_ | refine LI_cond rfl ?_ ?_) <;> intro hc <;> have hc' := hc <;> try simp only [decide_eq_true_eq, decide_eq_false_iff_not, Bool.not_eq_true', Bool.not_eq_false', Bool.not_eq_true, Bool.not_eq_false, beq_iff_eq, bne_iff_ne, beq_eq_false_iff_ne, bne_eq_false_iff_eq, Int.not_lt, Int.not_le, ge_iff_le, gt_iff_lt, not_and, ne_eq, Decidable.not_not] at hc'
    all_goals (try (dsimp only [st, setL, AV.cells, List.set_cons_zero, List.set_cons_succ, List.drop_zero, List.drop_succ_cons, List.take_zero, List.take_succ_cons, Nat.zero_add, Nat.add_zero, Nat.reduceAdd, List.cons_append, List.nil_append, List.eraseIdx_cons_zero, List.eraseIdx_cons_succ]))
    all_goals (refine W ?_)
    · have hne := of_decide_eq_false (nt hc)
      have hlt : k < ordI a := Nat.lt_of_le_of_ne hk2 (fun e => hne (by rw [e]; exact g6))
      refine LIL_drop 2 ?_
      refine IH (n - 1) _ _ (by omega) ⟨k + 1, exJ rfl, rfl, by omega, by omega, by omega⟩
    · have he := of_decide_eq_true (nf hc)
      have hk := ord_eq h1 hk1 hk2 he
      refine RET fun h' HL => ?_
      try dsimp only [oneA]
      exact ⟨by rw [hk], HL.le⟩

/-! ### Permutations: products and powers, the laws -/
theorem thenR_len {a b : List Int} : (thenR a b).length ≤ 1048576 := by
  unfold thenR
  split
  · rename_i e
    simp only [thenOk, Bool.and_eq_true] at e
    have := isPerm_out e.1
    exact Nat.le_trans (pickM_len _ _) (by omega)
  · simp

theorem powR_len {a : List Int} {e : Int} : (powR e a).length ≤ 1048576 := by
  unfold powR
  split
  · rename_i k
    simp only [powOk, Bool.and_eq_true] at k
    have := isPerm_out k.1
    rw [pwI_len]; omega
  · simp

def RowsRd (h : AH) (us : List AV) (ll : List (List Int)) : Prop := us.length = ll.length ∧ ∀ (i : Nat) (u : AV) (l : List Int), us[i]? = some u → ll[i]? = some l → Rd h u l

theorem RowsRd.at_ {h : AH} {us : List AV} {ll : List (List Int)} (H : RowsRd h us ll) {i : Nat} {l : List Int} (hl : ll[i]? = some l) : ∃ u, us[i]? = some u ∧ Rd h u l := by
  have hi : i < us.length := by rw [H.1]; exact (List.getElem?_eq_some_iff.1 hl).1
  exact ⟨us[i], List.getElem?_eq_getElem hi, H.2 i _ l (List.getElem?_eq_getElem hi) hl⟩

theorem pickM_getG {α : Type} {l : List α} : ∀ {ix : List Int} {k : Nat} {i : Int}, (∀ j ∈ ix, 0 ≤ j ∧ j < l.length) → ix[k]? = some i → (pickM l ix)[k]? = l[i.toNat]?
  | [], k, i, _, h => by simp at h
  | j :: ix, 0, i, hb, h => by
    simp at h; subst h
    have := hb j (by simp)
    rw [pickM, List.filterMap_cons, List.getElem?_eq_getElem (show j.toNat < l.length by omega)]
    rfl
  | j :: ix, k + 1, i, hb, h => by
    have := hb j (by simp)
    have ih := pickM_getG (l := l) (ix := ix) (k := k) (i := i) (fun j hj => hb j (by simp [hj])) (by simpa using h)
    rw [pickM] at ih ⊢
    rw [List.filterMap_cons, List.getElem?_eq_getElem (show j.toNat < l.length by omega)]
    simpa using ih

theorem pickM_lenG {α : Type} {l : List α} : ∀ {ix : List Int}, (∀ j ∈ ix, 0 ≤ j ∧ j < l.length) → (pickM l ix).length = ix.length
  | [], _ => rfl
  | j :: ix, hb => by
    have := hb j (by simp)
    have ih := pickM_lenG (l := l) (ix := ix) (fun j hj => hb j (by simp [hj]))
    rw [pickM] at ih ⊢
    rw [List.filterMap_cons, List.getElem?_eq_getElem (show j.toNat < l.length by omega)]
    simp [ih]

/-- Lists of lists handed back, and whether. -/
def TupSS (ll : List (List Int)) (ok : Bool) (r : AV) (M : List It) : Prop := ∃ w us, r = .tup [w, .b ok] ∧ us.length = ll.length ∧ lenA w = some ll.length ∧ w.sc = true ∧ M = ssI w us ll

theorem TupSS.none {h0 h : AH} {L : List It} (H : Loq h0 h L) : ∃ M, TupSS [] false (.tup [.ns, .b false]) M ∧ Loq h0 h M := ⟨_, ⟨.ns, [], rfl, rfl, rfl, rfl, rfl⟩, loq_ns (H.sub (List.nil_sublist _)) 1⟩

/-! ### Permutations drawn -/
theorem points_ac (bc : Nat) (cv : AV) (l : List Int) (ct sd : Int) (h0 h : AH) (L : List It) (HL : Loq h0 h (.pt bc [cv, .i .i64 ct, .i .u64 sd] :: L)) (hcv : RdG 1 enU h0 cv l) (hb : ∀ x ∈ l, 0 ≤ x ∧ x ≤ 255) (h1 : 0 ≤ ct) (h2 : ct ≤ 549745813888) :
    AC Try.prog 46 [.p bc 0] h (fun r h' => ∃ M, (∃ x ct' sd', r = .i .i64 x ∧ (0 ≤ x ∧ x ≤ 9) ∧ (ct ≤ ct' ∧ ct' ≤ ct + 6) ∧ M = .pt bc [cv, .i .i64 ct', .i .u64 sd'] :: L) ∧ Loq h0 h' M) := by
  refine e46 _ fun wf => ?_
  unfold c46
  refine LI_startL HL ?_
  refine W ?_
  refine LS_cm (.refl _) (fun h' HL wf => one_ac 20 _ _ _ _ _ _ h' _ HL  hcv hb (by omega) (by omega)) rfl rfl ?_
  rintro _ _ ⟨x, ct1, sd1, rfl, hx, hct1, rfl⟩
  try (dsimp only [st, setL, AV.cells, List.set_cons_zero, List.set_cons_succ, List.drop_zero, List.drop_succ_cons, List.take_zero, List.take_succ_cons, Nat.zero_add, Nat.add_zero, Nat.reduceAdd, List.cons_append, List.nil_append, List.eraseIdx_cons_zero, List.eraseIdx_cons_succ])
  refine W ?_
  cases x
  · first | (refine LS_gtnH rfl (rfl) ?_; intro hg; try (dsimp only [st, setL, AV.cells, List.set_cons_zero, List.set_cons_succ, List.drop_zero, List.drop_succ_cons, List.take_zero, List.take_succ_cons, Nat.zero_add, Nat.add_zero, Nat.reduceAdd, List.cons_append, List.nil_append, List.eraseIdx_cons_zero, List.eraseIdx_cons_succ])) | (refine LS_gfnH rfl (rfl) ?_; intro hg; try (dsimp only [st, setL, AV.cells, List.set_cons_zero, List.set_cons_succ, List.drop_zero, List.drop_succ_cons, List.take_zero, List.take_succ_cons, Nat.zero_add, Nat.add_zero, Nat.reduceAdd, List.cons_append, List.nil_append, List.eraseIdx_cons_zero, List.eraseIdx_cons_succ])) | (refine LI_cond_fH rfl (rfl) ?_; intro hg)
    refine W ?_
    refine LS_cm (.refl _) (fun h' HL wf => pick_ac 6 _ _ _ _ _ _ h' _ HL  hcv hb (by omega) (by omega)) rfl rfl ?_
    rintro _ _ ⟨y, ct3, sd3, rfl, hy, hct3, rfl⟩
    try (dsimp only [st, setL, AV.cells, List.set_cons_zero, List.set_cons_succ, List.drop_zero, List.drop_succ_cons, List.take_zero, List.take_succ_cons, Nat.zero_add, Nat.add_zero, Nat.reduceAdd, List.cons_append, List.nil_append, List.eraseIdx_cons_zero, List.eraseIdx_cons_succ])
    refine W ?_
    refine RET fun h' HL => ?_
    try dsimp only [oneA]
    exact ⟨_, ⟨_, ct3, sd3, rfl, by omega, by omega, rfl⟩, HL⟩
  · first | (refine LS_gyH rfl (rfl) ?_; intro hg) | (refine LI_cond_tH rfl (rfl) ?_; intro hg)
    refine W ?_
    refine LS_lt [0, 8, 9] rfl rfl (by decide) rfl rfl rfl rfl enI1 rfl rfl fun w lw sw => ?_
    try (dsimp only [st, setL, AV.cells, List.set_cons_zero, List.set_cons_succ, List.drop_zero, List.drop_succ_cons, List.take_zero, List.take_succ_cons, Nat.zero_add, Nat.add_zero, Nat.reduceAdd, List.cons_append, List.nil_append, List.eraseIdx_cons_zero, List.eraseIdx_cons_succ])
    refine W ?_
    refine LS_rot 1 rfl ?_
    refine LS_cm (.refl _) (fun h' HL wf => among_ac [0, 8, 9] w _ _ _ _ _ _ h' _ HL (fun h' HL => HL.rdI 0 rfl enI1 (by decide)) (by decide) hcv hb (by omega) (by omega)) rfl rfl ?_
    rintro _ _ ⟨x, ct2, sd2, rfl, hx, hct2, rfl⟩
    try (dsimp only [st, setL, AV.cells, List.set_cons_zero, List.set_cons_succ, List.drop_zero, List.drop_succ_cons, List.take_zero, List.take_succ_cons, Nat.zero_add, Nat.add_zero, Nat.reduceAdd, List.cons_append, List.nil_append, List.eraseIdx_cons_zero, List.eraseIdx_cons_succ])
    refine W ?_
    have : x = 0 ∨ x = 8 ∨ x = 9 := by simpa using hx
    refine RET fun h' HL => ?_
    try dsimp only [oneA]
    exact ⟨_, ⟨_, ct2, sd2, rfl, by omega, by omega, rfl⟩, HL.sub (by simp)⟩

theorem permD_ac (n : Int) (hn : 0 ≤ n ∧ n ≤ 9) (bc : Nat) (cv : AV) (l : List Int) (ct sd : Int) (h0 h : AH) (L : List It) (HL : Loq h0 h (.pt bc [cv, .i .i64 ct, .i .u64 sd] :: L)) (hcv : RdG 1 enU h0 cv l) (hb : ∀ x ∈ l, 0 ≤ x ∧ x ≤ 255) (h1 : 0 ≤ ct) (h2 : ct ≤ 549745813888) :
    AC Try.prog 48 [.p bc 0, .i .i64 n] h (fun r h' => ∃ M, (∃ (x : AV × List Int) (ct' sd' : Int), r = x.1 ∧ (lenA x.1 = some x.2.length ∧ x.1.sc = true ∧ x.2.length ≤ 9) ∧ (ct ≤ ct' ∧ ct' ≤ ct + 100) ∧ M = .sl x.1 1 (x.2.flatMap enI) :: .pt bc [cv, .i .i64 ct', .i .u64 sd'] :: L) ∧ Loq h0 h' M) := by
  refine e48 _ _ fun wf => ?_
  unfold c48
  refine LI_startL HL ?_
  refine W ?_
  refine LIL_nl (k := 1) ?_
  refine LIL_ind (fun k a M => ∃ (i : Int) (u : AV) (xs : List Int) (ct' sd' : Int), (∃ r : Nat → AV, a = [.p bc 0, .i .i64 n, r 2, r 3, r 4, u, .i .i64 i, r 7, r 8, r 9, r 10, r 11, r 12, r 13, r 14, r 15, r 16, r 17, r 18, r 19, r 20, r 21, r 22, r 23, r 24, r 25, r 26, r 27, r 28, r 29, r 30, r 31, r 32, r 33, r 34, r 35, r 36, r 37, r 38, r 39, r 40, r 41, r 42, r 43, r 44, r 45, r 46, r 47, r 48, r 49]) ∧ M = .sl u 1 (xs.flatMap enI) :: .pt bc [cv, .i .i64 ct', .i .u64 sd'] :: L ∧ 0 ≤ i ∧ i + k = n ∧ (xs.length : Int) = i ∧ ct ≤ ct' ∧ ct' ≤ ct + 2 * i ∧ lenA u = some xs.length ∧ u.sc = true)
    n.toNat ⟨0, .ns, [], ct, sd, exJ rfl, rfl, by omega, by omega, by simp, by omega, by omega, rfl, rfl⟩ ?_
  rintro k a M ⟨i, u, xs, ct2, sd2, ⟨r, rfl⟩, rfl, hi, hi2, hxl, hc1, hc2, lu, su⟩ IH
  refine W ?_
  (first | refine LS_gt rfl ?_ ?_ | refine LS_gf rfl ?_ ?_ | refine LI_cond rfl ?_ ?_) <;> intro hc <;> have hc' := hc <;> try simp only [decide_eq_true_eq, decide_eq_false_iff_not, Bool.not_eq_true', Bool.not_eq_false', Bool.not_eq_true, Bool.not_eq_false, beq_iff_eq, bne_iff_ne, beq_eq_false_iff_ne, bne_eq_false_iff_eq, Int.not_lt, Int.not_le, ge_iff_le, gt_iff_lt, not_and, ne_eq, Decidable.not_not] at hc'
  all_goals (try (dsimp only [st, setL, AV.cells, List.set_cons_zero, List.set_cons_succ, List.drop_zero, List.drop_succ_cons, List.take_zero, List.take_succ_cons, Nat.zero_add, Nat.add_zero, Nat.reduceAdd, List.cons_append, List.nil_append, List.eraseIdx_cons_zero, List.eraseIdx_cons_succ]))
  all_goals (refine W ?_)
  · refine LS_rot 1 rfl ?_
    refine LS_cm (.refl _) (fun h' HL wf => pick_ac (i + 1) _ _ _ _ _ _ h' _ HL  hcv hb (by omega) (by omega)) rfl rfl ?_
    rintro _ _ ⟨x, ct3, sd3, rfl, hx, hct3, rfl⟩
    try (dsimp only [st, setL, AV.cells, List.set_cons_zero, List.set_cons_succ, List.drop_zero, List.drop_succ_cons, List.take_zero, List.take_succ_cons, Nat.zero_add, Nat.add_zero, Nat.reduceAdd, List.cons_append, List.nil_append, List.eraseIdx_cons_zero, List.eraseIdx_cons_succ])
    refine W ?_
    have hx1 : x.toNat ≤ xs.length := by omega
    refine LS_lt ([] : List Int) rfl rfl (by decide) rfl rfl rfl rfl enI1 rfl rfl fun w lw sw => ?_
    try (dsimp only [st, setL, AV.cells, List.set_cons_zero, List.set_cons_succ, List.drop_zero, List.drop_succ_cons, List.take_zero, List.take_succ_cons, Nat.zero_add, Nat.add_zero, Nat.reduceAdd, List.cons_append, List.nil_append, List.eraseIdx_cons_zero, List.eraseIdx_cons_succ])
    refine W ?_
    refine LS_sz (u := x.toNat) (q := 0) (fun h' HL => HL.rdI 2 rfl enI1 (by decide)) enI1 (.inl ⟨rfl, rfl⟩) (.inr ⟨_, _, _, rfl, rfl, hx.1, rfl⟩) (by omega) (by omega) rfl fun w1 hw1 sw1 rw1 => ?_
    try (dsimp only [st, setL, AV.cells, List.set_cons_zero, List.set_cons_succ, List.drop_zero, List.drop_succ_cons, List.take_zero, List.take_succ_cons, Nat.zero_add, Nat.add_zero, Nat.reduceAdd, List.cons_append, List.nil_append, List.eraseIdx_cons_zero, List.eraseIdx_cons_succ])
    refine W ?_
    refine LS_ap0 0 rfl (fun h' HL => rw1 h' (HL.rdI 2 rfl enI1 (by decide))) enI1 (by decide) (by simp; omega) (by simp; omega) rfl rfl rfl fun w2 hw2 sw2 => ?_
    try (dsimp only [st, setL, AV.cells, List.set_cons_zero, List.set_cons_succ, List.drop_zero, List.drop_succ_cons, List.take_zero, List.take_succ_cons, Nat.zero_add, Nat.add_zero, Nat.reduceAdd, List.cons_append, List.nil_append, List.eraseIdx_cons_zero, List.eraseIdx_cons_succ])
    refine W ?_
    refine LS_lt [i] rfl rfl (by decide) rfl rfl rfl rfl enI1 rfl rfl fun w3 lw3 sw3 => ?_
    try (dsimp only [st, setL, AV.cells, List.set_cons_zero, List.set_cons_succ, List.drop_zero, List.drop_succ_cons, List.take_zero, List.take_succ_cons, Nat.zero_add, Nat.add_zero, Nat.reduceAdd, List.cons_append, List.nil_append, List.eraseIdx_cons_zero, List.eraseIdx_cons_succ])
    refine W ?_
    refine LS_ap 1 rfl (fun h' HL => HL.rdI 0 rfl enI1 (by decide)) enI1 (by decide) (by simp) (by simp; omega) (by simp; omega) rfl rfl rfl fun w4 lw4 sw4 => ?_
    try (dsimp only [st, setL, AV.cells, List.set_cons_zero, List.set_cons_succ, List.drop_zero, List.drop_succ_cons, List.take_zero, List.take_succ_cons, Nat.zero_add, Nat.add_zero, Nat.reduceAdd, List.cons_append, List.nil_append, List.eraseIdx_cons_zero, List.eraseIdx_cons_succ])
    refine W ?_
    refine LS_sz (u := xs.length) (q := x.toNat) (fun h' HL => HL.rdI 3 rfl enI1 (by decide)) enI1 (.inr ⟨_, _, _, rfl, rfl, hx.1, rfl⟩) (.inl ⟨rfl, rfl⟩) (by omega) (by omega) rfl fun w5 hw5 sw5 rw5 => ?_
    try (dsimp only [st, setL, AV.cells, List.set_cons_zero, List.set_cons_succ, List.drop_zero, List.drop_succ_cons, List.take_zero, List.take_succ_cons, Nat.zero_add, Nat.add_zero, Nat.reduceAdd, List.cons_append, List.nil_append, List.eraseIdx_cons_zero, List.eraseIdx_cons_succ])
    refine W ?_
    refine LS_ap0 1 rfl (fun h' HL => rw5 h' (HL.rdI 3 rfl enI1 (by decide))) enI1 (by decide) (by simp; omega) (by simp; omega) rfl rfl rfl fun w6 hw6 sw6 => ?_
    try (dsimp only [st, setL, AV.cells, List.set_cons_zero, List.set_cons_succ, List.drop_zero, List.drop_succ_cons, List.take_zero, List.take_succ_cons, Nat.zero_add, Nat.add_zero, Nat.reduceAdd, List.cons_append, List.nil_append, List.eraseIdx_cons_zero, List.eraseIdx_cons_succ])
    refine W ?_
    refine LIL_drop 1 (LIL_sub (.cons_cons _ (.cons_cons _ (.cons _ (.refl _)))) ?_)
    refine IH (k - 1) _ _ (by omega) ⟨i + 1, w6, _, ct3, sd3, exJ rfl, rfl, by omega, by omega, by simp; omega, by omega, by omega, hw6, sw6⟩
  · (first | refine LS_gt rfl ?_ ?_ | refine LS_gf rfl ?_ ?_ | refine LI_cond rfl ?_ ?_) <;> intro hc <;> have hc' := hc <;> try simp only [decide_eq_true_eq, decide_eq_false_iff_not, Bool.not_eq_true', Bool.not_eq_false', Bool.not_eq_true, Bool.not_eq_false, beq_iff_eq, bne_iff_ne, beq_eq_false_iff_ne, bne_eq_false_iff_eq, Int.not_lt, Int.not_le, ge_iff_le, gt_iff_lt, not_and, ne_eq, Decidable.not_not] at hc'
    all_goals (try (dsimp only [st, setL, AV.cells, List.set_cons_zero, List.set_cons_succ, List.drop_zero, List.drop_succ_cons, List.take_zero, List.take_succ_cons, Nat.zero_add, Nat.add_zero, Nat.reduceAdd, List.cons_append, List.nil_append, List.eraseIdx_cons_zero, List.eraseIdx_cons_succ]))
    all_goals (refine W ?_)
    · have hpos : 0 < xs.length := by omega
      refine LS_rot 1 rfl ?_
      refine LS_cm (.refl _) (fun h' HL wf => one_ac 40 _ _ _ _ _ _ h' _ HL  hcv hb (by omega) (by omega)) rfl rfl ?_
      rintro _ _ ⟨x, ct3, sd3, rfl, hx, hct3, rfl⟩
      try (dsimp only [st, setL, AV.cells, List.set_cons_zero, List.set_cons_succ, List.drop_zero, List.drop_succ_cons, List.take_zero, List.take_succ_cons, Nat.zero_add, Nat.add_zero, Nat.reduceAdd, List.cons_append, List.nil_append, List.eraseIdx_cons_zero, List.eraseIdx_cons_succ])
      refine W ?_
      cases x
      · first | (refine LS_gtnH rfl (rfl) ?_; intro hg; try (dsimp only [st, setL, AV.cells, List.set_cons_zero, List.set_cons_succ, List.drop_zero, List.drop_succ_cons, List.take_zero, List.take_succ_cons, Nat.zero_add, Nat.add_zero, Nat.reduceAdd, List.cons_append, List.nil_append, List.eraseIdx_cons_zero, List.eraseIdx_cons_succ])) | (refine LS_gfnH rfl (rfl) ?_; intro hg; try (dsimp only [st, setL, AV.cells, List.set_cons_zero, List.set_cons_succ, List.drop_zero, List.drop_succ_cons, List.take_zero, List.take_succ_cons, Nat.zero_add, Nat.add_zero, Nat.reduceAdd, List.cons_append, List.nil_append, List.eraseIdx_cons_zero, List.eraseIdx_cons_succ])) | (refine LI_cond_fH rfl (rfl) ?_; intro hg)
        refine W ?_
        refine RET fun h' HL => ?_
        try dsimp only [oneA]
        exact ⟨_, ⟨(u, xs), ct3, sd3, rfl, ⟨lu, su, by show xs.length ≤ 9; omega⟩, by omega, rfl⟩, HL.rot 1 rfl⟩
      · first | (refine LS_gyH rfl (rfl) ?_; intro hg) | (refine LI_cond_tH rfl (rfl) ?_; intro hg)
        refine W ?_
        refine LS_cm (.refl _) (fun h' HL wf => pick_ac xs.length _ _ _ _ _ _ h' _ HL  hcv hb (by omega) (by omega)) rfl rfl ?_
        rintro _ _ ⟨y, ct4, sd4, rfl, hy, hct4, rfl⟩
        try (dsimp only [st, setL, AV.cells, List.set_cons_zero, List.set_cons_succ, List.drop_zero, List.drop_succ_cons, List.take_zero, List.take_succ_cons, Nat.zero_add, Nat.add_zero, Nat.reduceAdd, List.cons_append, List.nil_append, List.eraseIdx_cons_zero, List.eraseIdx_cons_succ])
        refine W ?_
        refine LS_lt [-1, 0, n, 4611686018427387904] rfl rfl (by decide) rfl rfl rfl rfl enI1 rfl rfl fun w lw sw => ?_
        try (dsimp only [st, setL, AV.cells, List.set_cons_zero, List.set_cons_succ, List.drop_zero, List.drop_succ_cons, List.take_zero, List.take_succ_cons, Nat.zero_add, Nat.add_zero, Nat.reduceAdd, List.cons_append, List.nil_append, List.eraseIdx_cons_zero, List.eraseIdx_cons_succ])
        refine W ?_
        refine LS_rot 1 rfl ?_
        refine LS_cm (.refl _) (fun h' HL wf => among_ac [-1, 0, n, 4611686018427387904] w _ _ _ _ _ _ h' _ HL (fun h' HL => HL.rdI 0 rfl enI1 (by decide)) (by simp) hcv hb (by omega) (by omega)) rfl rfl ?_
        rintro _ _ ⟨z, ct5, sd5, rfl, hz, hct5, rfl⟩
        try (dsimp only [st, setL, AV.cells, List.set_cons_zero, List.set_cons_succ, List.drop_zero, List.drop_succ_cons, List.take_zero, List.take_succ_cons, Nat.zero_add, Nat.add_zero, Nat.reduceAdd, List.cons_append, List.nil_append, List.eraseIdx_cons_zero, List.eraseIdx_cons_succ])
        refine W ?_
        obtain ⟨bu, ou, cu, rfl⟩ := sl_of lu hpos
        have hyl : y < xs.length := by omega
        refine LS_is hy.1 hyl rfl rfl ?_
        try (dsimp only [st, setL, AV.cells, List.set_cons_zero, List.set_cons_succ, List.drop_zero, List.drop_succ_cons, List.take_zero, List.take_succ_cons, Nat.zero_add, Nat.add_zero, Nat.reduceAdd, List.cons_append, List.nil_append, List.eraseIdx_cons_zero, List.eraseIdx_cons_succ])
        refine W ?_
        refine LS_ss z 2 y.toNat rfl (by omega) rfl rfl enI1 (by decide) rfl rfl rfl ?_
        try (dsimp only [st, setL, AV.cells, List.set_cons_zero, List.set_cons_succ, List.drop_zero, List.drop_succ_cons, List.take_zero, List.take_succ_cons, Nat.zero_add, Nat.add_zero, Nat.reduceAdd, List.cons_append, List.nil_append, List.eraseIdx_cons_zero, List.eraseIdx_cons_succ])
        refine W ?_
        refine RET fun h' HL => ?_
        try dsimp only [oneA]
        exact ⟨_, ⟨(.sl bu ou xs.length cu, xs.set y.toNat z), ct5, sd5, rfl, ⟨by simp [lenA], rfl, by show (xs.set y.toNat z).length ≤ 9; rw [List.length_set]; omega⟩, by omega, rfl⟩, (HL.rot 2 rfl).sub (.cons_cons _ (.cons_cons _ (.cons _ (.refl _))))⟩
    · refine RET fun h' HL => ?_
      try dsimp only [oneA]
      exact ⟨_, ⟨(u, xs), ct2, sd2, rfl, ⟨lu, su, by show xs.length ≤ 9; omega⟩, by omega, rfl⟩, HL⟩

theorem DrawThenPermutation_ac (c1 : List Int) (v1 : AV) (h : AH) (hcv : RdG 1 enU h v1 c1) (hb : ∀ x ∈ c1, 0 ≤ x ∧ x ≤ 255) :
    AC Try.prog 16 [v1] h (fun r h' => ∃ M, (∃ (va : AV) (a : List Int) (vb : AV) (b : List Int), r = .tup [va, vb] ∧ (lenA va = some a.length ∧ va.sc = true ∧ a.length ≤ 9) ∧ (lenA vb = some b.length ∧ vb.sc = true ∧ b.length ≤ 9) ∧ M = [.sl vb 1 (b.flatMap enI), .sl va 1 (a.flatMap enI)]) ∧ Loq h h' M) := by
  refine e16 _ fun wf => ?_
  unfold c16
  refine LI_start wf ?_
  refine W ?_
  refine LS_bxn rfl (sc_cons (rd_sc hcv) rfl) fun bc => ?_
  try (dsimp only [st, setL, AV.cells, List.set_cons_zero, List.set_cons_succ, List.drop_zero, List.drop_succ_cons, List.take_zero, List.take_succ_cons, Nat.zero_add, Nat.add_zero, Nat.reduceAdd, List.cons_append, List.nil_append, List.eraseIdx_cons_zero, List.eraseIdx_cons_succ])
  refine W ?_
  refine LS_cm (.refl _) (fun h' HL wf => points_ac _ _ _ _ _ _ h' _ HL  hcv hb (by omega) (by omega)) rfl rfl ?_
  rintro _ _ ⟨n, ct1, sd1, rfl, hn, hct1, rfl⟩
  try (dsimp only [st, setL, AV.cells, List.set_cons_zero, List.set_cons_succ, List.drop_zero, List.drop_succ_cons, List.take_zero, List.take_succ_cons, Nat.zero_add, Nat.add_zero, Nat.reduceAdd, List.cons_append, List.nil_append, List.eraseIdx_cons_zero, List.eraseIdx_cons_succ])
  refine W ?_
  refine LS_cm (.refl _) (fun h' HL wf => one_ac 12 _ _ _ _ _ _ h' _ HL  hcv hb (by omega) (by omega)) rfl rfl ?_
  rintro _ _ ⟨q, ct2, sd2, rfl, hq, hct2, rfl⟩
  try (dsimp only [st, setL, AV.cells, List.set_cons_zero, List.set_cons_succ, List.drop_zero, List.drop_succ_cons, List.take_zero, List.take_succ_cons, Nat.zero_add, Nat.add_zero, Nat.reduceAdd, List.cons_append, List.nil_append, List.eraseIdx_cons_zero, List.eraseIdx_cons_succ])
  refine W ?_
  cases q
  · first | (refine LS_gtnH rfl (rfl) ?_; intro hg; try (dsimp only [st, setL, AV.cells, List.set_cons_zero, List.set_cons_succ, List.drop_zero, List.drop_succ_cons, List.take_zero, List.take_succ_cons, Nat.zero_add, Nat.add_zero, Nat.reduceAdd, List.cons_append, List.nil_append, List.eraseIdx_cons_zero, List.eraseIdx_cons_succ])) | (refine LS_gfnH rfl (rfl) ?_; intro hg; try (dsimp only [st, setL, AV.cells, List.set_cons_zero, List.set_cons_succ, List.drop_zero, List.drop_succ_cons, List.take_zero, List.take_succ_cons, Nat.zero_add, Nat.add_zero, Nat.reduceAdd, List.cons_append, List.nil_append, List.eraseIdx_cons_zero, List.eraseIdx_cons_succ])) | (refine LI_cond_fH rfl (rfl) ?_; intro hg)
    refine W ?_
    refine LS_cm (.refl _) (fun h' HL wf => permD_ac n hn _ _ _ _ _ _ h' _ HL  hcv hb (by omega) (by omega)) rfl rfl ?_
    rintro _ _ ⟨x, ct3, sd3, rfl, hx, hct3, rfl⟩
    try (dsimp only [st, setL, AV.cells, List.set_cons_zero, List.set_cons_succ, List.drop_zero, List.drop_succ_cons, List.take_zero, List.take_succ_cons, Nat.zero_add, Nat.add_zero, Nat.reduceAdd, List.cons_append, List.nil_append, List.eraseIdx_cons_zero, List.eraseIdx_cons_succ])
    refine W ?_
    refine LS_rot 1 rfl ?_
    refine LS_cm (.refl _) (fun h' HL wf => permD_ac n hn _ _ _ _ _ _ h' _ HL  hcv hb (by omega) (by omega)) rfl rfl ?_
    rintro _ _ ⟨y, ct4, sd4, rfl, hy, hct4, rfl⟩
    try (dsimp only [st, setL, AV.cells, List.set_cons_zero, List.set_cons_succ, List.drop_zero, List.drop_succ_cons, List.take_zero, List.take_succ_cons, Nat.zero_add, Nat.add_zero, Nat.reduceAdd, List.cons_append, List.nil_append, List.eraseIdx_cons_zero, List.eraseIdx_cons_succ])
    refine W ?_
    refine RET fun h' HL => ?_
    try dsimp only [oneA]
    exact ⟨_, ⟨_, _, _, _, rfl, hx, hy, rfl⟩, HL.sub (.cons_cons _ (.cons _ (.cons_cons _ .slnil)))⟩
  · first | (refine LS_gyH rfl (rfl) ?_; intro hg) | (refine LI_cond_tH rfl (rfl) ?_; intro hg)
    refine W ?_
    refine LS_cm (.refl _) (fun h' HL wf => permD_ac n hn _ _ _ _ _ _ h' _ HL  hcv hb (by omega) (by omega)) rfl rfl ?_
    rintro _ _ ⟨x, ct3, sd3, rfl, hx, hct3, rfl⟩
    try (dsimp only [st, setL, AV.cells, List.set_cons_zero, List.set_cons_succ, List.drop_zero, List.drop_succ_cons, List.take_zero, List.take_succ_cons, Nat.zero_add, Nat.add_zero, Nat.reduceAdd, List.cons_append, List.nil_append, List.eraseIdx_cons_zero, List.eraseIdx_cons_succ])
    refine W ?_
    refine LS_rot 1 rfl ?_
    refine LS_cm (.refl _) (fun h' HL wf => points_ac _ _ _ _ _ _ h' _ HL  hcv hb (by omega) (by omega)) rfl rfl ?_
    rintro _ _ ⟨m, ct5, sd5, rfl, hm, hct5, rfl⟩
    try (dsimp only [st, setL, AV.cells, List.set_cons_zero, List.set_cons_succ, List.drop_zero, List.drop_succ_cons, List.take_zero, List.take_succ_cons, Nat.zero_add, Nat.add_zero, Nat.reduceAdd, List.cons_append, List.nil_append, List.eraseIdx_cons_zero, List.eraseIdx_cons_succ])
    refine W ?_
    refine LS_cm (.refl _) (fun h' HL wf => permD_ac m hm _ _ _ _ _ _ h' _ HL  hcv hb (by omega) (by omega)) rfl rfl ?_
    rintro _ _ ⟨y, ct4, sd4, rfl, hy, hct4, rfl⟩
    try (dsimp only [st, setL, AV.cells, List.set_cons_zero, List.set_cons_succ, List.drop_zero, List.drop_succ_cons, List.take_zero, List.take_succ_cons, Nat.zero_add, Nat.add_zero, Nat.reduceAdd, List.cons_append, List.nil_append, List.eraseIdx_cons_zero, List.eraseIdx_cons_succ])
    refine W ?_
    refine RET fun h' HL => ?_
    try dsimp only [oneA]
    exact ⟨_, ⟨_, _, _, _, rfl, hx, hy, rfl⟩, HL.sub (.cons_cons _ (.cons _ (.cons_cons _ .slnil)))⟩

theorem DrawPermutationPower_ac (c1 : List Int) (v1 : AV) (h : AH) (hcv : RdG 1 enU h v1 c1) (hb : ∀ x ∈ c1, 0 ≤ x ∧ x ≤ 255) :
    AC Try.prog 21 [v1] h (fun r h' => ∃ M, (∃ (va : AV) (a : List Int) (e : Int), r = .tup [va, .i .i64 e] ∧ (lenA va = some a.length ∧ va.sc = true ∧ a.length ≤ 9) ∧ (-1 ≤ e ∧ e ≤ 1000001) ∧ M = [.sl va 1 (a.flatMap enI)]) ∧ Loq h h' M) := by
  refine e21 _ fun wf => ?_
  unfold c21
  refine LI_start wf ?_
  refine W ?_
  refine LS_bxn rfl (sc_cons (rd_sc hcv) rfl) fun bc => ?_
  try (dsimp only [st, setL, AV.cells, List.set_cons_zero, List.set_cons_succ, List.drop_zero, List.drop_succ_cons, List.take_zero, List.take_succ_cons, Nat.zero_add, Nat.add_zero, Nat.reduceAdd, List.cons_append, List.nil_append, List.eraseIdx_cons_zero, List.eraseIdx_cons_succ])
  refine W ?_
  refine LS_cm (.refl _) (fun h' HL wf => points_ac _ _ _ _ _ _ h' _ HL  hcv hb (by omega) (by omega)) rfl rfl ?_
  rintro _ _ ⟨n, ct1, sd1, rfl, hn, hct1, rfl⟩
  try (dsimp only [st, setL, AV.cells, List.set_cons_zero, List.set_cons_succ, List.drop_zero, List.drop_succ_cons, List.take_zero, List.take_succ_cons, Nat.zero_add, Nat.add_zero, Nat.reduceAdd, List.cons_append, List.nil_append, List.eraseIdx_cons_zero, List.eraseIdx_cons_succ])
  refine W ?_
  refine LS_cm (.refl _) (fun h' HL wf => permD_ac n hn _ _ _ _ _ _ h' _ HL  hcv hb (by omega) (by omega)) rfl rfl ?_
  rintro _ _ ⟨x, ct3, sd3, rfl, hx, hct3, rfl⟩
  try (dsimp only [st, setL, AV.cells, List.set_cons_zero, List.set_cons_succ, List.drop_zero, List.drop_succ_cons, List.take_zero, List.take_succ_cons, Nat.zero_add, Nat.add_zero, Nat.reduceAdd, List.cons_append, List.nil_append, List.eraseIdx_cons_zero, List.eraseIdx_cons_succ])
  refine W ?_
  refine LS_rot 1 rfl ?_
  refine LS_cm (.refl _) (fun h' HL wf => exponent_ac _ _ _ _ _ _ h' _ HL  hcv hb (by omega) (by omega)) rfl rfl ?_
  rintro _ _ ⟨e, ct4, sd4, rfl, he, hct4, rfl⟩
  try (dsimp only [st, setL, AV.cells, List.set_cons_zero, List.set_cons_succ, List.drop_zero, List.drop_succ_cons, List.take_zero, List.take_succ_cons, Nat.zero_add, Nat.add_zero, Nat.reduceAdd, List.cons_append, List.nil_append, List.eraseIdx_cons_zero, List.eraseIdx_cons_succ])
  refine W ?_
  refine RET fun h' HL => ?_
  try dsimp only [oneA]
  exact ⟨_, ⟨_, _, _, rfl, hx, he, rfl⟩, HL.sub (.cons _ (.cons_cons _ .slnil))⟩

/-! ### The law of permutations -/
theorem lawFnPermutations_ac (c1 : List Int) (v1 : AV) (c2 : List Int) (v2 : AV) (h : AH) (hR1 : RdG 1 enU h v1 c1) (w1 : ∀ n ∈ c1, (Lit.int .u8 n).wf = true) (m1 : c1.length ≤ maxLen) (hR2 : RdG 1 enU h v2 c2) (w2 : ∀ n ∈ c2, (Lit.int .u8 n).wf = true) (m2 : c2.length ≤ maxLen) :
    AC Try.prog 4 [v1, v2] h (fun r h' => r = .b true) := by
  have b1 := bytes_in w1
  have b2 := bytes_in w2
  have q1 : c1.length ≤ 9223372036854775807 := m1
  have q2 : c2.length ≤ 9223372036854775807 := m2
  refine e4 _ _ fun wf => ?_
  unfold c4
  refine LI_start wf ?_
  refine W ?_
  refine LS_c0 (fun h' HL wf => big_ac c1 c2 v1 v2 h' (hR1.le HL.le) (hR2.le HL.le) q1 q2) rfl rfl ?_
  try (dsimp only [st, setL, AV.cells, List.set_cons_zero, List.set_cons_succ, List.drop_zero, List.drop_succ_cons, List.take_zero, List.take_succ_cons, Nat.zero_add, Nat.add_zero, Nat.reduceAdd, List.cons_append, List.nil_append, List.eraseIdx_cons_zero, List.eraseIdx_cons_succ])
  refine W ?_
  (first | refine LS_gt rfl ?_ ?_ | refine LS_gf rfl ?_ ?_ | refine LI_cond rfl ?_ ?_) <;> intro hc <;> have hc' := hc <;> try simp only [decide_eq_true_eq, decide_eq_false_iff_not, Bool.not_eq_true', Bool.not_eq_false', Bool.not_eq_true, Bool.not_eq_false, beq_iff_eq, bne_iff_ne, beq_eq_false_iff_ne, bne_eq_false_iff_eq, Int.not_lt, Int.not_le, ge_iff_le, gt_iff_lt, not_and, ne_eq, Decidable.not_not] at hc'
  all_goals (try (dsimp only [st, setL, AV.cells, List.set_cons_zero, List.set_cons_succ, List.drop_zero, List.drop_succ_cons, List.take_zero, List.take_succ_cons, Nat.zero_add, Nat.add_zero, Nat.reduceAdd, List.cons_append, List.nil_append, List.eraseIdx_cons_zero, List.eraseIdx_cons_succ]))
  all_goals (refine W ?_)
  · refine RET fun h' HL => ?_
    try dsimp only [oneA]
  · obtain ⟨q3, q4⟩ := big_f hc
    refine LS_c1 (fun h' HL wf => DrawThenPermutation_ac c1 v1 h' (hR1.le HL.le) b1) rfl rfl ?_
    try (dsimp only [st, setL, AV.cells, List.set_cons_zero, List.set_cons_succ, List.drop_zero, List.drop_succ_cons, List.take_zero, List.take_succ_cons, Nat.zero_add, Nat.add_zero, Nat.reduceAdd, List.cons_append, List.nil_append, List.eraseIdx_cons_zero, List.eraseIdx_cons_succ])
    refine W ?_
    rintro _ _ ⟨va, la, vb, lb, rfl, ⟨k1, k2, k3⟩, ⟨k4, k5, k6⟩, rfl⟩
    try (dsimp only [st, setL, AV.cells, List.set_cons_zero, List.set_cons_succ, List.drop_zero, List.drop_succ_cons, List.take_zero, List.take_succ_cons, Nat.zero_add, Nat.add_zero, Nat.reduceAdd, List.cons_append, List.nil_append, List.eraseIdx_cons_zero, List.eraseIdx_cons_succ])
    refine W ?_
    refine LS_c1 (fun h' HL wf => implThenP_ac la lb va vb h' (HL.rdI 1 rfl enI1 (by decide)) (HL.rdI 0 rfl enI1 (by decide)) (by omega) (by omega)) rfl rfl ?_
    try (dsimp only [st, setL, AV.cells, List.set_cons_zero, List.set_cons_succ, List.drop_zero, List.drop_succ_cons, List.take_zero, List.take_succ_cons, Nat.zero_add, Nat.add_zero, Nat.reduceAdd, List.cons_append, List.nil_append, List.eraseIdx_cons_zero, List.eraseIdx_cons_succ])
    refine W ?_
    rintro _ _ ⟨ab, rfl, lab, sab, rfl⟩
    try (dsimp only [st, setL, AV.cells, List.set_cons_zero, List.set_cons_succ, List.drop_zero, List.drop_succ_cons, List.take_zero, List.take_succ_cons, Nat.zero_add, Nat.add_zero, Nat.reduceAdd, List.cons_append, List.nil_append, List.eraseIdx_cons_zero, List.eraseIdx_cons_succ])
    refine W ?_
    refine LS_c1 (fun h' HL wf => specThenP_ac la lb va vb h' (HL.rdI 2 rfl enI1 (by decide)) (HL.rdI 1 rfl enI1 (by decide)) (by omega) (by omega)) rfl rfl ?_
    try (dsimp only [st, setL, AV.cells, List.set_cons_zero, List.set_cons_succ, List.drop_zero, List.drop_succ_cons, List.take_zero, List.take_succ_cons, Nat.zero_add, Nat.add_zero, Nat.reduceAdd, List.cons_append, List.nil_append, List.eraseIdx_cons_zero, List.eraseIdx_cons_succ])
    refine W ?_
    rintro _ _ ⟨rt, rfl, lrt, srt, rfl⟩
    try (dsimp only [st, setL, AV.cells, List.set_cons_zero, List.set_cons_succ, List.drop_zero, List.drop_succ_cons, List.take_zero, List.take_succ_cons, Nat.zero_add, Nat.add_zero, Nat.reduceAdd, List.cons_append, List.nil_append, List.eraseIdx_cons_zero, List.eraseIdx_cons_succ])
    refine W ?_
    first | (refine LS_gyH rfl (by simp) ?_; intro hg) | (refine LI_cond_tH rfl (by simp) ?_; intro hg)
    refine W ?_
    have hrl := thenR_len (a := la) (b := lb)
    refine LS_c0 (fun h' HL wf => rSame_ac (thenR la lb) ab rt h' (HL.rdI 1 rfl enI1 (by decide)) (HL.rdI 0 rfl enI1 (by decide)) (by omega)) rfl rfl ?_
    try (dsimp only [st, setL, AV.cells, List.set_cons_zero, List.set_cons_succ, List.drop_zero, List.drop_succ_cons, List.take_zero, List.take_succ_cons, Nat.zero_add, Nat.add_zero, Nat.reduceAdd, List.cons_append, List.nil_append, List.eraseIdx_cons_zero, List.eraseIdx_cons_succ])
    refine W ?_
    try ((first | (refine LS_gtnH rfl (by simp) ?_; intro hg; try (dsimp only [st, setL, AV.cells, List.set_cons_zero, List.set_cons_succ, List.drop_zero, List.drop_succ_cons, List.take_zero, List.take_succ_cons, Nat.zero_add, Nat.add_zero, Nat.reduceAdd, List.cons_append, List.nil_append, List.eraseIdx_cons_zero, List.eraseIdx_cons_succ])) | (refine LS_gfnH rfl (by simp) ?_; intro hg; try (dsimp only [st, setL, AV.cells, List.set_cons_zero, List.set_cons_succ, List.drop_zero, List.drop_succ_cons, List.take_zero, List.take_succ_cons, Nat.zero_add, Nat.add_zero, Nat.reduceAdd, List.cons_append, List.nil_append, List.eraseIdx_cons_zero, List.eraseIdx_cons_succ])) | (refine LI_cond_fH rfl (by simp) ?_; intro hg)); refine W ?_)
    refine LI_post (fun a M => (∃ r : Nat → AV, a = [r 0, v2, r 2, r 3, r 4, r 5, r 6, r 7, r 8, r 9, r 10, r 11, r 12, r 13, r 14, r 15, r 16, r 17, r 18, r 19, r 20, r 21, r 22, r 23, r 24, r 25, r 26, r 27, r 28, r 29, r 30, r 31, r 32, r 33, r 34, r 35, r 36, r 37, r 38, r 39, r 40, r 41, r 42, r 43, r 44, r 45, r 46, r 47, r 48, r 49, r 50, r 51, r 52, r 53, r 54, r 55, r 56, r 57, r 58, r 59, r 60, r 61, r 62, r 63, r 64, r 65, r 66, r 67, r 68, r 69, r 70, r 71, r 72, r 73, r 74, r 75, r 76, r 77, r 78, r 79, r 80, r 81, r 82, r 83, r 84, r 85, r 86, r 87, r 88, r 89, r 90, r 91, r 92, r 93, r 94, r 95, r 96, r 97, r 98, r 99, r 100, r 101, r 102, r 103, r 104, r 105, r 106, r 107, r 108, r 109, r 110, r 111, r 112, r 113, r 114, r 115, r 116, r 117, r 118, r 119, r 120, r 121, r 122, r 123, r 124, r 125, r 126, r 127, r 128, r 129, r 130, r 131, r 132, r 133, r 134, r 135, r 136, r 137, r 138, r 139, r 140, r 141, r 142, r 143, r 144, r 145, r 146, r 147, r 148, r 149, r 150, r 151, r 152, r 153, r 154, r 155, r 156, r 157, r 158, r 159, r 160, r 161, r 162, r 163, r 164, r 165, r 166, r 167, r 168, r 169, r 170, r 171, r 172, r 173, r 174, r 175, r 176, r 177, r 178, r 179, r 180, r 181, r 182, r 183, r 184, r 185, r 186, r 187, r 188, r 189, r 190, r 191, r 192]) ∧ True) ?_ ?_
    · cases hO : thenOk la lb
      · first | (refine LS_gtnH rfl (rfl) ?_; intro hg; try (dsimp only [st, setL, AV.cells, List.set_cons_zero, List.set_cons_succ, List.drop_zero, List.drop_succ_cons, List.take_zero, List.take_succ_cons, Nat.zero_add, Nat.add_zero, Nat.reduceAdd, List.cons_append, List.nil_append, List.eraseIdx_cons_zero, List.eraseIdx_cons_succ])) | (refine LS_gfnH rfl (rfl) ?_; intro hg; try (dsimp only [st, setL, AV.cells, List.set_cons_zero, List.set_cons_succ, List.drop_zero, List.drop_succ_cons, List.take_zero, List.take_succ_cons, Nat.zero_add, Nat.add_zero, Nat.reduceAdd, List.cons_append, List.nil_append, List.eraseIdx_cons_zero, List.eraseIdx_cons_succ])) | (refine LI_cond_fH rfl (rfl) ?_; intro hg)
        refine W ?_
        exact ⟨rfl, exJ rfl, trivial⟩
      · first | (refine LS_gyH rfl (rfl) ?_; intro hg) | (refine LI_cond_tH rfl (rfl) ?_; intro hg)
        refine W ?_
        have hO' := hO
        simp only [thenOk, Bool.and_eq_true, decide_eq_true_eq] at hO'
        obtain ⟨p1, p2, p3⟩ := hO'
        have p4 := (isPerm_out p1).2.2
        have p5 := (isPerm_out p2).2.2
        have hE : thenR la lb = pickM lb la := by rw [thenR, if_pos hO]
        have hm : ∀ i ∈ la, 0 ≤ i ∧ i < lb.length := by rw [← p3]; exact (permB_out p4).2
        have hpl := pickM_lenG hm
        have hpp := pick_perm p4 p5 p3
        refine LIL_ind (fun k a L => ∃ (i : Int), (∃ r : Nat → AV, a = [r 0, v2, r 2, r 3, r 4, va, vb, ab, r 8, r 9, r 10, r 11, r 12, r 13, r 14, r 15, r 16, r 17, r 18, r 19, r 20, r 21, r 22, r 23, r 24, r 25, r 26, r 27, r 28, r 29, r 30, r 31, r 32, r 33, r 34, r 35, r 36, r 37, r 38, r 39, r 40, r 41, r 42, r 43, r 44, r 45, r 46, r 47, r 48, r 49, r 50, r 51, r 52, r 53, r 54, r 55, r 56, r 57, r 58, r 59, r 60, r 61, r 62, .i .i64 la.length, .i .i64 i, r 65, r 66, r 67, r 68, r 69, r 70, r 71, r 72, r 73, r 74, r 75, r 76, r 77, r 78, r 79, r 80, r 81, r 82, r 83, r 84, r 85, r 86, r 87, r 88, r 89, r 90, r 91, r 92, r 93, r 94, r 95, r 96, r 97, r 98, r 99, r 100, r 101, r 102, r 103, r 104, r 105, r 106, r 107, r 108, r 109, r 110, r 111, r 112, r 113, r 114, r 115, r 116, r 117, r 118, r 119, r 120, r 121, r 122, r 123, r 124, r 125, r 126, r 127, r 128, r 129, r 130, r 131, r 132, r 133, r 134, r 135, r 136, r 137, r 138, r 139, r 140, r 141, r 142, r 143, r 144, r 145, r 146, r 147, r 148, r 149, r 150, r 151, r 152, r 153, r 154, r 155, r 156, r 157, r 158, r 159, r 160, r 161, r 162, r 163, r 164, r 165, r 166, r 167, r 168, r 169, r 170, r 171, r 172, r 173, r 174, r 175, r 176, r 177, r 178, r 179, r 180, r 181, r 182, r 183, r 184, r 185, r 186, r 187, r 188, r 189, r 190, r 191, r 192]) ∧ L = [.sl rt 1 ((thenR la lb).flatMap enI), .sl ab 1 ((thenR la lb).flatMap enI), .sl vb 1 (lb.flatMap enI), .sl va 1 (la.flatMap enI)] ∧ 0 ≤ i ∧ i + k = la.length)
          la.length ⟨0, exJ rfl, rfl, by omega, by omega⟩ ?_
        rintro k a L ⟨i, ⟨r, rfl⟩, rfl, h0, hk⟩ IH
        refine W ?_
        (first | refine LS_gt rfl ?_ ?_ | refine LS_gf rfl ?_ ?_ | refine LI_cond rfl ?_ ?_) <;> intro hc <;> have hc' := hc <;> try simp only [decide_eq_true_eq, decide_eq_false_iff_not, Bool.not_eq_true', Bool.not_eq_false', Bool.not_eq_true, Bool.not_eq_false, beq_iff_eq, bne_iff_ne, beq_eq_false_iff_ne, bne_eq_false_iff_eq, Int.not_lt, Int.not_le, ge_iff_le, gt_iff_lt, not_and, ne_eq, Decidable.not_not] at hc'
        all_goals (try (dsimp only [st, setL, AV.cells, List.set_cons_zero, List.set_cons_succ, List.drop_zero, List.drop_succ_cons, List.take_zero, List.take_succ_cons, Nat.zero_add, Nat.add_zero, Nat.reduceAdd, List.cons_append, List.nil_append, List.eraseIdx_cons_zero, List.eraseIdx_cons_succ]))
        all_goals (refine W ?_)
        · obtain ⟨y, hy, hym, _⟩ := drop_at (l := la) h0 hc'
          have hyb := hm y hym
          have g1 : lb[y.toNat]? = some lb[y.toNat] := List.getElem?_eq_getElem (by omega)
          have g2 := pickM_getG hm hy
          rw [g1, ← hE] at g2
          generalize lb[y.toNat] = z at *
          refine dz4_0 ?_
          refine WX ?_
          refine W ?_
          refine LX_ix (fun h' HL => HL.rdI 1 rfl enI1 (by decide)) enI1 g2 h0 rfl rfl noG fun q1 o1 hrow1 => ?_
          try (dsimp only [st, setL, AV.cells, List.set_cons_zero, List.set_cons_succ, List.drop_zero, List.drop_succ_cons, List.take_zero, List.take_succ_cons, Nat.zero_add, Nat.add_zero, Nat.reduceAdd, List.cons_append, List.nil_append, List.eraseIdx_cons_zero, List.eraseIdx_cons_succ])
          refine WX ?_
          refine W ?_
          refine LX_ix (fun h' HL => HL.rdI 3 rfl enI1 (by decide)) enI1 hy h0 rfl rfl noG fun q2 o2 hrow2 => ?_
          try (dsimp only [st, setL, AV.cells, List.set_cons_zero, List.set_cons_succ, List.drop_zero, List.drop_succ_cons, List.take_zero, List.take_succ_cons, Nat.zero_add, Nat.add_zero, Nat.reduceAdd, List.cons_append, List.nil_append, List.eraseIdx_cons_zero, List.eraseIdx_cons_succ])
          refine WX ?_
          refine W ?_
          refine LX_ix (fun h' HL => HL.rdI 2 rfl enI1 (by decide)) enI1 g1 hyb.1 rfl rfl noG fun q3 o3 hrow3 => ?_
          try (dsimp only [st, setL, AV.cells, List.set_cons_zero, List.set_cons_succ, List.drop_zero, List.drop_succ_cons, List.take_zero, List.take_succ_cons, Nat.zero_add, Nat.add_zero, Nat.reduceAdd, List.cons_append, List.nil_append, List.eraseIdx_cons_zero, List.eraseIdx_cons_succ])
          refine WX ?_
          refine W ?_
          first | (refine LS_gtnH rfl (by simp) ?_; intro hg; try (dsimp only [st, setL, AV.cells, List.set_cons_zero, List.set_cons_succ, List.drop_zero, List.drop_succ_cons, List.take_zero, List.take_succ_cons, Nat.zero_add, Nat.add_zero, Nat.reduceAdd, List.cons_append, List.nil_append, List.eraseIdx_cons_zero, List.eraseIdx_cons_succ])) | (refine LS_gfnH rfl (by simp) ?_; intro hg; try (dsimp only [st, setL, AV.cells, List.set_cons_zero, List.set_cons_succ, List.drop_zero, List.drop_succ_cons, List.take_zero, List.take_succ_cons, Nat.zero_add, Nat.add_zero, Nat.reduceAdd, List.cons_append, List.nil_append, List.eraseIdx_cons_zero, List.eraseIdx_cons_succ])) | (refine LI_cond_fH rfl (by simp) ?_; intro hg)
          refine W ?_
          refine IH (k - 1) _ _ (by omega) ⟨i + 1, exJ rfl, rfl, by omega, by omega⟩
        · have hip : isPerm (thenR la lb) = true := by
            have := isPerm_out p1
            rw [hE, isPerm, hpp.1, decide_eq_true (by rw [hpl]; omega)]; rfl
          refine LS_c0 (fun h' HL wf => implIP_ac (thenR la lb) ab h' (HL.rdI 1 rfl enI1 (by decide)) (by omega)) rfl rfl ?_
          try (dsimp only [st, setL, AV.cells, List.set_cons_zero, List.set_cons_succ, List.drop_zero, List.drop_succ_cons, List.take_zero, List.take_succ_cons, Nat.zero_add, Nat.add_zero, Nat.reduceAdd, List.cons_append, List.nil_append, List.eraseIdx_cons_zero, List.eraseIdx_cons_succ])
          refine W ?_
          refine LS_c0 (fun h' HL wf => implIP_ac la va h' (HL.rdI 3 rfl enI1 (by decide)) (by omega)) rfl rfl ?_
          try (dsimp only [st, setL, AV.cells, List.set_cons_zero, List.set_cons_succ, List.drop_zero, List.drop_succ_cons, List.take_zero, List.take_succ_cons, Nat.zero_add, Nat.add_zero, Nat.reduceAdd, List.cons_append, List.nil_append, List.eraseIdx_cons_zero, List.eraseIdx_cons_succ])
          refine W ?_
          rw [hip, p1, hE, hpl]
          refine W ?_
          try ((first | (refine LS_gtnH rfl (by simp) ?_; intro hg; try (dsimp only [st, setL, AV.cells, List.set_cons_zero, List.set_cons_succ, List.drop_zero, List.drop_succ_cons, List.take_zero, List.take_succ_cons, Nat.zero_add, Nat.add_zero, Nat.reduceAdd, List.cons_append, List.nil_append, List.eraseIdx_cons_zero, List.eraseIdx_cons_succ])) | (refine LS_gfnH rfl (by simp) ?_; intro hg; try (dsimp only [st, setL, AV.cells, List.set_cons_zero, List.set_cons_succ, List.drop_zero, List.drop_succ_cons, List.take_zero, List.take_succ_cons, Nat.zero_add, Nat.add_zero, Nat.reduceAdd, List.cons_append, List.nil_append, List.eraseIdx_cons_zero, List.eraseIdx_cons_succ])) | (refine LI_cond_fH rfl (by simp) ?_; intro hg)); refine W ?_)
          exact ⟨rfl, exJ rfl, trivial⟩
    · rintro _ _ ⟨⟨r, rfl⟩, _⟩
      refine LThen_n ?_
      refine W ?_
      refine LS_sub (List.nil_sublist _) ?_
      refine LS_c1 (fun h' HL wf => DrawPermutationPower_ac c2 v2 h' (hR2.le HL.le) b2) rfl rfl ?_
      try (dsimp only [st, setL, AV.cells, List.set_cons_zero, List.set_cons_succ, List.drop_zero, List.drop_succ_cons, List.take_zero, List.take_succ_cons, Nat.zero_add, Nat.add_zero, Nat.reduceAdd, List.cons_append, List.nil_append, List.eraseIdx_cons_zero, List.eraseIdx_cons_succ])
      refine W ?_
      rintro _ _ ⟨vx, x, e, rfl, ⟨k7, k8, k9⟩, ⟨k10, k11⟩, rfl⟩
      try (dsimp only [st, setL, AV.cells, List.set_cons_zero, List.set_cons_succ, List.drop_zero, List.drop_succ_cons, List.take_zero, List.take_succ_cons, Nat.zero_add, Nat.add_zero, Nat.reduceAdd, List.cons_append, List.nil_append, List.eraseIdx_cons_zero, List.eraseIdx_cons_succ])
      refine W ?_
      refine LS_c1 (fun h' HL wf => implPowP_ac x e vx h' (HL.rdI 0 rfl enI1 (by decide)) (by omega)) rfl rfl ?_
      try (dsimp only [st, setL, AV.cells, List.set_cons_zero, List.set_cons_succ, List.drop_zero, List.drop_succ_cons, List.take_zero, List.take_succ_cons, Nat.zero_add, Nat.add_zero, Nat.reduceAdd, List.cons_append, List.nil_append, List.eraseIdx_cons_zero, List.eraseIdx_cons_succ])
      refine W ?_
      rintro _ _ ⟨pw, rfl, lpw, spw, rfl⟩
      try (dsimp only [st, setL, AV.cells, List.set_cons_zero, List.set_cons_succ, List.drop_zero, List.drop_succ_cons, List.take_zero, List.take_succ_cons, Nat.zero_add, Nat.add_zero, Nat.reduceAdd, List.cons_append, List.nil_append, List.eraseIdx_cons_zero, List.eraseIdx_cons_succ])
      refine W ?_
      refine LS_c1 (fun h' HL wf => specPowP_ac x e vx h' (HL.rdI 1 rfl enI1 (by decide)) (by omega)) rfl rfl ?_
      try (dsimp only [st, setL, AV.cells, List.set_cons_zero, List.set_cons_succ, List.drop_zero, List.drop_succ_cons, List.take_zero, List.take_succ_cons, Nat.zero_add, Nat.add_zero, Nat.reduceAdd, List.cons_append, List.nil_append, List.eraseIdx_cons_zero, List.eraseIdx_cons_succ])
      refine W ?_
      rintro _ _ ⟨wt, rfl, lwt, swt, rfl⟩
      try (dsimp only [st, setL, AV.cells, List.set_cons_zero, List.set_cons_succ, List.drop_zero, List.drop_succ_cons, List.take_zero, List.take_succ_cons, Nat.zero_add, Nat.add_zero, Nat.reduceAdd, List.cons_append, List.nil_append, List.eraseIdx_cons_zero, List.eraseIdx_cons_succ])
      refine W ?_
      refine LS_c0 (fun h' HL wf => implOrdP_ac x vx h' (HL.rdI 2 rfl enI1 (by decide)) (by omega)) rfl rfl ?_
      try (dsimp only [st, setL, AV.cells, List.set_cons_zero, List.set_cons_succ, List.drop_zero, List.drop_succ_cons, List.take_zero, List.take_succ_cons, Nat.zero_add, Nat.add_zero, Nat.reduceAdd, List.cons_append, List.nil_append, List.eraseIdx_cons_zero, List.eraseIdx_cons_succ])
      refine W ?_
      refine LS_c0 (fun h' HL wf => specOrdP_ac x vx h' (HL.rdI 2 rfl enI1 (by decide)) (by omega)) rfl rfl ?_
      try (dsimp only [st, setL, AV.cells, List.set_cons_zero, List.set_cons_succ, List.drop_zero, List.drop_succ_cons, List.take_zero, List.take_succ_cons, Nat.zero_add, Nat.add_zero, Nat.reduceAdd, List.cons_append, List.nil_append, List.eraseIdx_cons_zero, List.eraseIdx_cons_succ])
      refine W ?_
      first | (refine LS_gyH rfl (by simp) ?_; intro hg) | (refine LI_cond_tH rfl (by simp) ?_; intro hg)
      refine W ?_
      have hrp := powR_len (a := x) (e := e)
      refine LS_c0 (fun h' HL wf => rSame_ac (powR e x) pw wt h' (HL.rdI 1 rfl enI1 (by decide)) (HL.rdI 0 rfl enI1 (by decide)) (by omega)) rfl rfl ?_
      try (dsimp only [st, setL, AV.cells, List.set_cons_zero, List.set_cons_succ, List.drop_zero, List.drop_succ_cons, List.take_zero, List.take_succ_cons, Nat.zero_add, Nat.add_zero, Nat.reduceAdd, List.cons_append, List.nil_append, List.eraseIdx_cons_zero, List.eraseIdx_cons_succ])
      refine W ?_
      first | (refine LS_gyH rfl (by simp) ?_; intro hg) | (refine LI_cond_tH rfl (by simp) ?_; intro hg)
      refine W ?_
      first | (refine LS_gtnH rfl (by simp) ?_; intro hg; try (dsimp only [st, setL, AV.cells, List.set_cons_zero, List.set_cons_succ, List.drop_zero, List.drop_succ_cons, List.take_zero, List.take_succ_cons, Nat.zero_add, Nat.add_zero, Nat.reduceAdd, List.cons_append, List.nil_append, List.eraseIdx_cons_zero, List.eraseIdx_cons_succ])) | (refine LS_gfnH rfl (by simp) ?_; intro hg; try (dsimp only [st, setL, AV.cells, List.set_cons_zero, List.set_cons_succ, List.drop_zero, List.drop_succ_cons, List.take_zero, List.take_succ_cons, Nat.zero_add, Nat.add_zero, Nat.reduceAdd, List.cons_append, List.nil_append, List.eraseIdx_cons_zero, List.eraseIdx_cons_succ])) | (refine LI_cond_fH rfl (by simp) ?_; intro hg)
      refine W ?_
      cases h3 : isPerm x
      · first | (refine LS_gyH rfl (rfl) ?_; intro hg) | (refine LI_cond_tH rfl (rfl) ?_; intro hg)
        refine W ?_
        refine RET fun h' HL => ?_
        try dsimp only [oneA]
      · first | (refine LS_gtnH rfl (rfl) ?_; intro hg; try (dsimp only [st, setL, AV.cells, List.set_cons_zero, List.set_cons_succ, List.drop_zero, List.drop_succ_cons, List.take_zero, List.take_succ_cons, Nat.zero_add, Nat.add_zero, Nat.reduceAdd, List.cons_append, List.nil_append, List.eraseIdx_cons_zero, List.eraseIdx_cons_succ])) | (refine LS_gfnH rfl (rfl) ?_; intro hg; try (dsimp only [st, setL, AV.cells, List.set_cons_zero, List.set_cons_succ, List.drop_zero, List.drop_succ_cons, List.take_zero, List.take_succ_cons, Nat.zero_add, Nat.add_zero, Nat.reduceAdd, List.cons_append, List.nil_append, List.eraseIdx_cons_zero, List.eraseIdx_cons_succ])) | (refine LI_cond_fH rfl (rfl) ?_; intro hg)
        refine W ?_
        obtain ⟨g1, g2, g3⟩ := isPerm_out h3
        obtain ⟨g4, g5, g6, g7⟩ := ordI_spec g3 g2
        have hord : ordR x = (ordI x : Int) := by rw [ordR, if_pos h3]
        have hpk : ∀ k : Nat, k ≤ 1000000 → powOk (k : Int) x = true := fun k hk => by rw [powOk, h3, decide_eq_true (by omega)]; rfl
        have hrk : ∀ k : Nat, k ≤ 1000000 → powR (k : Int) x = pwI x k := fun k hk => by rw [powR, if_pos (hpk k hk), Int.toNat_natCast]
        have hp0 : powOk 0 x = true := hpk 0 (by omega)
        have hr0 : powR 0 x = pwI x 0 := hrk 0 (by omega)
        have hn0 : (!powOk 0 x) = false := by rw [hp0]; rfl
        rw [hord]
        refine LS_c1 (fun h' HL wf => implPowP_ac x 0 vx h' (HL.rdI 2 rfl enI1 (by decide)) (by omega)) rfl rfl ?_
        try (dsimp only [st, setL, AV.cells, List.set_cons_zero, List.set_cons_succ, List.drop_zero, List.drop_succ_cons, List.take_zero, List.take_succ_cons, Nat.zero_add, Nat.add_zero, Nat.reduceAdd, List.cons_append, List.nil_append, List.eraseIdx_cons_zero, List.eraseIdx_cons_succ])
        refine W ?_
        rintro _ _ ⟨st0, rfl, lst, sst, rfl⟩
        try (dsimp only [st, setL, AV.cells, List.set_cons_zero, List.set_cons_succ, List.drop_zero, List.drop_succ_cons, List.take_zero, List.take_succ_cons, Nat.zero_add, Nat.add_zero, Nat.reduceAdd, List.cons_append, List.nil_append, List.eraseIdx_cons_zero, List.eraseIdx_cons_succ])
        refine W ?_
        refine LIL_ind (fun n a' L => ∃ (k : Nat), (∃ r : Nat → AV, a' = [r 0, r 1, r 2, r 3, r 4, r 5, r 6, r 7, r 8, r 9, r 10, r 11, r 12, r 13, r 14, vx, .i .i64 e, pw, .b (powOk e x), r 19, r 20, .i .i64 (ordI x : Int), r 22, r 23, r 24, st0, .b (powOk 0 x), .i .i64 (k : Int), r 28, r 29, r 30, r 31, r 32, r 33, r 34, r 35, r 36, r 37, r 38, r 39, r 40, r 41, r 42, r 43, r 44, r 45, r 46, r 47, r 48, r 49, r 50, r 51, r 52, r 53, r 54, r 55, r 56, r 57, r 58, r 59, r 60, r 61, r 62, r 63, r 64, r 65, r 66, r 67, r 68, r 69, r 70, r 71, r 72, r 73, r 74, r 75, r 76, r 77, r 78, r 79, r 80, r 81, r 82, r 83, r 84, r 85, r 86, r 87, r 88, r 89, r 90, r 91, r 92, r 93, r 94, r 95, r 96, r 97, r 98, r 99, r 100, r 101, r 102, r 103, r 104, r 105, r 106, r 107, r 108, r 109, r 110, r 111, r 112, r 113, r 114, r 115, r 116, r 117, r 118, r 119, r 120, r 121, r 122, r 123, r 124, r 125, r 126, r 127, r 128, r 129, r 130, r 131, r 132, r 133, r 134, r 135, r 136, r 137, r 138, r 139, r 140, r 141, r 142, r 143, r 144, r 145, r 146, r 147, r 148, r 149, r 150, r 151, r 152, r 153, r 154, r 155, r 156, r 157, r 158, r 159, r 160, r 161, r 162, r 163, r 164, r 165, r 166, r 167, r 168, r 169, r 170, r 171, r 172, r 173, r 174, r 175, r 176, r 177, r 178, r 179, r 180, r 181, r 182, r 183, r 184, r 185, r 186, r 187, r 188, r 189, r 190, r 191, r 192]) ∧ L = [.sl st0 1 ((powR 0 x).flatMap enI), .sl wt 1 ((powR e x).flatMap enI), .sl pw 1 ((powR e x).flatMap enI), .sl vx 1 (x.flatMap enI)] ∧ 1 ≤ k ∧ k + n = ordI x + 1)
          (ordI x) ⟨1, exJ rfl, rfl, by omega, by omega⟩ ?_
        rintro n a' L ⟨k, ⟨r, rfl⟩, rfl, hk1, hkn⟩ IH
        refine W ?_
        (first | refine LS_gt rfl ?_ ?_ | refine LS_gf rfl ?_ ?_ | refine LI_cond rfl ?_ ?_) <;> intro hc <;> have hc' := hc <;> try simp only [decide_eq_true_eq, decide_eq_false_iff_not, Bool.not_eq_true', Bool.not_eq_false', Bool.not_eq_true, Bool.not_eq_false, beq_iff_eq, bne_iff_ne, beq_eq_false_iff_ne, bne_eq_false_iff_eq, Int.not_lt, Int.not_le, ge_iff_le, gt_iff_lt, not_and, ne_eq, Decidable.not_not] at hc'
        all_goals (try (dsimp only [st, setL, AV.cells, List.set_cons_zero, List.set_cons_succ, List.drop_zero, List.drop_succ_cons, List.take_zero, List.take_succ_cons, Nat.zero_add, Nat.add_zero, Nat.reduceAdd, List.cons_append, List.nil_append, List.eraseIdx_cons_zero, List.eraseIdx_cons_succ]))
        all_goals (refine W ?_)
        · have hk2 : k ≤ ordI x := by omega
          have hnk : (!powOk (k : Int) x) = false := by rw [hpk k (by omega)]; rfl
          have hlk : (powR (k : Int) x).length ≤ 1048576 := powR_len
          have hl0 : (powR 0 x).length ≤ 1048576 := powR_len
          refine LS_c1 (fun h' HL wf => implPowP_ac x k vx h' (HL.rdI 3 rfl enI1 (by decide)) (by omega)) rfl rfl ?_
          try (dsimp only [st, setL, AV.cells, List.set_cons_zero, List.set_cons_succ, List.drop_zero, List.drop_succ_cons, List.take_zero, List.take_succ_cons, Nat.zero_add, Nat.add_zero, Nat.reduceAdd, List.cons_append, List.nil_append, List.eraseIdx_cons_zero, List.eraseIdx_cons_succ])
          refine W ?_
          rintro _ _ ⟨nw, rfl, lnw, snw, rfl⟩
          try (dsimp only [st, setL, AV.cells, List.set_cons_zero, List.set_cons_succ, List.drop_zero, List.drop_succ_cons, List.take_zero, List.take_succ_cons, Nat.zero_add, Nat.add_zero, Nat.reduceAdd, List.cons_append, List.nil_append, List.eraseIdx_cons_zero, List.eraseIdx_cons_succ])
          refine W ?_
          refine LS_c0 (fun h' HL wf => rSameV_ac (powR (k : Int) x) (powR 0 x) nw st0 h' (HL.rdI 0 rfl enI1 (by decide)) (HL.rdI 1 rfl enI1 (by decide)) (by omega) (by omega)) rfl rfl ?_
          try (dsimp only [st, setL, AV.cells, List.set_cons_zero, List.set_cons_succ, List.drop_zero, List.drop_succ_cons, List.take_zero, List.take_succ_cons, Nat.zero_add, Nat.add_zero, Nat.reduceAdd, List.cons_append, List.nil_append, List.eraseIdx_cons_zero, List.eraseIdx_cons_succ])
          refine W ?_
          have hcmp : (decide (pwI x k = iotaI x.length) != ((k : Int) == (ordI x : Int))) = false := by
            by_cases e1 : k = ordI x
            · subst e1
              rw [decide_eq_true g6]; simp
            · rw [decide_eq_false (g7 k hk1 (by omega))]
              simp; omega
          try ((first | (refine LS_gtnH rfl (by rw [hrk k (by omega), hr0, pwI_0]; exact hcmp) ?_; intro hg; try (dsimp only [st, setL, AV.cells, List.set_cons_zero, List.set_cons_succ, List.drop_zero, List.drop_succ_cons, List.take_zero, List.take_succ_cons, Nat.zero_add, Nat.add_zero, Nat.reduceAdd, List.cons_append, List.nil_append, List.eraseIdx_cons_zero, List.eraseIdx_cons_succ])) | (refine LS_gfnH rfl (by rw [hrk k (by omega), hr0, pwI_0]; exact hcmp) ?_; intro hg; try (dsimp only [st, setL, AV.cells, List.set_cons_zero, List.set_cons_succ, List.drop_zero, List.drop_succ_cons, List.take_zero, List.take_succ_cons, Nat.zero_add, Nat.add_zero, Nat.reduceAdd, List.cons_append, List.nil_append, List.eraseIdx_cons_zero, List.eraseIdx_cons_succ])) | (refine LI_cond_fH rfl (by rw [hrk k (by omega), hr0, pwI_0]; exact hcmp) ?_; intro hg)); refine W ?_)
          refine LIL_drop 1 ?_
          refine IH (n - 1) _ _ (by omega) ⟨k + 1, exJ rfl, rfl, by omega, by omega⟩
        · cases hpe : powOk e x
          · first | (refine LS_gtnH rfl (rfl) ?_; intro hg; try (dsimp only [st, setL, AV.cells, List.set_cons_zero, List.set_cons_succ, List.drop_zero, List.drop_succ_cons, List.take_zero, List.take_succ_cons, Nat.zero_add, Nat.add_zero, Nat.reduceAdd, List.cons_append, List.nil_append, List.eraseIdx_cons_zero, List.eraseIdx_cons_succ])) | (refine LS_gfnH rfl (rfl) ?_; intro hg; try (dsimp only [st, setL, AV.cells, List.set_cons_zero, List.set_cons_succ, List.drop_zero, List.drop_succ_cons, List.take_zero, List.take_succ_cons, Nat.zero_add, Nat.add_zero, Nat.reduceAdd, List.cons_append, List.nil_append, List.eraseIdx_cons_zero, List.eraseIdx_cons_succ])) | (refine LI_cond_fH rfl (rfl) ?_; intro hg)
            refine W ?_
            refine RET fun h' HL => ?_
            try dsimp only [oneA]
          · first | (refine LS_gyH rfl (rfl) ?_; intro hg) | (refine LI_cond_tH rfl (rfl) ?_; intro hg)
            refine W ?_
            have he : 0 ≤ e ∧ e ≤ 1000000 := by
              simp only [powOk, Bool.and_eq_true, decide_eq_true_eq] at hpe
              exact hpe.2
            have hmod : e.tmod (ordI x : Int) = ((e.toNat % ordI x : Nat) : Int) := by
              rw [Int.tmod_eq_emod_of_nonneg he.1, Int.natCast_emod, Int.toNat_of_nonneg he.1]
            have hlt := Nat.mod_lt e.toNat (show 0 < ordI x by omega)
            have hre : powR e x = pwI x e.toNat := by rw [powR, if_pos hpe]
            have hrm : powR ((e.toNat % ordI x : Nat) : Int) x = powR e x := by rw [hrk _ (by omega), hre, pwI_ord g3 g6]
            have hom := hpk (e.toNat % ordI x) (by omega)
            refine AL.LS_rm rfl rfl (by omega) ?_
            try (dsimp only [st, setL, AV.cells, List.set_cons_zero, List.set_cons_succ, List.drop_zero, List.drop_succ_cons, List.take_zero, List.take_succ_cons, Nat.zero_add, Nat.add_zero, Nat.reduceAdd, List.cons_append, List.nil_append, List.eraseIdx_cons_zero, List.eraseIdx_cons_succ])
            refine W ?_
            rw [hmod]
            refine LS_c1 (fun h' HL wf => implPowP_ac x ((e.toNat % ordI x : Nat) : Int) vx h' (HL.rdI 3 rfl enI1 (by decide)) (by omega)) rfl rfl ?_
            try (dsimp only [st, setL, AV.cells, List.set_cons_zero, List.set_cons_succ, List.drop_zero, List.drop_succ_cons, List.take_zero, List.take_succ_cons, Nat.zero_add, Nat.add_zero, Nat.reduceAdd, List.cons_append, List.nil_append, List.eraseIdx_cons_zero, List.eraseIdx_cons_succ])
            refine W ?_
            rintro _ _ ⟨nw, rfl, lnw, snw, rfl⟩
            rw [hrm, hom]
            try (dsimp only [st, setL, AV.cells, List.set_cons_zero, List.set_cons_succ, List.drop_zero, List.drop_succ_cons, List.take_zero, List.take_succ_cons, Nat.zero_add, Nat.add_zero, Nat.reduceAdd, List.cons_append, List.nil_append, List.eraseIdx_cons_zero, List.eraseIdx_cons_succ])
            refine W ?_
            refine LS_c0 (fun h' HL wf => rSame_ac (powR e x) nw pw h' (HL.rdI 0 rfl enI1 (by decide)) (HL.rdI 3 rfl enI1 (by decide)) (by omega)) rfl rfl ?_
            try (dsimp only [st, setL, AV.cells, List.set_cons_zero, List.set_cons_succ, List.drop_zero, List.drop_succ_cons, List.take_zero, List.take_succ_cons, Nat.zero_add, Nat.add_zero, Nat.reduceAdd, List.cons_append, List.nil_append, List.eraseIdx_cons_zero, List.eraseIdx_cons_succ])
            refine W ?_
            refine RET fun h' HL => ?_
            try dsimp only [oneA]
end Go.Proofs.Ytcopnjopglfllaa
